/- Plain laws of rows of marks: a producer's mark in a row, a mark that goes into a row, rows that are the same. -/
import Derived.Test.YtokhckbjdpgkfaaQ0
namespace Go.Proofs.Ytokhckbjdpgkfaa.P
set_option linter.unusedVariables false
set_option linter.unusedSimpArgs false
open Go.RowKit

/-- Each producer is above those ahead of it. -/
def RowUp (l : List S38) : Prop := l.Pairwise fun a b => a.f0 < b.f0
theorem rowUp_cons {a : S38} {l : List S38} : RowUp (a :: l) ↔ (∀ x ∈ l, a.f0 < x.f0) ∧ RowUp l := List.pairwise_cons
theorem strictUp_iff : ∀ l : List S38, strictUp l = true ↔ RowUp l
  | [] => by simp [strictUp, RowUp]
  | [a] => by simp [strictUp, RowUp]
  | a :: b :: r => by
    rw [rowUp_cons, ← strictUp_iff (b :: r)]
    show (decide (a.f0 < b.f0) && strictUp (b :: r)) = true ↔ _
    rw [Bool.and_eq_true, decide_eq_true_eq]
    constructor
    · rintro ⟨h1, h2⟩
      refine ⟨fun x hx => ?_, h2⟩
      rcases List.mem_cons.1 hx with rfl | hx
      · exact h1
      · have := ((rowUp_cons.1 ((strictUp_iff (b :: r)).1 h2)).1 x hx)
        omega
    · rintro ⟨h1, h2⟩
      exact ⟨h1 b (by simp), h2⟩

/-- A producer's mark in a row. -/
def getM (l : List S38) (p : Int) : Option S38 := l.find? fun m => m.f0 == p
theorem getM_nil (p : Int) : getM [] p = none := rfl
theorem getM_cons (a : S38) (l : List S38) (p : Int) : getM (a :: l) p = if a.f0 = p then some a else getM l p := by
  unfold getM
  rw [List.find?_cons]
  by_cases h : a.f0 = p
  · simp [h]
  · have e : (a.f0 == p) = false := beq_eq_false_iff_ne.2 h
    rw [e, if_neg h]
theorem getM_some {l : List S38} {p : Int} {m : S38} (h : getM l p = some m) : m ∈ l ∧ m.f0 = p :=
  ⟨List.mem_of_find?_eq_some h, by simpa using List.find?_some h⟩
theorem getM_none {l : List S38} {p : Int} : getM l p = none ↔ ∀ x ∈ l, x.f0 ≠ p := by
  unfold getM
  simp
theorem getM_mem {l : List S38} (hl : RowUp l) {m : S38} (hm : m ∈ l) : getM l m.f0 = some m := by
  induction l with
  | nil => cases hm
  | cons a l ih =>
    rw [getM_cons]
    rcases List.mem_cons.1 hm with rfl | hm
    · rw [if_pos rfl]
    · have := (rowUp_cons.1 hl).1 m hm
      rw [if_neg (by omega)]
      exact ih (rowUp_cons.1 hl).2 hm
theorem lastM_eq {l : List S38} (hl : RowUp l) (p : Int) : lastM l p = getM l p := by
  unfold lastM
  cases h : l.reverse.find? fun m => m.f0 == p with
  | none =>
    symm
    rw [getM_none]
    intro x hx
    have := List.find?_eq_none.1 h x (List.mem_reverse.2 hx)
    simpa using this
  | some m =>
    have h1 := List.mem_reverse.1 (List.mem_of_find?_eq_some h)
    have h2 : m.f0 = p := by simpa using List.find?_some h
    rw [← h2]
    exact (getM_mem hl h1).symm
/-- Rows whose producers have the same marks are the same. -/
theorem rowUp_ext : ∀ {a b : List S38}, RowUp a → RowUp b → (∀ p, getM a p = getM b p) → a = b
  | [], [], _, _, _ => rfl
  | [], y :: s, _, _, h => by
    have := h y.f0
    rw [getM_cons, if_pos rfl] at this
    cases this
  | x :: r, [], _, _, h => by
    have := h x.f0
    rw [getM_cons, if_pos rfl] at this
    cases this
  | x :: r, y :: s, ha, hb, h => by
    have e1 := h x.f0
    have e2 := h y.f0
    rw [getM_cons, if_pos rfl] at e1
    rw [getM_cons y, if_pos rfl] at e2
    have m1 := (getM_some e1.symm).1
    have m2 := (getM_some e2).1
    obtain ⟨ha1, ha2⟩ := rowUp_cons.1 ha
    obtain ⟨hb1, hb2⟩ := rowUp_cons.1 hb
    have e3 : x = y := by
      rcases List.mem_cons.1 m1 with h1 | h1
      · exact h1
      · rcases List.mem_cons.1 m2 with h2 | h2
        · exact h2.symm
        · have := hb1 x h1
          have := ha1 y h2
          omega
    subst e3
    congr 1
    refine rowUp_ext ha2 hb2 (fun p => ?_)
    have hp := h p
    rw [getM_cons, getM_cons] at hp
    by_cases c : x.f0 = p
    · subst c
      rw [getM_none.2 (fun z hz => by have := ha1 z hz; omega), getM_none.2 (fun z hz => by have := hb1 z hz; omega)]
    · rw [if_neg c, if_neg c] at hp
      exact hp

/-- A mark put where it belongs, in its producer's elder one's place if there is one. -/
def insR (m : S38) : List S38 → List S38
  | [] => [m]
  | x :: r => if x.f0 < m.f0 then x :: insR m r else if x.f0 = m.f0 then m :: r else m :: x :: r
theorem insR_mem {m : S38} : ∀ {l : List S38} {x : S38}, x ∈ insR m l → x = m ∨ x ∈ l
  | [], x, h => by simpa [insR] using h
  | y :: r, x, h => by
    unfold insR at h
    split at h
    · rcases List.mem_cons.1 h with rfl | h
      · exact .inr (by simp)
      · rcases insR_mem h with h | h
        · exact .inl h
        · exact .inr (List.mem_cons_of_mem _ h)
    · split at h
      · rcases List.mem_cons.1 h with h | h
        · exact .inl h
        · exact .inr (List.mem_cons_of_mem _ h)
      · rcases List.mem_cons.1 h with h | h
        · exact .inl h
        · exact .inr h
theorem insR_up {m : S38} : ∀ {l : List S38}, RowUp l → RowUp (insR m l)
  | [], _ => by simp [insR, RowUp]
  | x :: r, h => by
    obtain ⟨h1, h2⟩ := rowUp_cons.1 h
    unfold insR
    split
    · rename_i c
      refine rowUp_cons.2 ⟨fun y hy => ?_, insR_up h2⟩
      rcases insR_mem hy with rfl | hy
      · exact c
      · exact h1 y hy
    · split
      · rename_i c
        exact rowUp_cons.2 ⟨fun y hy => by have := h1 y hy; omega, h2⟩
      · refine rowUp_cons.2 ⟨fun y hy => ?_, h⟩
        rcases List.mem_cons.1 hy with rfl | hy
        · omega
        · have := h1 y hy
          omega
theorem getM_insR {m : S38} (p : Int) : ∀ {l : List S38}, RowUp l → getM (insR m l) p = if p = m.f0 then some m else getM l p
  | [], _ => by
    unfold insR
    rw [getM_cons, getM_nil]
    by_cases c : m.f0 = p
    · rw [if_pos c, if_pos c.symm]
    · rw [if_neg c, if_neg (fun e => c e.symm)]
  | x :: r, h => by
    obtain ⟨h1, h2⟩ := rowUp_cons.1 h
    unfold insR
    split
    · rename_i c
      rw [getM_cons, getM_cons, getM_insR p h2]
      by_cases c1 : x.f0 = p
      · rw [if_pos c1, if_pos c1, if_neg (by omega)]
      · rw [if_neg c1, if_neg c1]
    · split
      · rename_i c1 c
        rw [getM_cons, getM_cons]
        by_cases c2 : m.f0 = p
        · rw [if_pos c2, if_pos c2.symm]
        · rw [if_neg c2, if_neg (fun e => c2 e.symm), if_neg (by omega)]
      · rw [getM_cons m]
        by_cases c2 : m.f0 = p
        · rw [if_pos c2, if_pos c2.symm]
        · rw [if_neg c2, if_neg (fun e => c2 e.symm)]
theorem insR_length {m : S38} : ∀ {l : List S38}, RowUp l → (insR m l).length = l.length + (if (getM l m.f0).isSome then 0 else 1)
  | [], _ => rfl
  | x :: r, h => by
    obtain ⟨h1, h2⟩ := rowUp_cons.1 h
    unfold insR
    rw [getM_cons]
    by_cases c : x.f0 < m.f0
    · rw [if_pos c, if_neg (show ¬ x.f0 = m.f0 by omega), List.length_cons, List.length_cons, insR_length h2]
      omega
    · rw [if_neg c]
      by_cases c2 : x.f0 = m.f0
      · rw [if_pos c2, if_pos c2]
        rfl
      · rw [if_neg c2, if_neg c2, getM_none.2 (fun z hz => by have := h1 z hz; omega)]
        rfl
theorem findIdx_cons (p : S38 → Bool) (a : S38) (l : List S38) : (a :: l).findIdx? p = if p a then some 0 else (l.findIdx? p).map (· + 1) := by
  rw [List.findIdx?_cons]
theorem insR_set {m : S38} : ∀ {l : List S38} {i : Nat}, RowUp l → (l.findIdx? fun x => x.f0 == m.f0) = some i → getM l m.f0 = some (l.getD i z38) ∧ l.set i m = insR m l
  | [], i, _, h => by simp at h
  | x :: r, i, hl, h => by
    obtain ⟨h1, h2⟩ := rowUp_cons.1 hl
    rw [findIdx_cons] at h
    rw [getM_cons]
    unfold insR
    by_cases c : x.f0 = m.f0
    · simp [c] at h
      subst h
      rw [if_pos c, if_neg (by omega), if_pos c]
      exact ⟨rfl, rfl⟩
    · simp [c] at h
      obtain ⟨j, hj, rfl⟩ := h
      obtain ⟨e1, e2⟩ := insR_set h2 hj
      have := getM_some e1
      have := h1 _ this.1
      rw [if_neg c, if_pos (by omega), ← e2]
      exact ⟨e1, rfl⟩
theorem insR_take {m : S38} : ∀ {l : List S38}, (l.findIdx? fun x => x.f0 == m.f0) = none → getM l m.f0 = none ∧ l.take (placeOf l m) ++ ([m] ++ l.drop (placeOf l m)) = insR m l
  | [], h => ⟨rfl, rfl⟩
  | x :: r, h => by
    rw [findIdx_cons] at h
    rw [getM_cons]
    unfold insR
    by_cases c : x.f0 = m.f0
    · simp [c] at h
    · simp only [c, beq_iff_eq, if_false, Option.map_eq_none_iff] at h
      obtain ⟨e1, e2⟩ := insR_take h
      rw [if_neg c]
      refine ⟨e1, ?_⟩
      by_cases c2 : x.f0 < m.f0
      · rw [if_pos c2, ← e2]
        have : placeOf (x :: r) m = placeOf r m + 1 := by
          unfold placeOf
          rw [findIdx_cons]
          have : decide (x.f0 > m.f0) = false := decide_eq_false (by omega)
          rw [this]
          cases r.findIdx? fun x => decide (x.f0 > m.f0) <;> rfl
        rw [this]
        rfl
      · rw [if_neg c2, if_neg c]
        have : placeOf (x :: r) m = 0 := by
          unfold placeOf
          rw [findIdx_cons]
          have : decide (x.f0 > m.f0) = true := decide_eq_true (by omega)
          rw [this]
          rfl
        rw [this]
        rfl
theorem goesOne_eq {l : List S38} (hl : RowUp l) (m : S38) : goesOne l m = match getM l m.f0 with
    | some x => if x.f1 < m.f1 then some (insR m l) else some l
    | none => if l.length ≥ 6 then none else some (insR m l) := by
  unfold goesOne
  cases h : l.findIdx? fun x => x.f0 == m.f0 with
  | some i =>
    obtain ⟨e1, e2⟩ := insR_set hl h
    rw [e1]
    simp only [e2]
  | none =>
    obtain ⟨e1, e2⟩ := insR_take h
    rw [e1]
    simp only [e2]

/-- A mark goes into a row as the document's answer puts it. -/
def goL (put : Bool) (m : S38) : List S38 → List S38
  | [] => if put then [] else [m]
  | x :: r => (if !put && decide (x.f0 ≥ m.f0) then [m] else []) ++ ((if x.f0 = m.f0 then [] else [x]) ++ goL (put || decide (x.f0 ≥ m.f0)) m r)
theorem goL_true {m : S38} : ∀ {l : List S38}, (∀ x ∈ l, m.f0 < x.f0) → goL true m l = l
  | [], _ => rfl
  | x :: r, h => by
    unfold goL
    have := h x (by simp)
    simp only [Bool.not_true, Bool.false_and, Bool.true_or, Bool.false_eq_true, if_false]
    rw [if_neg (by omega), goL_true (fun y hy => h y (List.mem_cons_of_mem _ hy))]
    rfl
theorem goL_false {m : S38} : ∀ {l : List S38}, RowUp l → goL false m l = insR m l
  | [], _ => rfl
  | x :: r, h => by
    obtain ⟨h1, h2⟩ := rowUp_cons.1 h
    unfold goL insR
    by_cases c : x.f0 < m.f0
    · have : decide (x.f0 ≥ m.f0) = false := decide_eq_false (by omega)
      rw [this, if_pos c]
      simp only [Bool.not_false, Bool.and_false, Bool.or_false, Bool.false_eq_true, if_false]
      rw [if_neg (show ¬ x.f0 = m.f0 by omega), goL_false h2]
      rfl
    · have : decide (x.f0 ≥ m.f0) = true := decide_eq_true (by omega)
      rw [this, if_neg c]
      simp only [Bool.not_false, Bool.and_true, Bool.or_true, if_true]
      rw [goL_true (fun y hy => by have := h1 y hy; omega)]
      by_cases c2 : x.f0 = m.f0
      · rw [if_pos c2, if_pos c2]
        rfl
      · rw [if_neg c2, if_neg c2]
        rfl

theorem mayRow_iff (l : List S38) : mayRow l = true ↔ l.length ≤ 6 ∧ (∀ x ∈ l, mayM x = true) ∧ RowUp l := by
  unfold mayRow
  rw [Bool.and_eq_true, Bool.and_eq_true, decide_eq_true_eq, strictUp_iff, List.all_eq_true]
theorem goesOne_may {l r : List S38} {m : S38} (hl : mayRow l = true) (hm : mayM m = true) (h : goesOne l m = some r) : mayRow r = true := by
  obtain ⟨h1, h2, h3⟩ := (mayRow_iff l).1 hl
  rw [goesOne_eq h3] at h
  have key : ∀ x ∈ insR m l, mayM x = true := fun x hx => by
    rcases insR_mem hx with rfl | hx
    · exact hm
    · exact h2 x hx
  have hlen := insR_length (m := m) h3
  cases hg : getM l m.f0 with
  | some x =>
    rw [hg] at h hlen
    dsimp only at h
    split at h
    · cases h
      exact (mayRow_iff _).2 ⟨by simp at hlen; omega, key, insR_up h3⟩
    · cases h
      exact hl
  | none =>
    rw [hg] at h hlen
    dsimp only at h
    split at h
    · cases h
    · cases h
      exact (mayRow_iff _).2 ⟨by simp at hlen; omega, key, insR_up h3⟩

end Go.Proofs.Ytokhckbjdpgkfaa.P
