/- Plain laws of rows that are joined: each producer's mark is the later one, of those alike the first row's. -/
import Derived.Test.YtokhckbjdpgkfaaQ2
namespace Go.Proofs.Ytokhckbjdpgkfaa.P
set_option linter.unusedVariables false
set_option linter.unusedSimpArgs false
open Go.RowKit Go.Proofs.YtokhckbjdpgkfaaW.PrintWords Go.Proofs.YtokhckbjdpgkfaaW.PrintLast

/-- The later mark; of those alike the first. -/
def mx : Option S38 → Option S38 → Option S38
  | none, y => y
  | some a, none => some a
  | some a, some b => if a.f1 < b.f1 then some b else some a
theorem mx_none (x : Option S38) : mx x none = x := by cases x <;> rfl
theorem mx_assoc (x y z : Option S38) : mx (mx x y) z = mx x (mx y z) := by
  cases x with
  | none => rfl
  | some a =>
    cases y with
    | none => rfl
    | some b =>
      cases z with
      | none => rw [mx_none, mx_none]
      | some c =>
        unfold mx
        by_cases h1 : a.f1 < b.f1 <;> by_cases h2 : b.f1 < c.f1 <;> by_cases h3 : a.f1 < c.f1 <;> simp [h1, h2, h3] <;> omega
theorem mx_left {m y : S38} {t : Option S38} (h : mx (some m) t = some y) : y.f1 ≥ m.f1 ∧ (y.f1 = m.f1 → y = m) := by
  cases t with
  | none => cases h; exact ⟨Int.le_refl _, fun _ => rfl⟩
  | some b =>
    unfold mx at h
    dsimp only at h
    split at h
    · cases h
      exact ⟨by omega, fun e => by omega⟩
    · cases h
      exact ⟨Int.le_refl _, fun _ => rfl⟩
theorem mx_right {m : S38} (t : Option S38) : ∃ y, mx t (some m) = some y ∧ y.f1 ≥ m.f1 := by
  cases t with
  | none => exact ⟨m, rfl, Int.le_refl _⟩
  | some b =>
    unfold mx
    dsimp only
    split
    · exact ⟨m, rfl, Int.le_refl _⟩
    · exact ⟨b, rfl, by omega⟩
theorem mx_some (m : S38) (t : Option S38) : ∃ y, mx (some m) t = some y := by
  cases t with
  | none => exact ⟨m, rfl⟩
  | some b =>
    unfold mx
    dsimp only
    split <;> exact ⟨_, rfl⟩

/-- A mark goes into a row, whatever room there is. -/
def insU (l : List S38) (m : S38) : List S38 := match getM l m.f0 with
  | some x => if x.f1 < m.f1 then insR m l else l
  | none => insR m l
def joinU (l m : List S38) : List S38 := m.foldl insU l
theorem insU_up {l : List S38} (h : RowUp l) (m : S38) : RowUp (insU l m) := by
  unfold insU
  split
  · split
    · exact insR_up h
    · exact h
  · exact insR_up h
theorem getM_insU {l : List S38} (h : RowUp l) (m : S38) (p : Int) : getM (insU l m) p = if p = m.f0 then mx (getM l p) (some m) else getM l p := by
  unfold insU
  cases hg : getM l m.f0 with
  | some x =>
    dsimp only
    by_cases c : x.f1 < m.f1
    · rw [if_pos c, getM_insR p h]
      by_cases e : p = m.f0
      · rw [if_pos e, if_pos e, e, hg]
        unfold mx
        dsimp only
        rw [if_pos c]
      · rw [if_neg e, if_neg e]
    · rw [if_neg c]
      by_cases e : p = m.f0
      · rw [if_pos e, e, hg]
        unfold mx
        dsimp only
        rw [if_neg c]
      · rw [if_neg e]
  | none =>
    dsimp only
    rw [getM_insR p h]
    by_cases e : p = m.f0
    · rw [if_pos e, if_pos e, e, hg]
      rfl
    · rw [if_neg e, if_neg e]
theorem insU_len {l : List S38} (h : RowUp l) (m : S38) : l.length ≤ (insU l m).length ∧ ((getM l m.f0).isSome = true → (insU l m).length = l.length) ∧ (getM l m.f0 = none → (insU l m).length = l.length + 1) := by
  have hl := insR_length (m := m) h
  unfold insU
  cases hg : getM l m.f0 with
  | some x =>
    rw [hg] at hl
    simp at hl
    dsimp only
    split
    · exact ⟨by omega, fun _ => by omega, fun e => by cases e⟩
    · exact ⟨by omega, fun _ => by omega, fun e => by cases e⟩
  | none =>
    rw [hg] at hl
    simp at hl
    exact ⟨by dsimp only; omega, fun e => by simp at e, fun _ => by dsimp only; omega⟩
theorem goesOne_U {l : List S38} (h : RowUp l) (hn : l.length ≤ 6) (m : S38) : goesOne l m = if (insU l m).length ≤ 6 then some (insU l m) else none := by
  obtain ⟨h1, h2, h3⟩ := insU_len h m
  rw [goesOne_eq h]
  cases hg : getM l m.f0 with
  | some x =>
    rw [hg] at h2
    have e : (insU l m).length ≤ 6 := by rw [h2 rfl]; exact hn
    rw [if_pos e]
    unfold insU
    rw [hg]
    dsimp only
    split <;> rfl
  | none =>
    rw [h3 hg]
    dsimp only
    by_cases c : l.length ≥ 6
    · rw [if_pos c, if_neg (by omega)]
    · rw [if_neg c, if_pos (by omega)]
      unfold insU
      rw [hg]
theorem joinU_up : ∀ {m l : List S38}, RowUp l → RowUp (joinU l m)
  | [], l, h => h
  | x :: m, l, h => joinU_up (m := m) (insU_up h x)
theorem joinU_len : ∀ {m l : List S38}, RowUp l → l.length ≤ (joinU l m).length
  | [], l, h => Nat.le_refl _
  | x :: m, l, h => Nat.le_trans (insU_len h x).1 (joinU_len (m := m) (insU_up h x))
theorem goesAll_U : ∀ {m l : List S38}, RowUp l → l.length ≤ 6 → goesAll l m = if (joinU l m).length ≤ 6 then some (joinU l m) else none
  | [], l, h, hn => by
    unfold goesAll
    rw [if_pos (show (joinU l []).length ≤ 6 from hn)]
    rfl
  | x :: m, l, h, hn => by
    unfold goesAll
    rw [goesOne_U h hn x]
    have e : joinU l (x :: m) = joinU (insU l x) m := rfl
    rw [e]
    have hl := joinU_len (m := m) (insU_up h x)
    by_cases c : (insU l x).length ≤ 6
    · rw [if_pos c]
      exact goesAll_U (insU_up h x) c
    · rw [if_neg c, if_neg (by omega)]
theorem getM_joinU : ∀ {m l : List S38}, RowUp l → RowUp m → ∀ p, getM (joinU l m) p = mx (getM l p) (getM m p)
  | [], l, h, hm, p => by rw [getM_nil, mx_none]; rfl
  | x :: m, l, h, hm, p => by
    obtain ⟨h1, h2⟩ := rowUp_cons.1 hm
    have e : joinU l (x :: m) = joinU (insU l x) m := rfl
    rw [e, getM_joinU (insU_up h x) h2 p, getM_insU h, getM_cons]
    by_cases c : p = x.f0
    · have e2 : getM m p = none := getM_none.2 (fun z hz => by have := h1 z hz; omega)
      rw [if_pos c, if_pos c.symm, e2, mx_none]
    · rw [if_neg c, if_neg (fun e => c e.symm)]
theorem joinU_assoc {a b c : List S38} (ha : RowUp a) (hb : RowUp b) (hc : RowUp c) : joinU (joinU a b) c = joinU a (joinU b c) :=
  rowUp_ext (joinU_up (joinU_up ha)) (joinU_up ha) fun p => by
    rw [getM_joinU (joinU_up ha) hc, getM_joinU ha hb, getM_joinU ha (joinU_up hb), getM_joinU hb hc, mx_assoc]
theorem goesAll_may : ∀ {m l r : List S38}, mayRow l = true → (∀ x ∈ m, mayM x = true) → goesAll l m = some r → mayRow r = true
  | [], l, r, hl, _, h => by cases h; exact hl
  | x :: m, l, r, hl, hm, h => by
    unfold goesAll at h
    cases h1 : goesOne l x with
    | none => rw [h1] at h; cases h
    | some l' =>
      rw [h1] at h
      exact goesAll_may (goesOne_may hl (hm x (by simp)) h1) (fun y hy => hm y (List.mem_cons_of_mem _ hy)) h

/-- Joined rows that may be: the later marks, if there is room. -/
theorem joinA_eq {a b : List S38} (ha : mayRow a = true) (hb : mayRow b = true) : joinA a b = if (joinU a b).length ≤ 6 then (joinU a b, 0) else ([], 3) := by
  obtain ⟨h1, h2, h3⟩ := (mayRow_iff a).1 ha
  unfold joinA
  rw [ha, hb, Bool.and_self, if_pos rfl, goesAll_U h3 h1]
  split <;> rfl
theorem joinU_may {a b : List S38} (ha : mayRow a = true) (hb : mayRow b = true) (h : (joinU a b).length ≤ 6) : mayRow (joinU a b) = true := by
  obtain ⟨h1, h2, h3⟩ := (mayRow_iff a).1 ha
  obtain ⟨g1, g2, g3⟩ := (mayRow_iff b).1 hb
  refine goesAll_may ha g2 (r := joinU a b) ?_
  rw [goesAll_U h3 h1, if_pos h]
theorem seenLast_of {x : List S38} (hx : RowUp x) {p : Int} {y : S38} (h : getM x p = some y) : seen_Last.f x p = some (y.f0, y.f1, y.f2, true) := by
  unfold seen_Last.f
  rw [lastM_eq hx, h]

/-- The later of all marks of one producer, whatever row they stand in. -/
def bigM : List S38 → Int → Option S38
  | [], _ => none
  | x :: m, p => mx (if x.f0 = p then some x else none) (bigM m p)
theorem getM_joinU_any : ∀ {m l : List S38}, RowUp l → ∀ p, getM (joinU l m) p = mx (getM l p) (bigM m p)
  | [], l, h, p => by
    show getM l p = mx (getM l p) none
    rw [mx_none]
  | x :: m, l, h, p => by
    have e : joinU l (x :: m) = joinU (insU l x) m := rfl
    rw [e, getM_joinU_any (insU_up h x) p, getM_insU h]
    show _ = mx (getM l p) (mx (if x.f0 = p then some x else none) (bigM m p))
    by_cases c : p = x.f0
    · rw [if_pos c, if_pos c.symm, mx_assoc]
    · rw [if_neg c, if_neg (fun e => c e.symm)]
      rfl
theorem rowUp_nil : RowUp [] := List.Pairwise.nil
/-- What stands behind, joined by itself, and then to a row, is what goes into the row at once. -/
theorem joinU_nil {r m : List S38} (hr : RowUp r) : joinU r (joinU [] m) = joinU r m :=
  rowUp_ext (joinU_up hr) (joinU_up hr) fun p => by
    rw [getM_joinU hr (joinU_up rowUp_nil), getM_joinU_any hr, getM_joinU_any rowUp_nil, getM_nil]
    rfl
theorem mx_self (x : Option S38) : mx x x = x := by
  cases x with
  | none => rfl
  | some a =>
    unfold mx
    dsimp only
    rw [if_neg (by omega)]
theorem joinU_self {r : List S38} (hr : RowUp r) : joinU r r = r :=
  rowUp_ext (joinU_up hr) hr fun p => by rw [getM_joinU hr hr, mx_self]
theorem goesAll_cons (l : List S38) (x : S38) (m : List S38) : goesAll l (x :: m) = match goesOne l x with
    | some l' => goesAll l' m
    | none => none := by
  rw [goesAll]
  cases goesOne l x <;> rfl
theorem goesAll_append : ∀ (m n l : List S38), goesAll l (m ++ n) = (goesAll l m).bind fun r => goesAll r n
  | [], n, l => rfl
  | x :: m, n, l => by
    rw [List.cons_append, goesAll_cons, goesAll_cons]
    cases goesOne l x with
    | none => rfl
    | some r => exact goesAll_append m n r

end Go.Proofs.Ytokhckbjdpgkfaa.P
