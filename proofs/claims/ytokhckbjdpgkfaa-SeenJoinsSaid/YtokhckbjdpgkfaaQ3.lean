/- Plain laws of rows that are joined: each producer's mark is the later one, of those alike the first row's; and SeenJoins's plain law. -/
import Derived.Test.YtokhckbjdpgkfaaQ2
import Derived.Test.YtokhckbjdpgkfaaJ
namespace Go.Proofs.Ytokhckbjdpgkfaa.P
set_option linter.unusedVariables false
set_option linter.unusedSimpArgs false
open Go.RowKit Go.Proofs.YtokhckbjdpgkfaaW.PrintWords Go.Proofs.YtokhckbjdpgkfaaW.PrintLast

/-- The later mark; of those alike the first. -/
def mx : Option S38 → Option S38 → Option S38
  | none, y => y
  | some a, none => some a
  | some a, some b => if a.f1 < b.f1 then some b else some a
theorem mx_none (x : Option S38) : mx x none = x := by cases x <;> rfl
theorem mx_assoc (x y z : Option S38) : mx (mx x y) z = mx x (mx y z) := by
  cases x with
  | none => rfl
  | some a =>
    cases y with
    | none => rfl
    | some b =>
      cases z with
      | none => rw [mx_none, mx_none]
      | some c =>
        unfold mx
        by_cases h1 : a.f1 < b.f1 <;> by_cases h2 : b.f1 < c.f1 <;> by_cases h3 : a.f1 < c.f1 <;> simp [h1, h2, h3] <;> omega
theorem mx_left {m y : S38} {t : Option S38} (h : mx (some m) t = some y) : y.f1 ≥ m.f1 ∧ (y.f1 = m.f1 → y = m) := by
  cases t with
  | none => cases h; exact ⟨Int.le_refl _, fun _ => rfl⟩
  | some b =>
    unfold mx at h
    dsimp only at h
    split at h
    · cases h
      exact ⟨by omega, fun e => by omega⟩
    · cases h
      exact ⟨Int.le_refl _, fun _ => rfl⟩
theorem mx_right {m : S38} (t : Option S38) : ∃ y, mx t (some m) = some y ∧ y.f1 ≥ m.f1 := by
  cases t with
  | none => exact ⟨m, rfl, Int.le_refl _⟩
  | some b =>
    unfold mx
    dsimp only
    split
    · exact ⟨m, rfl, Int.le_refl _⟩
    · exact ⟨b, rfl, by omega⟩
theorem mx_some (m : S38) (t : Option S38) : ∃ y, mx (some m) t = some y := by
  cases t with
  | none => exact ⟨m, rfl⟩
  | some b =>
    unfold mx
    dsimp only
    split <;> exact ⟨_, rfl⟩

/-- A mark goes into a row, whatever room there is. -/
def insU (l : List S38) (m : S38) : List S38 := match getM l m.f0 with
  | some x => if x.f1 < m.f1 then insR m l else l
  | none => insR m l
def joinU (l m : List S38) : List S38 := m.foldl insU l
theorem insU_up {l : List S38} (h : RowUp l) (m : S38) : RowUp (insU l m) := by
  unfold insU
  split
  · split
    · exact insR_up h
    · exact h
  · exact insR_up h
theorem getM_insU {l : List S38} (h : RowUp l) (m : S38) (p : Int) : getM (insU l m) p = if p = m.f0 then mx (getM l p) (some m) else getM l p := by
  unfold insU
  cases hg : getM l m.f0 with
  | some x =>
    dsimp only
    by_cases c : x.f1 < m.f1
    · rw [if_pos c, getM_insR p h]
      by_cases e : p = m.f0
      · rw [if_pos e, if_pos e, e, hg]
        unfold mx
        dsimp only
        rw [if_pos c]
      · rw [if_neg e, if_neg e]
    · rw [if_neg c]
      by_cases e : p = m.f0
      · rw [if_pos e, e, hg]
        unfold mx
        dsimp only
        rw [if_neg c]
      · rw [if_neg e]
  | none =>
    dsimp only
    rw [getM_insR p h]
    by_cases e : p = m.f0
    · rw [if_pos e, if_pos e, e, hg]
      rfl
    · rw [if_neg e, if_neg e]
theorem insU_len {l : List S38} (h : RowUp l) (m : S38) : l.length ≤ (insU l m).length ∧ ((getM l m.f0).isSome = true → (insU l m).length = l.length) ∧ (getM l m.f0 = none → (insU l m).length = l.length + 1) := by
  have hl := insR_length (m := m) h
  unfold insU
  cases hg : getM l m.f0 with
  | some x =>
    rw [hg] at hl
    simp at hl
    dsimp only
    split
    · exact ⟨by omega, fun _ => by omega, fun e => by cases e⟩
    · exact ⟨by omega, fun _ => by omega, fun e => by cases e⟩
  | none =>
    rw [hg] at hl
    simp at hl
    exact ⟨by dsimp only; omega, fun e => by simp at e, fun _ => by dsimp only; omega⟩
theorem goesOne_U {l : List S38} (h : RowUp l) (hn : l.length ≤ 6) (m : S38) : goesOne l m = if (insU l m).length ≤ 6 then some (insU l m) else none := by
  obtain ⟨h1, h2, h3⟩ := insU_len h m
  rw [goesOne_eq h]
  cases hg : getM l m.f0 with
  | some x =>
    rw [hg] at h2
    have e : (insU l m).length ≤ 6 := by rw [h2 rfl]; exact hn
    rw [if_pos e]
    unfold insU
    rw [hg]
    dsimp only
    split <;> rfl
  | none =>
    rw [h3 hg]
    dsimp only
    by_cases c : l.length ≥ 6
    · rw [if_pos c, if_neg (by omega)]
    · rw [if_neg c, if_pos (by omega)]
      unfold insU
      rw [hg]
theorem joinU_up : ∀ {m l : List S38}, RowUp l → RowUp (joinU l m)
  | [], l, h => h
  | x :: m, l, h => joinU_up (m := m) (insU_up h x)
theorem joinU_len : ∀ {m l : List S38}, RowUp l → l.length ≤ (joinU l m).length
  | [], l, h => Nat.le_refl _
  | x :: m, l, h => Nat.le_trans (insU_len h x).1 (joinU_len (m := m) (insU_up h x))
theorem goesAll_U : ∀ {m l : List S38}, RowUp l → l.length ≤ 6 → goesAll l m = if (joinU l m).length ≤ 6 then some (joinU l m) else none
  | [], l, h, hn => by
    unfold goesAll
    rw [if_pos (show (joinU l []).length ≤ 6 from hn)]
    rfl
  | x :: m, l, h, hn => by
    unfold goesAll
    rw [goesOne_U h hn x]
    have e : joinU l (x :: m) = joinU (insU l x) m := rfl
    rw [e]
    have hl := joinU_len (m := m) (insU_up h x)
    by_cases c : (insU l x).length ≤ 6
    · rw [if_pos c]
      exact goesAll_U (insU_up h x) c
    · rw [if_neg c, if_neg (by omega)]
theorem getM_joinU : ∀ {m l : List S38}, RowUp l → RowUp m → ∀ p, getM (joinU l m) p = mx (getM l p) (getM m p)
  | [], l, h, hm, p => by rw [getM_nil, mx_none]; rfl
  | x :: m, l, h, hm, p => by
    obtain ⟨h1, h2⟩ := rowUp_cons.1 hm
    have e : joinU l (x :: m) = joinU (insU l x) m := rfl
    rw [e, getM_joinU (insU_up h x) h2 p, getM_insU h, getM_cons]
    by_cases c : p = x.f0
    · have e2 : getM m p = none := getM_none.2 (fun z hz => by have := h1 z hz; omega)
      rw [if_pos c, if_pos c.symm, e2, mx_none]
    · rw [if_neg c, if_neg (fun e => c e.symm)]
theorem joinU_assoc {a b c : List S38} (ha : RowUp a) (hb : RowUp b) (hc : RowUp c) : joinU (joinU a b) c = joinU a (joinU b c) :=
  rowUp_ext (joinU_up (joinU_up ha)) (joinU_up ha) fun p => by
    rw [getM_joinU (joinU_up ha) hc, getM_joinU ha hb, getM_joinU ha (joinU_up hb), getM_joinU hb hc, mx_assoc]
theorem goesAll_may : ∀ {m l r : List S38}, mayRow l = true → (∀ x ∈ m, mayM x = true) → goesAll l m = some r → mayRow r = true
  | [], l, r, hl, _, h => by cases h; exact hl
  | x :: m, l, r, hl, hm, h => by
    unfold goesAll at h
    cases h1 : goesOne l x with
    | none => rw [h1] at h; cases h
    | some l' =>
      rw [h1] at h
      exact goesAll_may (goesOne_may hl (hm x (by simp)) h1) (fun y hy => hm y (List.mem_cons_of_mem _ hy)) h

/-- Joined rows that may be: the later marks, if there is room. -/
theorem joinA_eq {a b : List S38} (ha : mayRow a = true) (hb : mayRow b = true) : joinA a b = if (joinU a b).length ≤ 6 then (joinU a b, 0) else ([], 3) := by
  obtain ⟨h1, h2, h3⟩ := (mayRow_iff a).1 ha
  unfold joinA
  rw [ha, hb, Bool.and_self, if_pos rfl, goesAll_U h3 h1]
  split <;> rfl
theorem joinU_may {a b : List S38} (ha : mayRow a = true) (hb : mayRow b = true) (h : (joinU a b).length ≤ 6) : mayRow (joinU a b) = true := by
  obtain ⟨h1, h2, h3⟩ := (mayRow_iff a).1 ha
  obtain ⟨g1, g2, g3⟩ := (mayRow_iff b).1 hb
  refine goesAll_may ha g2 (r := joinU a b) ?_
  rw [goesAll_U h3 h1, if_pos h]
theorem seenLast_of {x : List S38} (hx : RowUp x) {p : Int} {y : S38} (h : getM x p = some y) : seen_Last.f x p = some (y.f0, y.f1, y.f2, true) := by
  unfold seen_Last.f
  rw [lastM_eq hx, h]

theorem goodX_of {a b c : List S38} (ha : RowUp a) (hb : RowUp b) (hc : RowUp c) : GoodX a b c (joinU (joinU a b) c) := by
  have hx := joinU_up (m := c) (joinU_up (m := b) ha)
  have hg : ∀ p, getM (joinU (joinU a b) c) p = mx (mx (getM a p) (getM b p)) (getM c p) := fun p => by
    rw [getM_joinU (joinU_up ha) hc, getM_joinU ha hb]
  refine ⟨fun m hm => ?_, fun m hm => ?_, fun m hm => ?_⟩
  · have e := hg m.f0
    rw [getM_mem ha hm, mx_assoc] at e
    obtain ⟨y, hy⟩ := mx_some m (mx (getM b m.f0) (getM c m.f0))
    rw [hy] at e
    obtain ⟨g1, g2⟩ := mx_left hy
    exact ⟨y, seenLast_of hx e, g1, fun h _ => g2 h⟩
  · have e := hg m.f0
    rw [getM_mem hb hm] at e
    obtain ⟨y, hy, hy2⟩ := mx_right (m := m) (getM a m.f0)
    rw [hy] at e
    obtain ⟨z, hz⟩ := mx_some y (getM c m.f0)
    rw [hz] at e
    have := (mx_left hz).1
    exact ⟨z, seenLast_of hx e, by omega, fun _ h => by cases h⟩
  · have e := hg m.f0
    rw [getM_mem hc hm] at e
    obtain ⟨y, hy, hy2⟩ := mx_right (m := m) (mx (getM a m.f0) (getM b m.f0))
    rw [hy] at e
    exact ⟨y, seenLast_of hx e, hy2, fun _ h => by cases h⟩

theorem SeenJoins_good (l0 l1 l2 : List S38) (h0 : l0.length ≤ 5864062014000 ∨ mayRow l0 = true) (m0 : mayRow l0 = true) (m1 : mayRow l1 = true) (m2 : mayRow l2 = true) :
    ∀ t313 t317 t322, seen_Join.f l0 l1 = some (t313, 0) → seen_Join.f l1 l2 = some (t317, 0) → seen_Join.f t313 l2 = some (t322, 0) → GoodX l0 l1 l2 t322 := by
  intro t313 t317 t322 e1 e2 e3
  obtain ⟨a1, a2, a3⟩ := (mayRow_iff l0).1 m0
  obtain ⟨b1, b2, b3⟩ := (mayRow_iff l1).1 m1
  obtain ⟨c1, c2, c3⟩ := (mayRow_iff l2).1 m2
  rw [seenJoin_eq l0 l1 (by omega) (by omega), joinA_eq m0 m1] at e1
  by_cases h1 : (joinU l0 l1).length ≤ 6
  · rw [if_pos h1] at e1
    cases e1
    rw [seenJoin_eq _ l2 (by omega) (by omega), joinA_eq (joinU_may m0 m1 h1) m2] at e3
    by_cases h3 : (joinU (joinU l0 l1) l2).length ≤ 6
    · rw [if_pos h3] at e3
      cases e3
      exact goodX_of a3 b3 c3
    · rw [if_neg h3] at e3
      simp at e3
  · rw [if_neg h1] at e1
    simp at e1

theorem SeenJoins_true (l0 l1 l2 : List S38) (h0 : l0.length ≤ 5864062014805) (h1 : l1.length ≤ 5864062014805) (h2 : l2.length ≤ 5864062014805) : scrivenerlaw19_SeenJoinsP.f 100 l0 l1 l2 = some true := by
  unfold scrivenerlaw19_SeenJoinsP.f
  rw [seenMay_eq l0 h0, seenMay_eq l1 h1, seenMay_eq l2 h2, Option.bind_some, Option.bind_some, Option.bind_some]
  cases m0 : mayRow l0 with
  | false => rfl
  | true =>
    rw [if_pos rfl]
    cases m1 : mayRow l1 with
    | false => rfl
    | true =>
      rw [if_pos rfl]
      cases m2 : mayRow l2 with
      | false => rfl
      | true =>
        obtain ⟨a1, a2, a3⟩ := (mayRow_iff l0).1 m0
        obtain ⟨b1, b2, b3⟩ := (mayRow_iff l1).1 m1
        obtain ⟨c1, c2, c3⟩ := (mayRow_iff l2).1 m2
        show scrivenerlaw19_SeenJoinsP.j0 (99 + 1) l0 l1 l2 false = some true
        unfold scrivenerlaw19_SeenJoinsP.j0
        simp only [Bool.false_eq_true, if_false]
        rw [seenJoin_eq l0 l1 (by omega) (by omega), seenJoin_eq l1 l2 (by omega) (by omega), Option.bind_some, Option.bind_some, joinA_eq m0 m1, joinA_eq m1 m2]
        by_cases g1 : (joinU l0 l1).length ≤ 6
        · rw [if_pos g1]
          by_cases g2 : (joinU l1 l2).length ≤ 6
          · rw [if_pos g2]
            show scrivenerlaw19_SeenJoinsP.j1 (98 + 1) l0 l2 (joinU l0 l1) (joinU l1 l2) false = some true
            unfold scrivenerlaw19_SeenJoinsP.j1
            have eq3 := joinA_eq (joinU_may m0 m1 g1) m2
            have eq4 := joinA_eq m0 (joinU_may m1 m2 g2)
            rw [← joinU_assoc a3 b3 c3] at eq4
            simp only [Bool.false_eq_true, if_false]
            rw [seenJoin_eq _ l2 (by omega) (by omega), seenJoin_eq l0 _ (by omega) (by omega), Option.bind_some, Option.bind_some, eq3, eq4, if_pos rfl]
            by_cases g3 : (joinU (joinU l0 l1) l2).length ≤ 6
            · rw [if_pos g3, if_pos rfl, seenSame_eq 98 (joinU (joinU l0 l1) l2) (joinU (joinU l0 l1) l2) (by omega) (by omega), Option.bind_some, decide_eq_true rfl]
              rfl
            · rw [if_neg g3]
              rfl
          · rw [if_neg g2]
            rfl
        · rw [if_neg g1]
          rfl

theorem scrivenerlaw19_SeenJoins.calls_true (A0 : Option Addr) (c0 : Nat) (l0 : List (S38)) (A1 : Option Addr) (c1 : Nat) (l1 : List (S38)) (A2 : Option Addr) (c2 : Nat) (l2 : List (S38)) (w : World) (hr0 : Kd.C k38 w A0 l0.length l0) (hc0 : l0.length ≤ c0) (hr1 : Kd.C k38 w A1 l1.length l1) (hc1 : l1.length ≤ c1) (hr2 : Kd.C k38 w A2 l2.length l2) (hc2 : l2.length ≤ c2)
    (h0 : l0.length * 24 ≤ 140737488351232) (h1 : l1.length * 24 ≤ 140737488351232) (h2 : l2.length * 24 ≤ 140737488351232) :
    Calls Try.prog 7 #[.slice A0 l0.length c0, .slice A1 l1.length c1, .slice A2 l2.length c2] w fun e w' => e = .returned (.bool true) ∧ Below w.heap.size w w' := by
  refine scrivenerlaw19_SeenJoinsP.calls 100 A0 c0 l0 A1 c1 l1 A2 c2 l2 true w hr0 hc0 hr1 hc1 hr2 hc2 (SeenJoins_true l0 l1 l2 (by omega) (by omega) (by omega)) ?_
  intro t313 t317 t322 e1 e2 e3
  have may_of : ∀ {a b r : List S38}, a.length ≤ 5864062014805 → b.length ≤ 5864062014805 → seen_Join.f a b = some (r, 0) → mayRow a = true ∧ mayRow b = true := by
    intro a b r ha hb h
    unfold seen_Join.f at h
    rw [seenMay_eq a ha, seenMay_eq b hb, Option.bind_some, Option.bind_some] at h
    cases m0 : mayRow a with
    | false => rw [m0] at h; simp at h
    | true =>
      cases m1 : mayRow b with
      | false => rw [m0, m1] at h; simp at h
      | true => exact ⟨rfl, rfl⟩
  obtain ⟨m0, m1⟩ := may_of (by omega) (by omega) e1
  obtain ⟨_, m2⟩ := may_of (by omega) (by omega) e2
  exact SeenJoins_good l0 l1 l2 (.inr m0) m0 m1 m2 t313 t317 t322 e1 e2 e3

end Go.Proofs.Ytokhckbjdpgkfaa.P
