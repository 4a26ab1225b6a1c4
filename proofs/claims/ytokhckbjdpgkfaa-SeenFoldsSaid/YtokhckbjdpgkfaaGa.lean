/- seen.May: what the call answers of any row of marks. -/
import Derived.Test.YtokhckbjdpgkfaaGj
import Derived.Test.YtokhckbjdpgkfaaGl
namespace Go.Proofs.Ytokhckbjdpgkfaa.P
set_option linter.unusedVariables false
set_option linter.unusedSimpArgs false
open Go.RowKit Go.Proofs.YtokhckbjdpgkfaaW.PrintWords Go.Proofs.YtokhckbjdpgkfaaW.PrintLast Go.Proofs.YtokhckbjdpgkfaaW.PrintMore

theorem may_bounds {m : S38} (h : mayM m = true) : 1 ≤ m.f0 ∧ m.f0 ≤ 15 ∧ 1 ≤ m.f1 ∧ m.f1 ≤ 4611686018427387903 ∧ m.f2 ≤ 4611686018427387903 := by
  unfold mayM at h
  simpa using h

/-- Under marks that may be, neither told less than the one ahead nor of one producer is: the producers rise. -/
theorem rises_iff (l : List S38) (hall : ∀ m ∈ l, mayM m = true) : (downOK (fun x y => wrap64 (x.f0 - y.f0)) l (l.length - 1) && apartTo l (l.length - 1)) = strictUp l := by
  have key : ∀ n, n < l.length → (downOK (fun x y => wrap64 (x.f0 - y.f0)) l n && apartTo l n) = decide (∀ i, i < n → (l.getD i z38).f0 < (l.getD (i + 1) z38).f0) := by
    intro n
    induction n with
    | zero => intro _; simp [downOK, apartTo]
    | succ n ih =>
      intro hn
      have ih := ih (by omega)
      have hb : ∀ j, j < l.length → 1 ≤ (l.getD j z38).f0 ∧ (l.getD j z38).f0 ≤ 15 := fun j hj => by
        have : l.getD j z38 ∈ l := by rw [List.getD_eq_getElem?_getD, List.getElem?_eq_getElem hj]; exact List.getElem_mem hj
        have := may_bounds (hall _ this)
        exact ⟨this.1, this.2.1⟩
      have h1 := hb n (by omega)
      have h2 := hb (n + 1) hn
      have hw : wrap64 ((l.getD (n + 1) z38).f0 - (l.getD n z38).f0) = (l.getD (n + 1) z38).f0 - (l.getD n z38).f0 := by unfold wrap64; omega
      rw [downOK, apartTo, hw]
      have e : (!decide ((l.getD (n + 1) z38).f0 - (l.getD n z38).f0 < 0) && downOK (fun x y => wrap64 (x.f0 - y.f0)) l n && (!((l.getD (n + 1) z38).f0 == (l.getD n z38).f0) && apartTo l n)) = (decide ((l.getD n z38).f0 < (l.getD (n + 1) z38).f0) && (downOK (fun x y => wrap64 (x.f0 - y.f0)) l n && apartTo l n)) := by
        cases downOK (fun x y => wrap64 (x.f0 - y.f0)) l n <;> cases apartTo l n <;> simp
        rw [Bool.eq_iff_iff]
        simp
        omega
      rw [e, ih, Bool.eq_iff_iff]
      simp only [Bool.and_eq_true, decide_eq_true_eq]
      constructor
      · rintro ⟨ha, hb⟩ i hi
        rcases Nat.lt_or_ge i n with h | h
        · exact hb i h
        · have : i = n := by omega
          subst this; exact ha
      · intro h
        exact ⟨h n (by omega), fun i hi => h i (by omega)⟩
  have strict : ∀ l : List S38, strictUp l = decide (∀ i, i < l.length - 1 → (l.getD i z38).f0 < (l.getD (i + 1) z38).f0) := by
    intro l
    induction l with
    | nil => simp [strictUp]
    | cons a r ih =>
      cases r with
      | nil => simp [strictUp]
      | cons b r =>
        rw [strictUp, ih, Bool.eq_iff_iff]
        simp only [Bool.and_eq_true, decide_eq_true_eq]
        constructor
        · rintro ⟨h1, h2⟩ i hi
          cases i with
          | zero => simpa using h1
          | succ i => simpa using h2 i (by simp at hi ⊢; omega)
        · intro h
          refine ⟨by simpa using h 0 (by simp), fun i hi => ?_⟩
          simpa using h (i + 1) (by simp at hi ⊢; omega)
  cases l with
  | nil => rfl
  | cons a r => rw [key _ (by simp), strict]

theorem idx_neg {α : Type} (p : α → Bool) (l : List α) : decide (idxOf p l < 0) = l.all (fun x => !p x) := by
  unfold idxOf
  cases h : l.findIdx? p with
  | none =>
    rw [List.findIdx?_eq_none_iff] at h
    simp only [Int.reduceNeg, Int.reduceLT, decide_true]
    symm
    rw [List.all_eq_true]
    intro x hx
    simp [h x hx]
  | some i =>
    rw [List.findIdx?_eq_some_iff_getElem] at h
    obtain ⟨hi, hp, _⟩ := h
    have : decide ((i : Int) < 0) = false := decide_eq_false (by omega)
    show decide ((i : Int) < 0) = _
    rw [this]
    symm
    rw [List.all_eq_false]
    exact ⟨l[i], List.getElem_mem hi, by simp [hp]⟩

theorem mayRow_eq (l : List S38) : mayRow l = (((decide ((l.length : Int) ≤ 6) && decide (idxOf (fun m => !mayM m) l < 0)) && downOK (fun x y => wrap64 (x.f0 - y.f0)) l (l.length - 1)) && apartTo l (l.length - 1)) := by
  unfold mayRow
  rw [idx_neg]
  have e0 : decide (l.length ≤ 6) = decide ((l.length : Int) ≤ 6) := by rw [Bool.eq_iff_iff]; simp; omega
  rw [e0]
  have e1 : (l.all fun x => !!mayM x) = l.all mayM := by simp
  rw [e1]
  cases h : l.all mayM with
  | false => simp
  | true =>
    rw [List.all_eq_true] at h
    rw [← rises_iff l h]
    simp [Bool.and_assoc]

set_option maxHeartbeats 1000000 in
theorem seen_May.calls (A0 : Option Addr) (c0 : Nat) (l0 : List (S38)) (r : Bool) (w : World) (hr0 : Kd.C k38 w A0 l0.length l0) (hc0 : l0.length ≤ c0) (h : seen_May.f l0 = some r) :
    Calls Try.prog 14 #[.slice A0 l0.length c0] w fun e w' => e = .returned (.bool r) ∧ Below w.heap.size w w' := by
  unfold seen_May.f at h
  by_cases hlim : l0.length ≤ 5864062014805
  · rw [if_pos hlim] at h
    injection h with h
    rw [mayRow_eq] at h
    have HR0 := Aside0.mk hr0
    have LM := Aside0.mk hlim
    clear hr0 hlim hc0
    obtain ⟨b1, hb1⟩ : ∃ b, downOK (fun x y => wrap64 (x.f0 - y.f0)) l0 (l0.length - 1) = b := ⟨_, rfl⟩
    obtain ⟨b2, hb2⟩ : ∃ b, apartTo l0 (l0.length - 1) = b := ⟨_, rfl⟩
    obtain ⟨b3, hb3⟩ : ∃ b, decide (idxOf (fun m => !mayM m) l0 < 0) = b := ⟨_, rfl⟩
    obtain ⟨b6, hb6⟩ : ∃ b, decide ((l0.length : Int) ≤ 6) = b := ⟨_, rfl⟩
    rw [hb1, hb2, hb3, hb6] at h
    have H1 := Aside0.mk hb1
    have H2 := Aside0.mk hb2
    have H3 := Aside0.mk hb3
    clear hb1 hb2 hb3
    have HR := Aside0.mk h
    clear h
    cases b6 with
    | true =>
      cases b3 <;> cases b1
      all_goals
        go_enter Try.func14, Try.ntmps14
        go_wp2_with (first | (go_at_call 37; refine (sorted37 _ _ l0 _ HR0.out).mono ?_; rw [H1.out]; rintro e w1 ⟨rfl, hb⟩; have B1 := Aside0.mk hb; clear hb) | (go_at_call 40; refine (clone40 _ _ l0 _ (Kd.C_below HR0.out B1.out) LM.out).mono ?_; rintro e w2 ⟨v, rfl, ho, hb⟩; have HO := Aside0.mk ho; have B2 := Aside0.mk hb; clear ho hb) | (go_at_call 39; refine (compact39 w1.heap.size (fun _ => True) v l0 w1 w2 HO.out B2.out B2.out.size).mono ?_; rw [H2.out]; rintro e w3 ⟨A, m, c, rfl, hm, hb⟩; have B3 := Aside0.mk hb; clear hb; have hmq : ((m : Int) == (l0.length : Int)) = b2 := (by rw [← hm]; rw [Bool.eq_iff_iff]; simp; omega); clear hm) | (go_at_call 42; refine (first42 43 #[] (fun m => !mayM m) eg43 _ _ l0 _ (pred43 _) (Kd.C_below (Kd.C_below HR0.out B1.out) B3.out)).mono ?_; rintro e w4 ⟨rfl, hb⟩; have B4 := Aside0.mk hb; clear hb; have H3' := H3.out))
        go_ret
        exact ⟨by rw [← HR.out]; rfl, below_then (below_then B1.out B1.out.size B3.out) (Nat.le_trans B1.out.size B3.out.size) B4.out⟩
    | false =>
      cases b1
      all_goals
        go_enter Try.func14, Try.ntmps14
        go_wp2_with (first | (go_at_call 37; refine (sorted37 _ _ l0 _ HR0.out).mono ?_; rw [H1.out]; rintro e w1 ⟨rfl, hb⟩; have B1 := Aside0.mk hb; clear hb) | (go_at_call 40; refine (clone40 _ _ l0 _ (Kd.C_below HR0.out B1.out) LM.out).mono ?_; rintro e w2 ⟨v, rfl, ho, hb⟩; have HO := Aside0.mk ho; have B2 := Aside0.mk hb; clear ho hb) | (go_at_call 39; refine (compact39 w1.heap.size (fun _ => True) v l0 w1 w2 HO.out B2.out B2.out.size).mono ?_; rw [H2.out]; rintro e w3 ⟨A, m, c, rfl, hm, hb⟩; have B3 := Aside0.mk hb; clear hb; have hmq : ((m : Int) == (l0.length : Int)) = b2 := (by rw [← hm]; rw [Bool.eq_iff_iff]; simp; omega); clear hm) | (go_at_call 42; refine (first42 43 #[] (fun m => !mayM m) eg43 _ _ l0 _ (pred43 _) (Kd.C_below (Kd.C_below HR0.out B1.out) B3.out)).mono ?_; rintro e w4 ⟨rfl, hb⟩; have B4 := Aside0.mk hb; clear hb; have H3' := H3.out))
        go_ret
        exact ⟨by rw [← HR.out]; rfl, below_then B1.out B1.out.size B3.out⟩
  · rw [if_neg hlim] at h
    cases h

end Go.Proofs.Ytokhckbjdpgkfaa.P
