/- SeenParts's plain law: what the walked statement comes to is true for all rows, offsets and entries. -/
import Derived.Test.YtokhckbjdpgkfaaQ5
import Derived.Test.YtokhckbjdpgkfaaPp
namespace Go.Proofs.Ytokhckbjdpgkfaa.P
set_option linter.unusedVariables false
set_option linter.unusedSimpArgs false
open Go.RowKit Go.Proofs.YtokhckbjdpgkfaaW.PrintWords Go.Proofs.YtokhckbjdpgkfaaW.PrintLast

theorem marksFrom_app : ∀ (a b : List S30) (fr : Int), marksFrom fr (a ++ b) = marksFrom fr a ++ marksFrom (fr + a.length) b
  | [], b, fr => by simp [marksFrom]
  | e :: a, b, fr => by
    show (⟨e.f0, e.f1, fr⟩ : S38) :: marksFrom (fr + 1) (a ++ b) = _ :: (marksFrom (fr + 1) a ++ _)
    rw [marksFrom_app a b (fr + 1)]
    have : fr + 1 + (a.length : Int) = fr + ((e :: a).length : Int) := by simp; omega
    rw [this]
theorem marksFrom_may : ∀ (es : List S30) (fr : Int), (∀ e ∈ es, mayE e = true) → fr + es.length ≤ 4611686018427387904 → ∀ m ∈ marksFrom fr es, mayM m = true
  | [], fr, _, _ => fun m hm => by cases hm
  | e :: es, fr, he, hf => fun m hm => by
    simp only [List.length_cons] at hf
    rcases List.mem_cons.1 hm with rfl | hm
    · exact mayE_mark (he e (by simp)) (by omega)
    · exact marksFrom_may es (fr + 1) (fun x hx => he x (List.mem_cons_of_mem _ hx)) (by omega) m hm
theorem takeA_eq (l : List S38) (fr : Int) (es : List S30) (hf : fr + es.length ≤ 4611686018427387904) : takeA l fr es = if mayRow l && es.all mayE then ansOf (goesAll l (marksFrom fr es)) else ([], 1) := by
  unfold takeA
  by_cases c : es = []
  · subst c
    rfl
  · rw [if_neg c, if_pos hf]

/-- All that SeenParts asks of what the calls answer. -/
structure PartsOk (l : List S38) (fr : Int) (a b : List S30) : Prop where
  full : (takeA l fr (a ++ b)).2 ≠ 1 → (takeA l fr a).2 ≠ 1 → (takeA l fr a).2 ≠ 0 → (takeA l fr a).2 = 3 ∧ (takeA l fr (a ++ b)).2 = 3
  two : (takeA l fr (a ++ b)).2 ≠ 1 → (takeA l fr a).2 = 0 → takeA (takeA l fr a).1 (fr + a.length) b = takeA l fr (a ++ b)
  self : (takeA l fr a).2 = 0 → joinA (takeA l fr a).1 (takeA l fr a).1 = ((takeA l fr a).1, 0)
  alone : (takeA l fr a).2 = 0 → (takeA l fr (a ++ b)).2 = 0 → (takeA [] (fr + a.length) b).2 = 0 → joinA (takeA l fr a).1 (takeA [] (fr + a.length) b).1 = takeA l fr (a ++ b)
theorem ansOf_0 {x : Option (List S38)} (h : (ansOf x).2 = 0) : ∃ r, x = some r ∧ ansOf x = (r, 0) := by
  cases x with
  | none => simp [ansOf] at h
  | some r => exact ⟨r, rfl, rfl⟩
theorem partsOk (l : List S38) (fr : Int) (a b : List S30) (hf : fr + a.length + b.length ≤ 4611686018427387904) : PartsOk l fr a b := by
  have hf' : fr + (a ++ b).length ≤ 4611686018427387904 := by rw [List.length_append]; omega
  have hfa : fr + a.length ≤ 4611686018427387904 := by omega
  have e1 := takeA_eq l fr (a ++ b) hf'
  have e2 := takeA_eq l fr a hfa
  have e3 := fun r => takeA_eq r (fr + a.length) b hf
  rw [marksFrom_app, goesAll_append, List.all_append] at e1
  have may0 : mayRow [] = true := by decide
  cases hl : mayRow l with
  | false =>
    rw [hl] at e1 e2
    simp only [Bool.false_and, Bool.false_eq_true, if_false] at e1 e2
    constructor
    · intro h; rw [e1] at h; exact absurd rfl h
    · intro h; rw [e1] at h; exact absurd rfl h
    · intro h; rw [e2] at h; cases h
    · intro h; rw [e2] at h; cases h
  | true =>
    cases ha : a.all mayE with
    | false =>
      rw [hl, ha] at e1 e2
      simp only [Bool.false_and, Bool.and_false, Bool.false_eq_true, if_false] at e1 e2
      constructor
      · intro h; rw [e1] at h; exact absurd rfl h
      · intro h; rw [e1] at h; exact absurd rfl h
      · intro h; rw [e2] at h; cases h
      · intro h; rw [e2] at h; cases h
    | true =>
      obtain ⟨l1, l2, l3⟩ := (mayRow_iff l).1 hl
      have hma := marksFrom_may a fr (List.all_eq_true.1 ha) hfa
      rw [hl, ha] at e1 e2
      simp only [Bool.true_and, if_true] at e1 e2
      have self : (takeA l fr a).2 = 0 → joinA (takeA l fr a).1 (takeA l fr a).1 = ((takeA l fr a).1, 0) := by
        intro h
        rw [e2] at h ⊢
        obtain ⟨r, h1, h2⟩ := ansOf_0 h
        rw [h2]
        have hr := goesAll_may hl hma h1
        obtain ⟨r1, r2, r3⟩ := (mayRow_iff r).1 hr
        show joinA r r = (r, 0)
        rw [joinA_eq hr hr, joinU_self r3, if_pos r1]
      cases hb : b.all mayE with
      | false =>
        rw [hb] at e1
        simp only [Bool.false_eq_true, if_false] at e1
        constructor
        · intro h; rw [e1] at h; exact absurd rfl h
        · intro h; rw [e1] at h; exact absurd rfl h
        · exact self
        · intro _ h; rw [e1] at h; cases h
      | true =>
        rw [hb] at e1
        simp only [if_true] at e1
        have e3' := fun r (hr : mayRow r = true) => e3 r
        have e4 : ∀ r, mayRow r = true → takeA r (fr + a.length) b = ansOf (goesAll r (marksFrom (fr + a.length) b)) := fun r hr => by
          rw [e3 r, hr, hb]
          rfl
        constructor
        · intro h1 h2 h3
          rw [e2] at h3 ⊢
          rw [e1]
          cases hg : goesAll l (marksFrom fr a) with
          | none => exact ⟨rfl, rfl⟩
          | some r => rw [hg] at h3; exact absurd rfl h3
        · intro h1 h2
          rw [e2] at h2 ⊢
          rw [e1]
          obtain ⟨r, g1, g2⟩ := ansOf_0 h2
          rw [g2, g1]
          exact e4 r (goesAll_may hl hma g1)
        · exact self
        · intro h1 h2 h3
          rw [e2] at h1 ⊢
          obtain ⟨r, g1, g2⟩ := ansOf_0 h1
          rw [g2]
          rw [e1, g1] at h2 ⊢
          have hr := goesAll_may hl hma g1
          obtain ⟨r1, r2, r3⟩ := (mayRow_iff r).1 hr
          rw [e4 [] may0] at h3 ⊢
          obtain ⟨q, q1, q2⟩ := ansOf_0 h3
          obtain ⟨s, s1, s2⟩ := ansOf_0 h2
          have hmb := marksFrom_may b (fr + a.length) (List.all_eq_true.1 hb) hf
          have hq := goesAll_may may0 hmb q1
          rw [q2, s2]
          rw [goesAll_U rowUp_nil (by simp)] at q1
          change goesAll r _ = some s at s1
          rw [goesAll_U r3 r1] at s1
          by_cases c1 : (joinU [] (marksFrom (fr + a.length) b)).length ≤ 6
          · rw [if_pos c1] at q1
            cases q1
            by_cases c2 : (joinU r (marksFrom (fr + a.length) b)).length ≤ 6
            · rw [if_pos c2] at s1
              cases s1
              show joinA r (joinU [] (marksFrom (fr + a.length) b)) = _
              rw [joinA_eq hr hq, joinU_nil r3, if_pos c2]
            · rw [if_neg c2] at s1
              cases s1
          · rw [if_neg c1] at q1
            cases q1

theorem SeenParts_true (l0 : List S38) (a1 : Int) (l2 l3 : List S30) (h0 : 0 ≤ a1) (hb2 : ∀ e ∈ l2, e.f2.length ≤ 9223372036854775807) (hb3 : ∀ e ∈ l3, e.f2.length ≤ 9223372036854775807) : scrivenerlaw19_SeenPartsP.f 3000 l0 a1 l2 l3 = some true := by
  unfold scrivenerlaw19_SeenPartsP.f
  obtain ⟨b2, e2, g2⟩ := long_eq 3000 l2 (by omega) hb2
  obtain ⟨b3, e3, g3⟩ := long_eq 3000 l3 (by omega) hb3
  rw [e2, e3, Option.bind_some, Option.bind_some]
  cases b2 with
  | true => rfl
  | false =>
    rw [if_neg (by decide)]
    cases b3 with
    | true => rfl
    | false =>
      rw [if_neg (by decide)]
      by_cases c0 : (l0.length : Int) > 1000
      · rw [if_pos c0]
        rfl
      rw [if_neg c0]
      by_cases c1 : a1 > 2305843009213693952
      · rw [decide_eq_true c1]
        rfl
      rw [decide_eq_false c1]
      have k2 := g2 rfl
      have k3 := g3 rfl
      obtain ⟨p1, p2, p3, p4⟩ := partsOk l0 a1 l2 l3 (by omega)
      have w1 : IntKind.u64.wrap (l2.length : Int) = (l2.length : Int) := wrapU _ (by omega) (by omega)
      have w2 : IntKind.u64.wrap (a1 + (l2.length : Int)) = a1 + (l2.length : Int) := wrapU _ (by omega) (by omega)
      have t1 := seenTake_eq l0 a1 (l2 ++ l3) (by omega) (by rw [List.length_append]; omega) h0
      have t2 := seenTake_eq l0 a1 l2 (by omega) (by omega) h0
      have t3 := fun (r : List S38) (hr : r.length ≤ 1000) => seenTake_eq r (a1 + (l2.length : Int)) l3 (by omega) (by omega) (by omega)
      have n1 := takeA_len l0 a1 (l2 ++ l3)
      have n2 := takeA_len l0 a1 l2
      have n3 := takeA_len [] (a1 + (l2.length : Int)) l3
      show scrivenerlaw19_SeenPartsP.j0 (2999 + 1) l0 a1 l2 l3 false = some true
      unfold scrivenerlaw19_SeenPartsP.j0
      simp only [Bool.false_eq_true, if_false]
      rw [t1, t2, Option.bind_some, Option.bind_some]
      generalize hall : takeA l0 a1 (l2 ++ l3) = all at *
      generalize hone : takeA l0 a1 l2 = one at *
      by_cases c2 : all.2 = 1
      · rw [if_pos c2]
        rfl
      rw [if_neg c2]
      by_cases c3 : one.2 = 1
      · rw [show (one.2 == 1) = true from beq_iff_eq.2 c3]
        rfl
      rw [show (one.2 == 1) = false from beq_eq_false_iff_ne.2 c3]
      show scrivenerlaw19_SeenPartsP.j1 (2998 + 1) a1 l2 l3 all.1 all.2 one.1 one.2 false = some true
      unfold scrivenerlaw19_SeenPartsP.j1
      simp only [Bool.false_eq_true, if_false]
      by_cases c4 : one.2 = 0
      · rw [if_pos c4, w1, w2, t3 one.1 n2, Option.bind_some, p2 c2 c4, if_pos rfl]
        have key : scrivenerlaw19_SeenPartsP.j2 2998 a1 l2 l3 all.1 all.2 one.1 false = some true := by
          show scrivenerlaw19_SeenPartsP.j2 (2997 + 1) a1 l2 l3 all.1 all.2 one.1 false = some true
          unfold scrivenerlaw19_SeenPartsP.j2
          simp only [Bool.false_eq_true, if_false]
          rw [seenJoin_eq one.1 one.1 (by omega) (by omega), Option.bind_some, p3 c4, if_pos rfl, seenSame_eq 2997 one.1 one.1 (by omega) (by omega), Option.bind_some, decide_eq_true rfl]
          show scrivenerlaw19_SeenPartsP.j3 (2996 + 1) a1 l2 l3 all.1 all.2 one.1 false = some true
          unfold scrivenerlaw19_SeenPartsP.j3
          simp only [Bool.false_eq_true, if_false]
          rw [w1, w2, t3 [] (by simp), Option.bind_some]
          generalize halone : takeA [] (a1 + (l2.length : Int)) l3 = alone at *
          by_cases c5 : alone.2 = 0
          · rw [if_pos c5]
            by_cases c6 : all.2 = 0
            · rw [show (all.2 != 0) = false from bne_eq_false_iff_eq.2 c6]
              show scrivenerlaw19_SeenPartsP.j4 (2995 + 1) all.1 one.1 alone.1 false = some true
              unfold scrivenerlaw19_SeenPartsP.j4
              simp only [Bool.false_eq_true, if_false]
              rw [seenJoin_eq one.1 alone.1 (by omega) (by omega), Option.bind_some, p4 c4 c6 c5, if_pos c6, seenSame_eq 2995 all.1 all.1 (by omega) (by omega), Option.bind_some, decide_eq_true rfl]
              rfl
            · rw [show (all.2 != 0) = true from bne_iff_ne.2 c6]
              rfl
          · rw [if_neg c5]
            rfl
        by_cases c7 : all.2 = 0
        · rw [if_pos c7, seenSame_eq 2998 all.1 all.1 (by omega) (by omega), Option.bind_some, decide_eq_true rfl]
          exact key
        · rw [if_neg c7]
          exact key
      · obtain ⟨q1, q2⟩ := p1 c2 c3 c4
        rw [if_neg c4, if_pos q1, if_pos (by rw [q1, q2])]
        rfl

theorem scrivenerlaw19_SeenParts.calls_true (A0 : Option Addr) (c0 : Nat) (l0 : List (S38)) (a1 : Int) (A2 : Option Addr) (c2 : Nat) (l2 : List (S30)) (A3 : Option Addr) (c3 : Nat) (l3 : List (S30)) (w : World) (hr0 : Kd.C k38 w A0 l0.length l0) (hc0 : l0.length ≤ c0) (hr2 : Kd.C k30 w A2 l2.length l2) (hc2 : l2.length ≤ c2) (hr3 : Kd.C k30 w A3 l3.length l3) (hc3 : l3.length ≤ c3) (h1 : (Lit.int .u64 a1).wf = true) :
    Calls Try.prog 6 #[.slice A0 l0.length c0, .int .u64 a1, .slice A2 l2.length c2, .slice A3 l3.length c3] w fun e w' => e = .returned (.bool true) ∧ Below w.heap.size w w' := by
  have h1' : IntKind.u64.min ≤ a1 ∧ a1 ≤ IntKind.u64.max := by simpa [Lit.wf] using h1
  have h0 : 0 ≤ a1 := h1'.1
  have lg : ∀ l : List S30, (∀ e ∈ l, e.f2.length ≤ 9223372036854775807) → scrivenerlaw19_long.f 3000 l = some false → l.length ≤ 1000 := by
    intro l hb h
    obtain ⟨b, e, g⟩ := long_eq 3000 l (by omega) hb
    rw [h] at e
    cases e
    exact g rfl
  exact scrivenerlaw19_SeenPartsP.calls 3000 A0 c0 l0 a1 A2 c2 l2 A3 c3 l3 true w hr0 hc0 hr2 hc2 hr3 hc3 (SeenParts_true l0 a1 l2 l3 h0 (bodies hr2) (bodies hr3)) (lg l2 (bodies hr2)) (lg l3 (bodies hr3))

end Go.Proofs.Ytokhckbjdpgkfaa.P
