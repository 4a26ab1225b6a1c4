/- Plain law of SeenGoes: what the walked statement comes to is true for all rows, marks and entries. -/
import Derived.Test.YtokhckbjdpgkfaaQ2
import Derived.Test.YtokhckbjdpgkfaaPx16
namespace Go.Proofs.Ytokhckbjdpgkfaa.P
set_option linter.unusedVariables false
set_option linter.unusedSimpArgs false
open Go.RowKit Go.Proofs.YtokhckbjdpgkfaaW.PrintWords Go.Proofs.YtokhckbjdpgkfaaW.PrintLast

theorem goesAll_len : ∀ {m l r : List S38}, RowUp l → l.length ≤ 1000 → goesAll l m = some r → r.length ≤ 1000 ∧ RowUp r
  | [], l, r, hu, hl, h => by
    cases h
    exact ⟨hl, hu⟩
  | x :: m, l, r, hu, hl, h => by
    unfold goesAll at h
    cases h1 : goesOne l x with
    | none => rw [h1] at h; cases h
    | some l' =>
      rw [h1] at h
      refine goesAll_len (m := m) ?_ ?_ h
      · rw [goesOne_eq hu] at h1
        cases hg : getM l x.f0 with
        | some y =>
          rw [hg] at h1
          dsimp only at h1
          split at h1 <;> cases h1
          · exact insR_up hu
          · exact hu
        | none =>
          rw [hg] at h1
          dsimp only at h1
          split at h1 <;> cases h1
          exact insR_up hu
      · have hlen := insR_length (m := x) hu
        rw [goesOne_eq hu] at h1
        cases hg : getM l x.f0 with
        | some y =>
          rw [hg] at h1 hlen
          dsimp only at h1
          split at h1 <;> cases h1
          · simp at hlen; omega
          · exact hl
        | none =>
          rw [hg] at h1 hlen
          dsimp only at h1
          split at h1 <;> cases h1
          simp at hlen; omega
theorem ansOf_len {l m : List S38} (hu : RowUp l) (hl : l.length ≤ 1000) : (ansOf (goesAll l m)).1.length ≤ 1000 := by
  cases h : goesAll l m with
  | none => simp [ansOf]
  | some r => exact (goesAll_len hu hl h).1
theorem addA_len (l : List S38) (m : S38) : (addA l m).1.length ≤ 1000 := by
  unfold addA
  cases h : mayRow l with
  | false => simp
  | true =>
    obtain ⟨h1, h2, h3⟩ := (mayRow_iff l).1 h
    rw [← goesAll_one]
    split
    · exact ansOf_len h3 (by omega)
    · simp
theorem joinA_len (a b : List S38) : (joinA a b).1.length ≤ 1000 := by
  unfold joinA
  cases h : mayRow a with
  | false => simp
  | true =>
    obtain ⟨h1, h2, h3⟩ := (mayRow_iff a).1 h
    split
    · exact ansOf_len h3 (by omega)
    · simp
theorem takeA_len (l : List S38) (fr : Int) (es : List S30) : (takeA l fr es).1.length ≤ 1000 := by
  unfold takeA
  cases h : mayRow l with
  | false => simp
  | true =>
    obtain ⟨h1, h2, h3⟩ := (mayRow_iff l).1 h
    split
    · split
      · exact Nat.le_trans h1 (by omega)
      · split
        · exact ansOf_len h3 (by omega)
        · simp
    · simp

theorem SeenGoes_true (l0 l1 : List S38) (a20 a21 a22 a3 : Int) (l4 : List S30) (h3 : 0 ≤ a3) (h3' : a3 < 18446744073709551616) (hb : ∀ e ∈ l4, e.f2.length ≤ 9223372036854775807) : scrivenerlaw19_SeenGoes.f 4000 l0 l1 a20 a21 a22 a3 l4 = some true := by
  unfold scrivenerlaw19_SeenGoes.f
  by_cases h0 : (l0.length : Int) > 1000
  · rw [if_pos h0]
    rfl
  rw [if_neg h0]
  by_cases h1 : (l1.length : Int) > 1000
  · rw [if_pos h1]
    rfl
  rw [if_neg h1]
  obtain ⟨b, e0, hb2⟩ := long_eq 4000 l4 (by omega) hb
  rw [e0, Option.bind_some]
  cases b with
  | true => rfl
  | false =>
    have hl0 : l0.length ≤ 1000 := by omega
    have hl1 : l1.length ≤ 1000 := by omega
    have hl4 := hb2 rfl
    have e1 := seenAdd_eq l0 a20 a21 a22 (by omega)
    have e2 := refAdd_eq 3999 l0 a20 a21 a22 (by omega) (by omega)
    have e3 := seenTake_eq l0 a3 l4 (by omega) (by omega) h3
    have e4 := refTake_eq 3999 l0 a3 l4 (by omega) (by omega) h3 h3' (by omega)
    have e5 := seenJoin_eq l0 l1 (by omega) (by omega)
    have e6 := refJoin_eq 3999 l0 l1 (by omega) (by omega) (by omega)
    have e7 := refSame_eq 3999 l0 l0 (by omega) (by omega)
    have e8 := refSame_eq 3999 l1 l1 (by omega) (by omega)
    have n1 := addA_len l0 ⟨a20, a21, a22⟩
    have n2 := takeA_len l0 a3 l4
    have n3 := joinA_len l0 l1
    obtain ⟨y1, i1⟩ := is_eq 3999 _ _ _ _ (by omega) (by omega) (rfl : (addA l0 ⟨a20, a21, a22⟩).2 = _) (rfl : (addA l0 ⟨a20, a21, a22⟩).1 = _)
    obtain ⟨y2, i2⟩ := is_eq 3999 _ _ _ _ (by omega) (by omega) (rfl : (takeA l0 a3 l4).2 = _) (rfl : (takeA l0 a3 l4).1 = _)
    obtain ⟨y3, i3⟩ := is_eq 3999 _ _ _ _ (by omega) (by omega) (rfl : (joinA l0 l1).2 = _) (rfl : (joinA l0 l1).1 = _)
    have hlim0 : 0 + l0.length < 5864062014805 := by omega
    have hlim1 : 0 + l1.length < 5864062014805 := by omega
    show scrivenerlaw19_SeenGoes.j0 (3999 + 1) l0 l1 a3 l4 false a20 a21 a22 = some true
    unfold scrivenerlaw19_SeenGoes.j0 scrivenerlaw19_awake.f
    simp only [Bool.false_eq_true, if_false, Option.bind_some, List.length_nil, List.nil_append, if_pos hlim0, if_pos hlim1, e1, e2, e3, e4, e5, e6, e7, e8, i1, i2, i3, if_true, decide_true]

theorem bodies {w : World} {A : Option Addr} {l : List S30} (h : Kd.C k30 w A l.length l) : ∀ e ∈ l, e.f2.length ≤ 9223372036854775807 := by
  intro e he
  have hpos : 0 < l.length := List.length_pos_of_mem he
  obtain ⟨ad, _, hc⟩ := h.2.2 hpos
  obtain ⟨j, hj⟩ := List.getElem?_of_mem he
  obtain ⟨c, _, hK, _⟩ := hc j e hj
  obtain ⟨A2, c2, _, _, hC⟩ := k30_open hK
  exact hC.2.1

theorem scrivenerlaw19_SeenGoes.calls_true (A0 : Option Addr) (c0 : Nat) (l0 : List (S38)) (A1 : Option Addr) (c1 : Nat) (l1 : List (S38)) (a2_0 : Int) (a2_1 : Int) (a2_2 : Int) (a3 : Int) (A4 : Option Addr) (c4 : Nat) (l4 : List (S30)) (w : World) (hr0 : Kd.C k38 w A0 l0.length l0) (hc0 : l0.length ≤ c0) (hr1 : Kd.C k38 w A1 l1.length l1) (hc1 : l1.length ≤ c1) (hr4 : Kd.C k30 w A4 l4.length l4) (hc4 : l4.length ≤ c4) (h3 : (Lit.int .u64 a3).wf = true) :
    Calls Try.prog 4 #[.slice A0 l0.length c0, .slice A1 l1.length c1, .agg #[.int .i64 a2_0, .int .u64 a2_1, .int .u64 a2_2], .int .u64 a3, .slice A4 l4.length c4] w fun e w' => e = .returned (.bool true) ∧ Below w.heap.size w w' := by
  have h3' : 0 ≤ a3 ∧ a3 ≤ 18446744073709551615 := by
    have h : IntKind.u64.min ≤ a3 ∧ a3 ≤ IntKind.u64.max := by simpa [Lit.wf] using h3
    exact ⟨h.1, h.2⟩
  exact scrivenerlaw19_SeenGoes.calls 4000 A0 c0 l0 A1 c1 l1 a2_0 a2_1 a2_2 a3 A4 c4 l4 true w hr0 hc0 hr1 hc1 hr4 hc4 (SeenGoes_true l0 l1 a2_0 a2_1 a2_2 a3 l4 h3'.1 (by omega) (bodies hr4))

end Go.Proofs.Ytokhckbjdpgkfaa.P
