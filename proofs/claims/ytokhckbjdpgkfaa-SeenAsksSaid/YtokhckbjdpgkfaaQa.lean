/- Plain law of SeenAsks: what the walked statement comes to is true for all rows. -/
import Derived.Test.YtokhckbjdpgkfaaQ0
import Derived.Test.YtokhckbjdpgkfaaPx15
namespace Go.Proofs.Ytokhckbjdpgkfaa.P
set_option linter.unusedVariables false
set_option linter.unusedSimpArgs false
open Go.RowKit

theorem SeenAsks_true (l0 l1 : List S38) (a2 a3 a4 : Int) : scrivenerlaw19_SeenAsks.f 2000 l0 l1 a2 a3 a4 = some true := by
  unfold scrivenerlaw19_SeenAsks.f
  by_cases h0 : (l0.length : Int) > 1000
  · rw [if_pos h0]
    rfl
  rw [if_neg h0]
  by_cases h1 : (l1.length : Int) > 1000
  · rw [decide_eq_true h1]
    rfl
  rw [decide_eq_false h1]
  have hl0 : l0.length ≤ 1000 := by omega
  have hl1 : l1.length ≤ 1000 := by omega
  obtain ⟨y, hy⟩ := is_eq 1999 (l0.filter fun m => decide (m.f2 < a4)) (l0.filter fun m => decide (m.f2 < a4)) 0 0 (by have := List.length_filter_le (fun m : S38 => decide (m.f2 < a4)) l0; omega) (by have := List.length_filter_le (fun m : S38 => decide (m.f2 < a4)) l0; omega) rfl rfl
  have e1 := refLast_eq 1999 l0 a2 (by omega) (by omega)
  obtain ⟨⟨t0, t1, t2, t3⟩, e2⟩ : ∃ t, seen_Last.f l0 a2 = some t := by
    unfold seen_Last.f
    cases lastM l0 a2 <;> exact ⟨_, rfl⟩
  rw [e2] at e1
  have e3 := seenAsk_eq 1999 l0 a2 a3 (by omega)
  have e4 := refAsk_eq 1999 l0 a2 a3 (by omega) (by omega)
  have e5 := seenMay_eq l0 (by omega)
  have e6 := refMay_eq 1999 l0 (by omega) (by omega)
  have e7 := seenSame_eq 1999 l0 l1 (by omega) (by omega)
  have e8 := refSame_eq 1999 l0 l1 (by omega) (by omega)
  have e9 := seenSame_eq 1999 l0 l0 (by omega) (by omega)
  have e10 := seenCut_eq l0 a4 (by omega)
  have e11 := refCut_eq 1999 l0 a4 (by omega) (by omega)
  have e12 := refSame_eq 1999 l0 l0 (by omega) (by omega)
  have hlim : 0 + l0.length < 5864062014805 := by omega
  show scrivenerlaw19_SeenAsks.j0 (1999 + 1) l0 l1 a2 a3 a4 false = some true
  unfold scrivenerlaw19_SeenAsks.j0 scrivenerlaw19_awake.f
  simp only [Bool.false_eq_true, if_false, Option.bind_some, List.length_nil, List.nil_append, if_pos hlim, e1, e2, e3, e4, e5, e6, e7, e8, e9, e10, e11, e12, hy, BEq.rfl, Bool.and_self, if_true, decide_true]

end Go.Proofs.Ytokhckbjdpgkfaa.P
