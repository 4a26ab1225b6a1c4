/- slices.Grow of no marks: what the call answers of any number of marks that it is to have room for. -/
import Derived.Test.YtokhckbjdpgkfaaGk
import Derived.Test.YtokhckbjdpgkfaaZr
namespace Go.Proofs.Ytokhckbjdpgkfaa.P
set_option linter.unusedVariables false
set_option linter.unusedSimpArgs false
open Go.RowKit Go.Proofs.YtokhckbjdpgkfaaW.PrintWords Go.Proofs.YtokhckbjdpgkfaaW.PrintLast Go.Proofs.YtokhckbjdpgkfaaW.PrintMore

def api_Mark_63.f (l : List S38) (n : Int) : Option (List S38) := if 0 ≤ n ∧ n ≤ 5864062014000 then some [] else none

/-- A row of the call's own, cut to nothing. -/
theorem R_none {W : World} {base g n cap : Nat} {ok : Nat → Prop} {xs : List S38} (h : Kd.R k38 38 W base ok (.slice (some ⟨g, 0, none⟩) n cap) xs) : Kd.R k38 38 W base ok (.slice (some ⟨g, 0, none⟩) 0 cap) [] := by
  obtain ⟨h0, inner, ho, hr⟩ := h
  refine ⟨h0, [], ?_, Reps.none _ _⟩
  rcases ho.2 with ⟨h1, _⟩ | ⟨g', cap', cur, h1, h2, h3, h4, h5, h6, h7⟩
  · cases h1
  · cases h1
    exact ⟨rfl, .inr ⟨g, cap, cur, rfl, h2, h3, Nat.zero_le _, h5, h6, by simp⟩⟩

set_option maxRecDepth 100000 in
set_option maxHeartbeats 4000000 in
theorem grow63 (n : Int) (r : List S38) (w : World) (h : api_Mark_63.f [] n = some r) :
    Calls Try.prog 63 #[.slice none 0 0, .int .i64 n] w fun e w' => ∃ v0_ : Value, e = .returned (v0_) ∧ Kd.R k38 38 w' w.heap.size (fun _ => True) v0_ r ∧ Below w.heap.size w w' := by
  unfold api_Mark_63.f at h
  by_cases hn : 0 ≤ n ∧ n ≤ 5864062014000
  · rw [if_pos hn] at h
    cases h
    have h0 : decide (n < 0) = false := decide_eq_false (by omega)
    have hw : wrap64 n = n := by unfold wrap64; omega
    have LN := Aside0.mk hn
    have HW := Aside0.mk hw
    by_cases hp : n = 0
    · subst hp
      clear hn
      go_enter Try.func63, Try.ntmps63
      go_wp2
      go_ret
      exact ⟨_, rfl, Kd.R_nil _ _ _ _ _, Below.refl _ _⟩
    · have h1 : decide (0 < n) = true := decide_eq_true (by omega)
      clear hn
      have HB := Aside0.mk (Below.refl w.heap.size w)
      go_enter Try.func63, Try.ntmps63
      go_upto_region 5 with (fail)
      go_wp2_with ((with_reducible refine gate_builtin (b := .append) (xs := #[.tmp 20, .tmp 21]) rfl ?_); (try (refine gate_guard (by rfl) ?_; dsimp only)); at_builtin; refine Kd.R_append_zeros k38 (w0 := w) w.heap.size rfl (.tmp 20) (.tmp 21) 25 3 38 (.agg #[(.int .i64 0), (.int .u64 0), (.int .u64 0)]) 24 rfl Try.underlying25 (k := .i64) (by kernel_rfl) info38 rfl (by decide) (by omega) (.slice none 0 0) ([] : List S38) z38 (wrap64 n) (fun _ => True) rfl rfl (k38_mkM _ _ _ z38) (fun _ _ => trivial) (Kd.R_nil _ _ _ _ _) (by rw [HW.out]; exact LN.out.1) HB.out (Nat.le_refl _) (by have := LN.out; rw [HW.out]; simp; omega) ?_; intro v22 w22 ho hb hg hat; obtain ⟨g, cap, rfl, gb, gl, _⟩ := Kd.R_form ho (by have := LN.out; rw [HW.out]; simp; omega); have HO := Aside0.mk (R_none ho); have HB2 := Aside0.mk hb; clear ho hb hg hat)
      go_ret
      exact ⟨_, rfl, HO.out, HB2.out⟩
  · rw [if_neg hn] at h
    cases h

end Go.Proofs.Ytokhckbjdpgkfaa.P
