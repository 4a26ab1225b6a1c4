/- seen.Cut: what the call answers of any row and any offset. -/
import Derived.Test.YtokhckbjdpgkfaaGj
import Derived.Test.YtokhckbjdpgkfaaGd0
namespace Go.Proofs.Ytokhckbjdpgkfaa.P
set_option linter.unusedVariables false
set_option linter.unusedSimpArgs false
open Go.RowKit Go.Proofs.YtokhckbjdpgkfaaW.PrintWords Go.Proofs.YtokhckbjdpgkfaaW.PrintLast Go.Proofs.YtokhckbjdpgkfaaW.PrintMore

theorem cell_setCells_far {W : World} {a : Addr} {u : Value} (g o : Nat) (vs : List Value) (hne : a.block ≠ g) (h : W.cell? a = some u) : (W.setCells g o vs).cell? a = some u := by
  unfold World.cell? at h ⊢
  rw [setCells_far vs o a.block hne]
  exact h

set_option maxHeartbeats 1000000 in
theorem cut27 (A0 : Option Addr) (c0 : Nat) (l0 : List S38) (q : Int) (w : World) (hr0 : Kd.C k38 w A0 l0.length l0) (hlim : l0.length ≤ 5864062014805) :
    Calls Try.prog 27 #[.slice A0 l0.length c0, .int .u64 q] w fun e w' => ∃ v0_ : Value, e = .returned v0_ ∧ Kd.R k38 38 w' w.heap.size (fun _ => True) v0_ (l0.filter fun m => decide (m.f2 < q)) ∧ Below w.heap.size w w' := by
  have HR0 := Aside0.mk hr0
  have LM := Aside0.mk hlim
  clear hr0 hlim
  have hcell : (w.alloc (.cells #[.int .u64 q] 27)).cell? ⟨w.heap.size, 0, none⟩ = some (.int .u64 q) := by rw [World.cell?_alloc_at _ _ _ _ rfl]; rfl
  have HCELL := Aside0.mk hcell
  have HF : Aside0 ((l0.filter fun x => !decide (x.f2 ≥ q)) = l0.filter fun m => decide (m.f2 < q)) := ⟨by
    congr 1
    funext m
    rw [Bool.eq_iff_iff]
    simp⟩
  have B0 := Aside0.mk (below_alloc (Below.refl w.heap.size w) (.cells #[.int .u64 q] 27))
  clear hcell
  go_enter Try.func27, Try.ntmps27
  go_wp2_with (first | (go_at_call 40; refine (clone40 _ _ l0 _ (Kd.C_alloc HR0.out _) LM.out).mono ?_; rintro e w1 ⟨v, rfl, ho, hb⟩; have HO := Aside0.mk ho; have B1 := Aside0.mk hb; clear ho hb) | (go_at_call 50; refine (delete50 51 #[.pointer (some ⟨w.heap.size, 0, none⟩)] (fun m => decide (m.f2 ≥ q)) eg51 (fun W => W.cell? ⟨w.heap.size, 0, none⟩ = some (.int .u64 q)) (fun W x hW => pred51 W w.heap.size q hW W x (Below.refl _ _)) (fun W W' hW hb => (hb.cell (World.block_lt_of_cell? W _ hW)).trans hW) w.heap.size (fun _ => True) v l0 w w1 (Kd.R_lower HO.out (by simp)) ?hI2 ?hI (below_then B0.out (by simp) B1.out) (by have := B1.out.size; simp at this; omega)).mono ?_; (case hI2 => exact fun W g o vs hg hW => cell_setCells_far g o vs (by have := Kd.R_base HO.out g hg; simp at this; show w.heap.size ≠ g; omega) hW); (case hI => exact (B1.out.cell (p := ⟨w.heap.size, 0, none⟩) (by simp)).trans HCELL.out); rintro e w2 ⟨v', rfl, ho, hb, _, _⟩; have HO2 := Aside0.mk ho; have B2 := Aside0.mk hb; clear ho hb))
  go_ret
  refine ⟨_, rfl, ?_, B2.out⟩
  rw [← HF.out]
  exact HO2.out

theorem seen_Cut.calls (A0 : Option Addr) (c0 : Nat) (l0 : List (S38)) (a1 : Int) (r : List (S38)) (w : World) (hr0 : Kd.C k38 w A0 l0.length l0) (hc0 : l0.length ≤ c0) (h : seen_Cut.f l0 a1 = some r) :
    Calls Try.prog 27 #[.slice A0 l0.length c0, .int .u64 a1] w fun e w' => ∃ v0_ : Value, e = .returned (v0_) ∧ Kd.R k38 38 w' w.heap.size (fun _ => True) v0_ r ∧ Below w.heap.size w w' := by
  unfold seen_Cut.f at h
  split at h
  · rename_i hl
    obtain rfl := Option.some.inj h
    exact cut27 A0 c0 l0 a1 w hr0 hl
  · cases h

end Go.Proofs.Ytokhckbjdpgkfaa.P
