/- slices.CompactFunc over a row of marks of the call's own: how long what it answers is. -/
import Derived.Test.YtokhckbjdpgkfaaGk
import Derived.Outline
namespace Go.Proofs.Ytokhckbjdpgkfaa.P
set_option linter.unusedVariables false
set_option linter.unusedSimpArgs false
open Go.RowKit Go.Proofs.YtokhckbjdpgkfaaW.PrintWords Go.Proofs.YtokhckbjdpgkfaaW.PrintLast Go.Proofs.YtokhckbjdpgkfaaW.PrintMore

/-- Up to place i no mark has the producer of the one ahead of it. -/
def apartTo (l : List S38) : Nat → Bool
  | 0 => true
  | i + 1 => !((l.getD (i + 1) z38).f0 == (l.getD i z38).f0) && apartTo l i

theorem apartTo_false (l : List S38) (i : Nat) (h : ((l.getD (i + 1) z38).f0 == (l.getD i z38).f0) = true) : ∀ n, i + 1 ≤ n → apartTo l n = false
  | 0, hn => absurd hn (by omega)
  | n + 1, hn => by
    rcases Nat.lt_or_ge i n with hlt | hge
    · rw [apartTo, apartTo_false l i h n (by omega), Bool.and_false]
    · have : i = n := by omega
      subst this
      rw [apartTo, h]; rfl

theorem below_grow2 {base : Nat} {w0 W : World} (h : Below base w0 W) (hb : base ≤ W.heap.size) (n : Nat) (os : Array Obj) : Below base w0 (Sort.grow (W.drewN n) os) := by
  refine h.trans ⟨rfl, rfl, rfl, ?_, fun i hi => ?_⟩
  · simp [Sort.grow]
  · show ((W.drewN n).heap ++ os)[i]? = W.heap[i]?
    exact Array.getElem?_append_left (Nat.lt_of_lt_of_le hi hb)

theorem below_grow' (W : World) (n : Nat) (os : Array Obj) : Below W.heap.size W (Sort.grow (W.drewN n) os) := below_grow2 (Below.refl _ _) (Nat.le_refl _) n os

/-- A slice of n marks is answered just if b is so. -/
def CutLen (base : Nat) (w0 : World) (b : Bool) (n : Nat) (e : Ending) (w' : World) : Prop := ∃ A m c, e = .returned (.slice A m c) ∧ decide (m = n) = b ∧ Below base w0 w'

set_option maxHeartbeats 2000000 in
set_option maxRecDepth 100000 in
theorem compact39 (base : Nat) (ok : Nat → Prop) (v : Value) (l : List S38) (w0 W : World) (ho : Kd.R k38 38 W base ok v l) (hB : Below base w0 W) (hbs : base ≤ W.heap.size) :
    Calls Try.prog 39 #[v, .func (.func 41) #[] #[]] W (CutLen base w0 (apartTo l (l.length - 1)) l.length) := by
  have hu38 := Try.underlying38
  have mixed : Try.prog.follows .mixedOrders = true := by kernel_rfl
  by_cases h2 : l.length < 2
  · obtain ⟨A, c, rfl⟩ := Kd.R_slice ho
    have h2' : decide ((l.length : Int) < 2) = true := decide_eq_true (by omega)
    have HA : Aside0 (apartTo l (l.length - 1) = true) := ⟨by
      have : l.length - 1 = 0 := by omega
      rw [this]; rfl⟩
    have HB := Aside0.mk hB
    clear ho hB hbs
    go_enter Try.func39, Try.ntmps39
    go_wp2
    go_ret
    exact ⟨A, l.length, c, rfl, by rw [HA.out]; simp, HB.out⟩
  · obtain ⟨g, cap, rfl, gb, gl, _⟩ := Kd.R_form ho (by omega)
    obtain ⟨cur, hh, hcs, hnc, _, _, hcm⟩ := R_block ho
    have hm : cap ≤ 9223372036854775807 := hcm
    clear hcm
    have h2' : decide ((l.length : Int) < 2) = false := decide_eq_false (by omega)
    have HO := Aside0.mk ho
    have HB := Aside0.mk hB
    have HS := Aside0.mk hbs
    clear ho hB hbs hh hcs
    go_enter Try.func39, Try.ntmps39
    go_wp2
    go_loopg [5, 6, 7] l.length (fun gg s5 _ _ wr => ∃ i : Nat, s5 = .int .i64 ((i : Int) + 1) ∧ i + 1 ≤ l.length ∧ l.length - (i + 1) ≤ gg ∧ Aside0 (apartTo l i = true) ∧ Aside0 (Below W.heap.size W wr))
    case atStart => exact ⟨0, rfl, by omega, by omega, ⟨rfl⟩, ⟨Below.refl _ _⟩⟩
    case round =>
      obtain ⟨i, rfl, hin, hgg, HAP, BW⟩ := hrel
      by_cases hlt : i + 1 < l.length
      · have hs := BW.out.size
        have HOr := Kd.R_below HO.out BW.out
        obtain ⟨hx0, hx1, hx2, _⟩ := cells38 HOr (i + 1) hlt
        obtain ⟨hy0, hy1, hy2, _⟩ := cells38 HOr i (by omega)
        replace hx0 := cell_grown (Nat.lt_of_lt_of_le gl hs) hx0
        replace hx1 := cell_grown (Nat.lt_of_lt_of_le gl hs) hx1
        replace hx2 := cell_grown (Nat.lt_of_lt_of_le gl hs) hx2
        replace hy0 := cell_grown (Nat.lt_of_lt_of_le gl hs) hy0
        replace hy1 := cell_grown (Nat.lt_of_lt_of_le gl hs) hy1
        replace hy2 := cell_grown (Nat.lt_of_lt_of_le gl hs) hy2
        obtain ⟨x, hx⟩ : ∃ x, x = l.getD (i + 1) z38 := ⟨_, rfl⟩
        obtain ⟨y, hy⟩ : ∃ y, y = l.getD i z38 := ⟨_, rfl⟩
        rw [← hx] at hx0 hx1 hx2
        rw [← hy] at hy0 hy1 hy2
        have HX := Aside0.mk hx
        have HY := Aside0.mk hy
        have HOR := Aside0.mk HOr
        clear hx hy HOr hs
        have ea : ((i : Int) + 1).toNat = i + 1 := by omega
        have ec : ((i : Int)).toNat = i := by omega
        have pa : (0 : Int) ≤ (i : Int) + 1 := by omega
        have ba : (i : Int) + 1 < (l.length : Int) := by omega
        have ra : IntKind.i64.wrap ((i : Int) + 1) = (i : Int) + 1 := by rw [IntKind.wrap_i64]; omega
        have rb : IntKind.i64.wrap ((i : Int) + 1 - 1) = (i : Int) := by rw [IntKind.wrap_i64]; omega
        have pc : (0 : Int) ≤ (i : Int) := by omega
        have bc : (i : Int) < (l.length : Int) := by omega
        have rc : IntKind.i64.wrap ((i : Int)) = (i : Int) := by rw [IntKind.wrap_i64]; omega
        have hc := fun n os => eq41 (Sort.grow (wr.drewN n) os) x y
        unfold markV at hc
        cases hlv : (x.f0 == y.f0) with
        | true =>
          go_wp2_with fail
          go_quiet_grown (first | (go_at_call 41; refine Calls.grown_of (hc _ _)))
          have HAF : Aside0 (apartTo l (l.length - 1) = false) := ⟨apartTo_false l i (by rw [← HX.out, ← HY.out]; exact hlv) _ (by omega)⟩
          have BQ : Aside0 (Below W.heap.size W (Sort.grow (wr.drewN nq) osq)) := ⟨below_grow2 BW.out BW.out.size _ _⟩
          clear hx0 hx1 hx2 hy0 hy1 hy2 hc HX HY HOR BW HAP
          generalize Sort.grow (wr.drewN nq) osq = wq at BQ ⊢
          clear nq osq
          rw [hlv]
          go_wp2
          clear hlv
          go_loopg [5, 7] l.length (fun gg2 s5 s7 wz => ∃ (a k : Nat) (d : List S38), s5 = .int .i64 (a : Int) ∧ s7 = .int .i64 ((k : Int) + 1) ∧ i + 1 ≤ a ∧ a ≤ i + 1 + k ∧ i + 1 + (k + 1) ≤ l.length ∧ l.length - (i + 1 + (k + 1)) ≤ gg2 ∧ Aside0 (d.length = l.length) ∧ Aside0 (Kd.R k38 38 wz base ok (.slice (some ⟨g, 0, none⟩) l.length cap) d) ∧ Aside0 (Below base w0 wz) ∧ Aside0 (W.heap.size ≤ wz.heap.size))
          case atStart => exact ⟨i + 1, 0, l, by go_num, by go_num, by omega, by omega, by omega, by omega, ⟨rfl⟩, ⟨Kd.R_below HO.out BQ.out⟩, ⟨below_then HB.out HS.out BQ.out⟩, ⟨BQ.out.size⟩⟩
          case round =>
            obtain ⟨a, k, d, rfl, rfl, ha1, ha2, hk2, hgg2, HDL, HZ, BZ, SZ⟩ := hrel
            by_cases hkt : i + 1 + (k + 1) < l.length
            · have hgz : g < wr.heap.size := Nat.lt_of_lt_of_le gl SZ.out
              obtain ⟨hx0, hx1, hx2, _⟩ := cells38 HZ.out (i + 1 + (k + 1)) hkt
              obtain ⟨hy0, hy1, hy2, _⟩ := cells38 HZ.out (i + 1 + k) (by omega)
              rw [show (i + 1 + (k + 1)) * 3 = (i + 1) * 3 + (k + 1) * 3 from by omega] at hx0 hx1 hx2
              rw [show (i + 1 + k) * 3 = (i + 1) * 3 + k * 3 from by omega] at hy0 hy1 hy2
              obtain ⟨x, hx⟩ : ∃ x, x = d.getD (i + 1 + (k + 1)) z38 := ⟨_, rfl⟩
              obtain ⟨y, hy⟩ : ∃ y, y = d.getD (i + 1 + k) z38 := ⟨_, rfl⟩
              rw [← hx] at hx0 hx1 hx2
              rw [← hy] at hy0 hy1 hy2
              have HX := Aside0.mk hx
              clear hx hy
              replace hx0 := cell_grown hgz hx0
              replace hx1 := cell_grown hgz hx1
              replace hx2 := cell_grown hgz hx2
              replace hy0 := cell_grown hgz hy0
              replace hy1 := cell_grown hgz hy1
              replace hy2 := cell_grown hgz hy2
              have ea : ((k : Int) + 1).toNat = k + 1 := by omega
              have ec : ((k : Int)).toNat = k := by omega
              have pa : (0 : Int) ≤ (k : Int) + 1 := by omega
              have ba : (k : Int) + 1 < ((l.length - (i + 1) : Nat) : Int) := by omega
              have ra : IntKind.i64.wrap ((k : Int) + 1) = (k : Int) + 1 := by rw [IntKind.wrap_i64]; omega
              have rb : IntKind.i64.wrap ((k : Int) + 1 - 1) = (k : Int) := by rw [IntKind.wrap_i64]; omega
              have pc : (0 : Int) ≤ (k : Int) := by omega
              have bc : (k : Int) < ((l.length - (i + 1) : Nat) : Int) := by omega
              have rc : IntKind.i64.wrap ((k : Int)) = (k : Int) := by rw [IntKind.wrap_i64]; omega
              have hc := fun n os => eq41 (Sort.grow (wr.drewN n) os) x y
              unfold markV at hc
              cases hlv : (x.f0 == y.f0) with
              | true =>
                have hlv' : (!(x.f0 == y.f0)) = false := by rw [hlv]; rfl
                go_wp2_with fail
                go_quiet_grown (first | (go_at_call 41; refine Calls.grown_of (hc _ _)))
                go_wp2
                go_roundg (l.length - (i + 1 + (k + 1 + 1)))
                case measure => omega
                case rel => exact ⟨a, k + 1, d, rfl, by go_num, by omega, by omega, by omega, by omega, HDL, ⟨Kd.R_below HZ.out (below_grow' _ _ _)⟩, ⟨below_then BZ.out (Nat.le_trans HS.out SZ.out) (below_grow' _ _ _)⟩, ⟨Nat.le_trans SZ.out (below_grow' _ _ _).size⟩⟩
              | false =>
                have hlv' : (!(x.f0 == y.f0)) = true := by rw [hlv]; rfl
                go_wp2_with fail
                go_quiet_grown (first | (go_at_call 41; refine Calls.grown_of (hc _ _)))
                have BQ2 : Aside0 (Below wr.heap.size wr (Sort.grow (wr.drewN nq) osq)) := ⟨below_grow' _ _ _⟩
                clear hx0 hx1 hx2 hy0 hy1 hy2 hc
                generalize Sort.grow (wr.drewN nq) osq = wq2 at BQ2 ⊢
                clear nq osq
                have HZ2 := Kd.R_below HZ.out BQ2.out
                obtain ⟨hx0, hx1, hx2, _⟩ := cells38 HZ2 (i + 1 + (k + 1)) hkt
                obtain ⟨hy0, hy1, hy2, hf0, hf1, hf2⟩ := cells38 HZ2 a (by omega)
                rw [show (i + 1 + (k + 1)) * 3 = (i + 1) * 3 + (k + 1) * 3 from by omega] at hx0 hx1 hx2
                rw [← HX.out] at hx0 hx1 hx2
                obtain ⟨z, hz⟩ : ∃ z, z = d.getD a z38 := ⟨_, rfl⟩
                rw [← hz] at hy0 hy1 hy2
                have HS2 := Aside0.mk (set38 HZ2 a (by omega) x)
                have HB2 := Aside0.mk (setCells_below (below_then BZ.out (Nat.le_trans HS.out SZ.out) BQ2.out) g (a * 3) (cells3 x) gb)
                clear hz HZ2
                go_wp2
                go_roundg (l.length - (i + 1 + (k + 1 + 1)))
                case measure => omega
                case rel => exact ⟨a + 1, k + 1, d.set a x, by go_num, by go_num, by omega, by omega, by omega, by omega, ⟨by rw [List.length_set]; exact HDL.out⟩, ⟨HS2.out.1⟩, ⟨HB2.out⟩, ⟨by rw [show ∀ W : World, (((W.setCell ⟨g, a * 3, none⟩ (.int .i64 x.f0)).setCell ⟨g, a * 3 + 1, none⟩ (.int .u64 x.f1)).setCell ⟨g, a * 3 + 2, none⟩ (.int .u64 x.f2)).heap.size = W.heap.size from fun W => setCells_size g (cells3 x) W (a * 3)]; exact Nat.le_trans SZ.out BQ2.out.size⟩⟩
            · have hcl := fun ty => clear38 HZ.out a (l.length - a) (cap - a) (by omega) (by omega) ty
              go_wp2
              go_ret
              exact ⟨_, a, _, rfl, by rw [HAF.out]; exact decide_eq_false (by omega), setCells_below BZ.out _ _ _ gb⟩
        | false =>
          go_wp2_with fail
          go_quiet_grown (first | (go_at_call 41; refine Calls.grown_of (hc _ _)))
          go_wp2
          go_roundg (l.length - (i + 1 + 1))
          case measure => omega
          case rel => exact ⟨i + 1, by go_num, by omega, by omega, ⟨by rw [apartTo, ← HX.out, ← HY.out, hlv, HAP.out]; rfl⟩, ⟨below_grow2 BW.out BW.out.size _ _⟩⟩
      · have hltz : ¬ (i : Int) + 1 < (l.length : Int) := by omega
        go_wp2
        go_ret
        exact ⟨_, _, _, rfl, by
          have : l.length - 1 = i := by omega
          rw [this, HAP.out]; simp, below_then HB.out HS.out BW.out⟩

end Go.Proofs.Ytokhckbjdpgkfaa.P
