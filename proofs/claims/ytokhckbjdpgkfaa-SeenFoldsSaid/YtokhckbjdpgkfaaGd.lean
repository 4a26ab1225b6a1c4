/- seen.Last: what the call answers of any row and any producer; slices.Backward over marks, as a range over a function. -/
import Derived.RangeFuncNested
import Derived.RangeFuncBound
import Derived.RangeFuncCalls
import Derived.RangeFuncLeaves
import Derived.RangeFuncBox
import Derived.Shelf.Abstract
import Derived.Shelf.RegionOpen
import Derived.WalkKit
import Derived.OwnWalkIn
import Derived.TacticsInMore
import Derived.LoopNIn
import Derived.LoopIn
import Derived.Test.YtokhckbjdpgkfaaGk
namespace Go.Proofs.Ytokhckbjdpgkfaa.P
set_option linter.unusedVariables false
set_option linter.unusedSimpArgs false
open Go.RowKit Go.Shelf Go.Proofs.YtokhckbjdpgkfaaW.PrintWords Go.Proofs.YtokhckbjdpgkfaaW.PrintLast Go.Proofs.YtokhckbjdpgkfaaW.PrintMore
attribute [local go_sem] Oper.semAt_some

/-- What has come when k rounds are over: the marks from the last one on, each with its place. -/
def backTo (l : List S38) (k : Nat) : List (Int × S38) := (List.range k).map fun (j : Nat) => ((l.length : Int) - 1 - (j : Int), l.getD (l.length - 1 - j) z38)
theorem backTo_succ (l : List S38) (k : Nat) : backTo l (k + 1) = backTo l k ++ [((l.length : Int) - 1 - (k : Int), l.getD (l.length - 1 - k) z38)] := by simp [backTo, List.range_succ]
theorem backTo_length (l : List S38) (k : Nat) : (backTo l k).length = k := by simp [backTo]

def BackPost (l : List S38) (J Jx : List (Int × S38) → World → Prop) (e : Ending) (W' : World) : Prop :=
  (∃ v, e = .returned v) ∧ ((∃ ys, ys = backTo l l.length ∧ J ys W') ∨ (∃ pre, (∃ k, k ≤ l.length ∧ pre = backTo l k) ∧ Jx pre W'))

set_option maxRecDepth 100000 in
set_option maxHeartbeats 2000000 in
theorem back62_in (F : Fence) (n : Nat) (hf : F.fn 62) (hro : F.round = none) (hn : 1 ≤ n) (y Bs n₀ : Nat) (A : Option Addr) (c : Nat) (l : List S38) (J Jx : List (Int × S38) → World → Prop)
    (hY : ∀ pre x W, J pre W → pre.length < l.length → YieldAt F (n - 1) Try.prog y #[.int .i64 x.1, .agg #[.int .i64 x.2.f0, .int .u64 x.2.f1, .int .u64 x.2.f2]] W fun e W' =>
      (e = .returned (.bool true) ∧ J (pre ++ [x]) W' ∧ Below n₀ W W') ∨ (e = .returned (.bool false) ∧ Jx (pre ++ [x]) W'))
    (W : World) (hBs : W.cell? ⟨Bs, 0, none⟩ = some (.slice A l.length c)) (hBn : Bs < n₀) (hC : ∀ W', Below n₀ W W' → Kd.C k38 W' A l.length l) (h0 : J [] W) :
    CallsIn F n Try.prog 62 #[.func (.yield y) #[] #[], .pointer (some ⟨Bs, 0, none⟩)] W (BackPost l J Jx) := by
  have hu38 := Try.underlying38
  have hm := (hC W (Below.refl _ _)).2.1
  refine callsIn_of_wp Try.func62 rfl hf ?_ hro
  simp only [Try.ntmps62, List.size_toArray, List.length_cons, List.length_nil, Nat.reduceAdd, Nat.reduceSub, Array.replicate_succ, Array.replicate_zero, List.push_toArray, List.append_toArray, List.nil_append, List.cons_append]
  have HC := Aside0.mk hC
  clear hC
  gi_wp2
  gi_loopw [3] (fun i wr => ∃ k : Nat, k ≤ l.length ∧ i = .int .i64 ((l.length : Int) - 1 - (k : Int)) ∧ J (backTo l k) wr ∧ Below n₀ W wr)
    (fun i _ => (intOf i + 1).toNat)
  case atStart => exact ⟨0, Nat.zero_le _, by simp, h0, Below.refl _ _⟩
  case round =>
    obtain ⟨k, hk, rfl, hJs, hnx⟩ := hrel
    have hbs := (hnx.cell (p := ⟨Bs, 0, none⟩) hBn).trans hBs
    by_cases hlt : k < l.length
    · obtain ⟨ad, rfl, hx0, hx1, hx2⟩ := at_T38 (HC.out wr hnx) ((l.length : Int) - 1 - (k : Int)) (by omega) (by omega)
      have hz : ((l.length : Int) - 1 - (k : Int)).toNat = l.length - 1 - k := by omega
      have hrd : rd_T38 l ((l.length : Int) - 1 - (k : Int)) = l.getD (l.length - 1 - k) z38 := by unfold rd_T38; rw [hz]
      rw [hz, hrd] at hx0 hx1 hx2
      obtain ⟨x, hx⟩ : ∃ x, x = l.getD (l.length - 1 - k) z38 := ⟨_, rfl⟩
      rw [← hx] at hx0 hx1 hx2
      obtain ⟨fn, tmps, assign, body, hy, hR⟩ := hY _ ((l.length : Int) - 1 - (k : Int), x) wr hJs (by rw [backTo_length]; exact hlt)
      dsimp only at hy
      have HX := Aside0.mk hx
      clear hrd hx
      have hge : (0 : Int) ≤ (l.length : Int) - 1 - (k : Int) := by omega
      have hlt2 : (l.length : Int) - 1 - (k : Int) < (l.length : Int) := by omega
      gi_wp2
      refine hR.mono ?_
      rintro e W3 (⟨rfl, hJ3, hk3⟩ | ⟨rfl, hJx3⟩)
      · gi_wp2
        go_roundw
        case rel => exact ⟨k + 1, by omega, by congr 1; omega, by rw [backTo_succ, ← HX.out]; exact hJ3, hnx.trans hk3⟩
        case measure => simp [intOf]; omega
      · gi_wp2
        refine bodyPost_ret (results_none rfl _ _ _) rfl ?_
        exact ⟨⟨_, rfl⟩, .inr ⟨_, ⟨k + 1, by omega, by rw [backTo_succ, ← HX.out]⟩, hJx3⟩⟩
    · obtain rfl : k = l.length := by omega
      have hneg : ¬ (0 : Int) ≤ (l.length : Int) - 1 - (l.length : Int) := by omega
      gi_wp2
      go_end0
      exact ⟨⟨_, rfl⟩, .inl ⟨_, rfl, hJs⟩⟩

set_option maxHeartbeats 1000000 in
theorem backward48_in (F : Fence) (n : Nat) (hf : F.fn 48) (hro : F.round = none) (a : Option Addr) (len cap : Nat) (w : World) :
    CallsIn F n Try.prog 48 #[.slice a len cap] w fun e w' => e = .returned (.func (.func 62) #[] #[.pointer (some ⟨w.heap.size, 0, none⟩)]) ∧ w' = w.alloc (.cells #[.slice a len cap] 25) := by
  refine callsIn_of_wp Try.func48 rfl hf ?_ hro
  simp only [Try.ntmps48, List.size_toArray, List.length_cons, List.length_nil, Nat.reduceAdd, Nat.reduceSub, Array.replicate_succ, Array.replicate_zero, List.push_toArray, List.append_toArray, List.nil_append, List.cons_append]
  gi_wp2
  go_ret
  exact ⟨rfl, rfl⟩

theorem back_stops (F : Fence) (n : Nat) (hf : F.fn 62) (hro : F.round = none) (hn : 1 ≤ n) (Bs n₀ : Nat) (A : Option Addr) (c : Nat) (l : List S38) (w : World) (hBs : Bs < w.heap.size) (hBn : Bs < n₀) (hn₀ : n₀ ≤ w.heap.size)
    (hc : w.cell? ⟨Bs, 0, none⟩ = some (.slice A l.length c)) (hC : ∀ W', Below n₀ w W' → Kd.C k38 W' A l.length l) :
    SeqStopsK F n Try.prog 62 #[.pointer (some ⟨Bs, 0, none⟩)] (fun x : Int × S38 => #[Value.int .i64 x.1, .agg #[.int .i64 x.2.f0, .int .u64 x.2.f1, .int .u64 x.2.f2]]) (Below n₀) (fun ys => ys = backTo l l.length)
      (fun pre => ∃ k, k ≤ l.length ∧ pre = backTo l k) l.length w := fun y J Jx W hW _ _ hY h0 => by
  have hc' := (hW.cell (p := ⟨Bs, 0, none⟩) hBs).trans hc
  exact back62_in F n hf hro hn y Bs n₀ A c l J Jx hY W hc' hBn (fun W' hb => hC W' ((hW.mono hn₀).trans hb)) h0

theorem blk_own {A B : World} {row : Option Nat} {g : Nat} {cs : Array Value} {t : TypeId} (h : A.heap[g]? = some (.cells cs t (0, 0))) (hg : A.grownBy B row) (hr : ∀ r, row = some r → ∃ o : Obj, A.heap[r]? = some o ∧ o.isCells = false) : B.heap[g]? = some (.cells cs t (0, 0)) :=
  blk_grown h hg (fun e => by
    obtain ⟨o, ho, hc⟩ := hr g e.symm
    rw [h] at ho
    injection ho with ho
    subst ho
    cases hc)

def LastBack (w : World) (r : Option S38) (e : Ending) (w' : World) : Prop :=
  (∃ m b, (r = some m ∧ b = true ∨ r = none ∧ m = z38 ∧ b = false) ∧ e = .returned (.tuple #[.agg #[.int .i64 m.f0, .int .u64 m.f1, .int .u64 m.f2], .bool b])) ∧ Below w.heap.size w w'

theorem lastM_none (l : List S38) (p : Int) (h : ∀ q ∈ backTo l l.length, q.2.f0 ≠ p) : lastM l p = none := by
  unfold lastM
  rw [List.find?_eq_none]
  intro x hx
  rw [List.mem_reverse] at hx
  obtain ⟨j, hj, rfl⟩ := List.getElem_of_mem hx
  have := h ((l.length : Int) - 1 - ((l.length - 1 - j : Nat) : Int), l.getD (l.length - 1 - (l.length - 1 - j)) z38) (by
    simp only [backTo, List.mem_map, List.mem_range]
    exact ⟨l.length - 1 - j, by omega, rfl⟩)
  have e : l.length - 1 - (l.length - 1 - j) = j := by omega
  rw [e, List.getD_eq_getElem?_getD, List.getElem?_eq_getElem hj] at this
  simpa using this

theorem lastM_some (l : List S38) (p : Int) (k : Nat) (hk : k + 1 ≤ l.length) (h : ∀ q ∈ backTo l k, q.2.f0 ≠ p) (hp : (l.getD (l.length - 1 - k) z38).f0 = p) : lastM l p = some (l.getD (l.length - 1 - k) z38) := by
  unfold lastM
  rw [List.find?_eq_some_iff_getElem]
  refine ⟨by simpa using hp, k, by rw [List.length_reverse]; omega, ?_, fun j hj => ?_⟩
  · rw [List.getElem_reverse, List.getD_eq_getElem?_getD, List.getElem?_eq_getElem (by omega)]
    rfl
  · rw [List.getElem_reverse]
    have := h ((l.length : Int) - 1 - (j : Int), l.getD (l.length - 1 - j) z38) (by
      simp only [backTo, List.mem_map, List.mem_range]
      exact ⟨j, hj, rfl⟩)
    rw [List.getD_eq_getElem?_getD, List.getElem?_eq_getElem (by omega)] at this
    simpa using this

set_option maxRecDepth 100000 in
set_option maxHeartbeats 4000000 in
theorem last22_in (F : Fence) (n : Nat) (h22 : F.fn 22) (h48 : F.fn 48) (h62 : F.fn 62) (hro : F.round = none) (hn : 3 ≤ n) (A : Option Addr) (c : Nat) (l : List S38) (p : Int) (w : World) (hC : Kd.C k38 w A l.length l) :
    CallsIn F n Try.prog 22 #[.slice A l.length c, .int .i64 p] w (LastBack w (lastM l p)) := by
  have h1 : 1 ≤ n := by omega
  have hu38 := Try.underlying38
  refine callsIn_of_wp_marks Try.func22 rfl h22 ?_ hro
  simp only [Try.ntmps22, List.size_toArray, List.length_cons, List.length_nil, Nat.reduceAdd, Nat.reduceSub, Array.replicate_succ, Array.replicate_zero, List.push_toArray, List.append_toArray, List.nil_append, List.cons_append]
  have HC := Aside0.mk hC
  clear hC
  gi_wp2_with (gi_at_call 48; refine (backward48_in F (n - 1) h48 hro _ _ _ _).mono ?_; rintro e w' ⟨rfl, rfl⟩)
  have b0 := blk_new w (.cells #[.int .i64 p] 3)
  have b1 := blk_new (w.alloc (.cells #[.int .i64 p] 3)) (.cells #[.int .i64 0, .int .u64 0, .int .u64 0] 38)
  have b2 := blk_new ((w.alloc (.cells #[.int .i64 p] 3)).alloc (.cells #[.int .i64 0, .int .u64 0, .int .u64 0] 38)) (.cells #[.bool false] 4)
  have b3 := blk_new (((w.alloc (.cells #[.int .i64 p] 3)).alloc (.cells #[.int .i64 0, .int .u64 0, .int .u64 0] 38)).alloc (.cells #[.bool false] 4)) (.cells #[.slice A l.length c] 25)
  rw [World.size_alloc] at b1
  rw [World.size_alloc, World.size_alloc] at b2
  rw [World.size_alloc, World.size_alloc, World.size_alloc] at b3
  have c0 := blk_alloc (blk_alloc (blk_alloc b0 (.cells #[.int .i64 0, .int .u64 0, .int .u64 0] 38)) (.cells #[.bool false] 4)) (.cells #[.slice A l.length c] 25)
  have c1 := blk_alloc (blk_alloc b1 (.cells #[.bool false] 4)) (.cells #[.slice A l.length c] 25)
  have c2 := blk_alloc b2 (.cells #[.slice A l.length c] 25)
  have hB0 : Below w.heap.size w ((((w.alloc (.cells #[.int .i64 p] 3)).alloc (.cells #[.int .i64 0, .int .u64 0, .int .u64 0] 38)).alloc (.cells #[.bool false] 4)).alloc (.cells #[.slice A l.length c] 25)) := below_alloc (below_alloc (below_alloc (below_alloc (Below.refl _ _) _) _) _) _
  have hsz : ((((w.alloc (.cells #[.int .i64 p] 3)).alloc (.cells #[.int .i64 0, .int .u64 0, .int .u64 0] 38)).alloc (.cells #[.bool false] 4)).alloc (.cells #[.slice A l.length c] 25)).heap.size = w.heap.size + 4 := by simp
  clear b0 b1 b2
  generalize ((((w.alloc (.cells #[.int .i64 p] 3)).alloc (.cells #[.int .i64 0, .int .u64 0, .int .u64 0] 38)).alloc (.cells #[.bool false] 4)).alloc (.cells #[.slice A l.length c] 25)) = W0 at hB0 hsz b3 c0 c1 c2 ⊢
  obtain ⟨H, hH⟩ : ∃ H, w.heap.size = H := ⟨_, rfl⟩
  rw [hH] at hB0 hsz b3 c0 c1 c2 ⊢
  have HH := Aside0.mk hH
  clear hH
  refine wpIn_rangeFunc_ownH (encs := fun x : Int × S38 => #[Value.int .i64 x.1, .agg #[.int .i64 x.2.f0, .int .u64 x.2.f1, .int .u64 x.2.f2]]) (Kp := Below (H + 4)) hro h1 (gf := 62) (lb := #[.pointer (some ⟨H + 1 + 1 + 1, 0, none⟩)]) rfl h62 (enters_of Try.func62 (by kernel_rfl) rfl)
    (back_stops F (n - 1) h62 hro (by omega) (H + 1 + 1 + 1) (H + 4) A c l W0 (by omega) (by omega) (by omega) ((blk_cell b3 0).trans rfl) (fun W' hb => Kd.C_below HC.out (by rw [HH.out]; exact hB0.trans (hb.mono (by omega)))))
    belowK_t (belowK_b (by omega)) (Below.refl _ _) (fun _ => rfl)
    (fun (pre : List (Int × S38)) W => ((∀ q ∈ pre, q.2.f0 ≠ p) ∧ W.heap[H]? = some (.cells #[.int .i64 p] 3 (0, 0)) ∧ W.heap[H + 1]? = some (.cells #[.int .i64 0, .int .u64 0, .int .u64 0] 38 (0, 0)) ∧ W.heap[H + 1 + 1]? = some (.cells #[.bool false] 4 (0, 0)) ∧ W.heap[H + 1 + 1 + 1]? = some (.cells #[.slice A l.length c] 25 (0, 0))) ∧ Below H w W)
    (fun cc (pre : List (Int × S38)) W => (cc = .ret ∧ ∃ (ini : List (Int × S38)) (last : Int × S38), pre = ini ++ [last] ∧ (∀ q ∈ ini, q.2.f0 ≠ p) ∧ last.2.f0 = p ∧ W.heap[H + 1]? = some (.cells #[.int .i64 last.2.f0, .int .u64 last.2.f1, .int .u64 last.2.f2] 38 (0, 0)) ∧ W.heap[H + 1 + 1]? = some (.cells #[.bool true] 4 (0, 0))) ∧ Below H w W)
    (OwnFrom.and (fun s X Y row hs hg hr => ⟨hs.1, blk_own hs.2.1 hg (fun r e => (hr r e).2), blk_own hs.2.2.1 hg (fun r e => (hr r e).2), blk_own hs.2.2.2.1 hg (fun r e => (hr r e).2), blk_own hs.2.2.2.2 hg (fun r e => (hr r e).2)⟩) (ownFrom_below (by rw [HH.out]; exact Nat.le_refl _) (by omega)))
    (fun cc => OwnFrom.and (fun s X Y row hs hg hr => by
      obtain ⟨hc, ini, last, e1, e2, e3, e4, e5⟩ := hs
      exact ⟨hc, ini, last, e1, e2, e3, blk_own e4 hg (fun r e => (hr r e).2), blk_own e5 hg (fun r e => (hr r e).2)⟩) (ownFrom_below (by rw [HH.out]; exact Nat.le_refl _) (by omega)))
    ⟨⟨by simp, c0, c1, c2, b3⟩, hB0⟩
    (fun (x : Int × S38) a' W => ∃ Bx, H + 1 + 1 < Bx ∧ W.heap[Bx]? = some (.cells #[.int .i64 x.2.f0, .int .u64 x.2.f1, .int .u64 x.2.f2] 38 (0, 0)) ∧ a' = { tmps := #[.slice A l.length c, .int .i64 p, undef, .pointer (some ⟨H, 0, none⟩), .pointer (some ⟨H + 1, 0, none⟩), .pointer (some ⟨H + 1 + 1, 0, none⟩), undef, .pointer (some ⟨Bx, 0, none⟩), .slice A l.length c, .func (.func 62) #[] #[.pointer (some ⟨H + 1 + 1 + 1, 0, none⟩)], .int .i64 x.1, .agg #[.int .i64 x.2.f0, .int .u64 x.2.f1, .int .u64 x.2.f2], undef, undef, undef, undef, undef, undef], defers := [] })
    (fun x a' s X Y row hs hg hr => by
      obtain ⟨Bx, e1, e2, e3⟩ := hs
      exact ⟨Bx, e1, blk_own e2 hg (fun r e => (hr r e).2), e3⟩)
    ?assign ?body ?done ?stop
  case assign =>
    rintro y pre x W K ⟨⟨hp, d0, d1, d2, d3⟩, hB⟩ hK
    gi_wp2
    refine hK _ _ ((KeepsOthers.alloc _ _).from _) ((Below.refl _ W).alloc (by have := blk_lt d3; omega) _) ⟨⟨hp, blk_alloc d0 _, blk_alloc d1 _, blk_alloc d2 _, blk_alloc d3 _⟩, hB.alloc (by have := blk_lt d0; omega) _⟩ ⟨W.heap.size, blk_lt d2, blk_new W _, rfl⟩
  case body =>
    rintro y pre x a' W hl ⟨r, hr⟩ ⟨⟨hp, d0, d1, d2, d3⟩, hB⟩ ⟨Bx, hBx, bX, rfl⟩ hlt
    have x0 := (blk_cell bX 0).trans rfl
    have x1 := (blk_cell bX 1).trans rfl
    have x2 := (blk_cell bX 2).trans rfl
    have p0 := (blk_cell d0 0).trans rfl
    have m0 := (blk_cell d1 0).trans rfl
    have m1 := (blk_cell d1 1).trans rfl
    have m2 := (blk_cell d1 2).trans rfl
    have t0 := (blk_cell d2 0).trans rfl
    have f0 := blk_frozen d1 0
    have f1 := blk_frozen d1 1
    have f2 := blk_frozen d1 2
    have f3 := blk_frozen d2 0
    cases hq : (x.2.f0 == p) with
    | true =>
      gi_wp2
      have k1 := blk_put (blk_put (blk_put d1 0 (.int .i64 x.2.f0) rfl) 1 (.int .u64 x.2.f1) rfl) 2 (.int .u64 x.2.f2) rfl
      have k2 := blk_put (blk_far (blk_far (blk_far d2 (p := ⟨H + 1, 0, none⟩) (by show H + 1 + 1 ≠ H + 1; omega) (.int .i64 x.2.f0)) (p := ⟨H + 1, 1, none⟩) (by show H + 1 + 1 ≠ H + 1; omega) (.int .u64 x.2.f1)) (p := ⟨H + 1, 2, none⟩) (by show H + 1 + 1 ≠ H + 1; omega) (.int .u64 x.2.f2)) 0 (.bool true) rfl
      refine ⟨?_, ⟨rfl, pre, x, rfl, hp, beq_iff_eq.1 hq, blk_far k1 (p := ⟨H + 1 + 1, 0, none⟩) (by show H + 1 ≠ H + 1 + 1; omega) (.bool true), k2⟩, ?_⟩
      · exact ((((KeepsOthers.setCell _ _ _).trans (KeepsOthers.setCell _ _ _)).trans (KeepsOthers.setCell _ _ _)).trans (KeepsOthers.setCell _ _ _)).from _
      · exact (((hB.setCell (p := ⟨H + 1, 0, none⟩) (by show H ≤ H + 1; omega) _).setCell (p := ⟨H + 1, 1, none⟩) (by show H ≤ H + 1; omega) _).setCell (p := ⟨H + 1, 2, none⟩) (by show H ≤ H + 1; omega) _).setCell (p := ⟨H + 1 + 1, 0, none⟩) (by show H ≤ H + 1 + 1; omega) _
    | false =>
      gi_wp2
      exact ⟨KeepsFrom.refl _ _, Below.refl _ _, ⟨fun q hq' => (List.mem_append.1 hq').elim (hp q) (fun e => by simp at e; subst e; exact beq_eq_false_iff_ne.1 hq), d0, d1, d2, d3⟩, hB⟩
  case done =>
    rintro D ys W hD rfl ⟨⟨hne, d0, d1, d2, d3⟩, hB⟩ hK
    have m0 := (blk_cell d1 0).trans rfl
    have m1 := (blk_cell d1 1).trans rfl
    have m2 := (blk_cell d1 2).trans rfl
    have t0 := (blk_cell d2 0).trans rfl
    have f0 := blk_frozen d1 0
    have f1 := blk_frozen d1 1
    have f2 := blk_frozen d1 2
    have f3 := blk_frozen d2 0
    gi_wp2
    have k1 := blk_put (blk_put (blk_put d1 0 (.int .i64 0) rfl) 1 (.int .u64 0) rfl) 2 (.int .u64 0) rfl
    have k2 := blk_put (blk_far (blk_far (blk_far d2 (p := ⟨H + 1, 0, none⟩) (by show H + 1 + 1 ≠ H + 1; omega) (.int .i64 0)) (p := ⟨H + 1, 1, none⟩) (by show H + 1 + 1 ≠ H + 1; omega) (.int .u64 0)) (p := ⟨H + 1, 2, none⟩) (by show H + 1 + 1 ≠ H + 1; omega) (.int .u64 0)) 0 (.bool false) rfl
    have k1' := blk_far k1 (p := ⟨H + 1 + 1, 0, none⟩) (by show H + 1 ≠ H + 1 + 1; omega) (.bool false)
    have hK' := ((((KeepsOthers.setCell W ⟨H + 1, 0, none⟩ (.int .i64 0)).trans (KeepsOthers.setCell _ ⟨H + 1, 1, none⟩ (.int .u64 0))).trans (KeepsOthers.setCell _ ⟨H + 1, 2, none⟩ (.int .u64 0))).trans (KeepsOthers.setCell _ ⟨H + 1 + 1, 0, none⟩ (.bool false))).same D _ hK rfl
    have hB' := (((hB.setCell (p := ⟨H + 1, 0, none⟩) (by show H ≤ H + 1; omega) (.int .i64 0)).setCell (p := ⟨H + 1, 1, none⟩) (by show H ≤ H + 1; omega) (.int .u64 0)).setCell (p := ⟨H + 1, 2, none⟩) (by show H ≤ H + 1; omega) (.int .u64 0)).setCell (p := ⟨H + 1 + 1, 0, none⟩) (by show H ≤ H + 1 + 1; omega) (.bool false)
    clear k1 hK hB d0 d1 d2 d3 m0 m1 m2 t0 f0 f1 f2 f3
    generalize ((((W.setCell ⟨H + 1, 0, none⟩ (.int .i64 0)).setCell ⟨H + 1, 1, none⟩ (.int .u64 0)).setCell ⟨H + 1, 2, none⟩ (.int .u64 0)).setCell ⟨H + 1 + 1, 0, none⟩ (.bool false)) = W2 at k1' k2 hK' hB' ⊢
    refine ⟨by simp, .inl ⟨_, _, rfl, run_takeDeferred hK', ?_⟩⟩
    have q1 := blk_own k1' (grownBy_putObj' _ D (.deferred none)) (fun r e => by cases e; exact ⟨_, hK', rfl⟩)
    have q2 := blk_own k2 (grownBy_putObj' _ D (.deferred none)) (fun r e => by cases e; exact ⟨_, hK', rfl⟩)
    have m0 := (blk_cell q1 0).trans rfl
    have m1 := (blk_cell q1 1).trans rfl
    have m2 := (blk_cell q1 2).trans rfl
    have t0 := (blk_cell q2 0).trans rfl
    refine ⟨.tuple #[.agg #[.int .i64 0, .int .u64 0, .int .u64 0], .bool false], ?_, ⟨z38, false, .inr ⟨lastM_none l p hne, rfl, rfl⟩, rfl⟩, ?_⟩
    · simp [results, Try.results22, go_sem, m0, m1, m2, t0]
    · rw [HH.out]
      exact hB'.trans (belowK_b (w := w) (by rw [HH.out]; exact Nat.le_refl _) _ D _ _ (by rw [HH.out]; omega) hK' rfl rfl)
  case stop =>
    rintro D cc pre W hD ⟨k, hk, rfl⟩ ⟨⟨rfl, ini, last, e1, e2, e3, d1, d2⟩, hB⟩ hK
    gi_wp2
    refine ⟨by simp, .inl ⟨_, _, rfl, run_takeDeferred hK, ?_⟩⟩
    have q1 := blk_own d1 (grownBy_putObj' _ D (.deferred none)) (fun r e => by cases e; exact ⟨_, hK, rfl⟩)
    have q2 := blk_own d2 (grownBy_putObj' _ D (.deferred none)) (fun r e => by cases e; exact ⟨_, hK, rfl⟩)
    have m0 := (blk_cell q1 0).trans rfl
    have m1 := (blk_cell q1 1).trans rfl
    have m2 := (blk_cell q1 2).trans rfl
    have t0 := (blk_cell q2 0).trans rfl
    obtain ⟨k', rfl⟩ : ∃ k', k = k' + 1 := by
      cases k with
      | zero => simp [backTo] at e1
      | succ k' => exact ⟨k', rfl⟩
    rw [backTo_succ] at e1
    obtain ⟨rfl, e5⟩ := List.append_inj' e1 rfl
    obtain rfl : ((l.length : Int) - 1 - (k' : Int), l.getD (l.length - 1 - k') z38) = last := by simpa using e5
    refine ⟨.tuple #[.agg #[.int .i64 (l.getD (l.length - 1 - k') z38).f0, .int .u64 (l.getD (l.length - 1 - k') z38).f1, .int .u64 (l.getD (l.length - 1 - k') z38).f2], .bool true], ?_, ⟨l.getD (l.length - 1 - k') z38, true, .inl ⟨lastM_some l p k' hk e2 e3, rfl⟩, rfl⟩, ?_⟩
    · dsimp only at m0 m1 m2
      simp [results, Try.results22, go_sem, m0, m1, m2, t0]
    · rw [HH.out]
      exact hB.trans (belowK_b (w := w) (by rw [HH.out]; exact Nat.le_refl _) _ D _ _ (by rw [HH.out]; omega) hK rfl rfl)

theorem seen_Last.calls (A0 : Option Addr) (c0 : Nat) (l0 : List (S38)) (a1 : Int) (r1 : Int) (r2 : Int) (r3 : Int) (r4 : Bool) (w : World) (hr0 : Kd.C k38 w A0 l0.length l0) (hc0 : l0.length ≤ c0) (h : seen_Last.f l0 a1 = some (r1, r2, r3, r4)) :
    Calls Try.prog 22 #[.slice A0 l0.length c0, .int .i64 a1] w fun e w' => e = .returned (.tuple #[.agg #[.int .i64 r1, .int .u64 r2, .int .u64 r3], .bool r4]) ∧ Below w.heap.size w w' := by
  refine ((callsIn_wide (n := 3)).1 (last22_in Fence.wide 3 trivial trivial trivial rfl (Nat.le_refl _) A0 c0 l0 a1 w hr0)).mono ?_
  rintro e w' ⟨⟨m, b, hm, rfl⟩, hb⟩
  refine ⟨?_, hb⟩
  unfold seen_Last.f at h
  rcases hm with ⟨h1, rfl⟩ | ⟨h1, rfl, rfl⟩
  · rw [h1] at h
    cases h
    rfl
  · rw [h1] at h
    cases h
    rfl

end Go.Proofs.Ytokhckbjdpgkfaa.P
