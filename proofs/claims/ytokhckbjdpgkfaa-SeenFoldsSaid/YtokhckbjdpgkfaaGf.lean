/- seen.Fold: what the call answers of any two rows and any offset. -/
import Derived.Test.YtokhckbjdpgkfaaGi
import Derived.Test.YtokhckbjdpgkfaaGd0
import Derived.Test.YtokhckbjdpgkfaaGs
import Derived.Test.YtokhckbjdpgkfaaCc
namespace Go.Proofs.Ytokhckbjdpgkfaa.P
set_option linter.unusedVariables false
set_option linter.unusedSimpArgs false
open Go.RowKit Go.Proofs.YtokhckbjdpgkfaaW.PrintWords Go.Proofs.YtokhckbjdpgkfaaW.PrintLast Go.Proofs.YtokhckbjdpgkfaaW.PrintMore

/-! two rows behind one another -/
theorem concat_eq (l0 l1 : List S38) (h : l0.length + l1.length ≤ 5864062014000) : api_Mark_52.f 10 [l0, l1] = some (l0 ++ l1) := by
  have r0 : rd_L6 [l0, l1] 0 = l0 := rfl
  have r1 : rd_L6 [l0, l1] 1 = l1 := rfl
  have w0 : wrap64 (0 + (l0.length : Int)) = (l0.length : Int) := by unfold wrap64; omega
  have w1 : wrap64 ((l0.length : Int) + (l1.length : Int)) = ((l0.length + l1.length : Nat) : Int) := by unfold wrap64; omega
  have i1 : wrap64 (0 + 1) = 1 := by unfold wrap64; omega
  have i2 : wrap64 (1 + 1) = 2 := by unfold wrap64; omega
  have n0 : ¬ ((l0.length : Int) < 0) := by omega
  have n1 : ¬ (((l0.length + l1.length : Nat) : Int) < 0) := by omega
  have g : api_Mark_63.f ([] : List S38) ((l0.length + l1.length : Nat) : Int) = some [] := by
    unfold api_Mark_63.f
    rw [if_pos (by omega)]
  have ll : (([l0, l1] : List (List S38)).length : Int) = 2 := rfl
  have c0 : ([] : List S38).length + l0.length < 5864062014805 := by simp; omega
  have c1 : ([] ++ l0 : List S38).length + l1.length < 5864062014805 := by simp; omega
  show api_Mark_52.l0 (7 + 1 + 1 + 1) [l0, l1] 0 [l0, l1] (([l0, l1] : List (List S38)).length : Int) 0 = _
  rw [ll]
  unfold api_Mark_52.l0
  rw [if_pos (by decide), if_pos (by decide), if_pos (by rw [ll]; decide), r0, w0, if_neg n0, i1]
  unfold api_Mark_52.l0
  rw [if_pos (by decide), if_pos (by decide), if_pos (by rw [ll]; decide), r1, w1, if_neg n1, i2]
  unfold api_Mark_52.l0
  rw [if_neg (by decide), g, Option.bind_some, ll]
  show api_Mark_52.l1 (4 + 1 + 1 + 1) [] [l0, l1] 2 0 = _
  unfold api_Mark_52.l1
  rw [if_pos (by decide), if_pos (by decide), if_pos (by rw [ll]; decide), r0, if_pos c0, i1]
  unfold api_Mark_52.l1
  rw [if_pos (by decide), if_pos (by decide), if_pos (by rw [ll]; decide), r1, if_pos c1, i2]
  unfold api_Mark_52.l1
  rw [if_neg (by decide)]
  simp
/-- A row of two rows, made at this world. -/
theorem two_rows {w : World} {A0 A1 : Option Addr} {c0 c1 : Nat} {l0 l1 : List S38} (h0 : Kd.C k38 w A0 l0.length l0) (hc0 : l0.length ≤ c0) (h1 : Kd.C k38 w A1 l1.length l1) (hc1 : l1.length ≤ c1) :
    Kd.C (Kd.slice 38 k38) (w.alloc (.cells #[.slice A0 l0.length c0, .slice A1 l1.length c1] 25)) (some ⟨w.heap.size, 0, none⟩) [l0, l1].length [l0, l1] := by
  have hk := blk_new w (.cells #[.slice A0 l0.length c0, .slice A1 l1.length c1] 25)
  refine ⟨rfl, by simp, fun _ => ⟨_, rfl, fun j p hj => ?_⟩⟩
  match j, hj with
  | 0, hj =>
    cases hj
    refine ⟨[.slice A0 l0.length c0], rfl, ⟨A0, c0, rfl, hc0, Kd.C_alloc h0 _⟩, fun i u hu => ?_⟩
    match i, hu with
    | 0, hu => cases hu; exact (blk_cell hk 0).trans rfl
  | 1, hj =>
    cases hj
    refine ⟨[.slice A1 l1.length c1], rfl, ⟨A1, c1, rfl, hc1, Kd.C_alloc h1 _⟩, fun i u hu => ?_⟩
    match i, hu with
    | 0, hu => cases hu; exact (blk_cell hk 1).trans rfl

/-! the fold, in plain words -/
theorem fold_len (a : Int) : ∀ (l out : List S38), (l.foldl (foldOne a) out).length ≤ out.length + l.length
  | [], out => Nat.le_refl _
  | m :: r, out => by
    have h := fold_len a r (foldOne a out m)
    have h2 : (foldOne a out m).length ≤ out.length + 1 := by
      unfold foldOne
      split
      · omega
      · have := List.length_filter_le (fun x : S38 => !(x.f0 == m.f0)) out
        simp
        omega
    show (List.foldl (foldOne a) (foldOne a out m) r).length ≤ _
    simp only [List.length_cons]
    omega
theorem fold_apart (a : Int) : ∀ (l out : List S38), Apart1 out → Apart1 (l.foldl (foldOne a) out)
  | [], out, h => h
  | m :: r, out, h => by
    show Apart1 (List.foldl (foldOne a) (foldOne a out m) r)
    refine fold_apart a r _ ?_
    unfold foldOne
    split
    · exact h
    · refine List.pairwise_append.2 ⟨h.filter _, List.pairwise_singleton _ _, fun x hx y hy => ?_⟩
      rw [List.mem_singleton.1 hy]
      have := (List.mem_filter.1 hx).2
      simpa using this
theorem fold_step (a : Int) (l : List S38) (j : Nat) (hj : j < l.length) : (l.take (j + 1)).foldl (foldOne a) [] = foldOne a ((l.take j).foldl (foldOne a) []) (rd_T38 l (j : Int)) := by
  rw [List.take_succ_eq_append_getElem hj, List.foldl_append]
  unfold rd_T38
  rw [Int.toNat_natCast, List.getD_eq_getElem?_getD, List.getElem?_eq_getElem hj]
  rfl

theorem cell_setCells_far' {W : World} {a : Addr} {u : Value} (g o : Nat) (vs : List Value) (hne : a.block ≠ g) (h : W.cell? a = some u) : (W.setCells g o vs).cell? a = some u := by
  unfold World.cell? at h ⊢
  rw [setCells_far vs o a.block hne]
  exact h

set_option maxRecDepth 100000 in
set_option maxHeartbeats 8000000 in
theorem fold29 (A0 : Option Addr) (c0 : Nat) (l0 : List S38) (A1 : Option Addr) (c1 : Nat) (l1 : List S38) (a2 : Int) (w : World) (hr0 : Kd.C k38 w A0 l0.length l0) (hc0 : l0.length ≤ c0) (hr1 : Kd.C k38 w A1 l1.length l1) (hc1 : l1.length ≤ c1) (hlim : l0.length + l1.length ≤ 5864062014000) :
    Calls Try.prog 29 #[.slice A0 l0.length c0, .slice A1 l1.length c1, .int .u64 a2] w fun e w' => ∃ v0_ : Value, e = .returned v0_ ∧ Kd.R k38 38 w' w.heap.size (fun _ => True) v0_ (sortBy ((l0 ++ l1).foldl (foldOne a2) [])) ∧ Below w.heap.size w w' := by
  have hu38 := Try.underlying38
  have hu51 := Try.underlying51
  have HTW := Aside0.mk (two_rows hr0 hc0 hr1 hc1)
  have HCC := Aside0.mk (concat_eq l0 l1 hlim)
  have LM : Aside0 ((l0 ++ l1).length ≤ 5864062014000) := ⟨by rw [List.length_append]; exact hlim⟩
  have HB := Aside0.mk (Below.refl w.heap.size w)
  clear hr0 hc0 hr1 hc1 hlim
  obtain ⟨all, hall⟩ : ∃ all, l0 ++ l1 = all := ⟨_, rfl⟩
  rw [hall] at HCC LM ⊢
  clear hall
  go_enter Try.func29, Try.ntmps29
  go_wp2_with (go_at_call 52; refine (api_Mark_52.calls 10 _ _ [l0, l1] all _ HTW.out (Nat.le_refl _) HCC.out).mono ?_; rintro e w1 ⟨v13, rfl, ho, hb⟩; have HA := Aside0.mk (Kd.R_lower ho (below_size (below_alloc HB.out (.cells #[.slice A0 l0.length c0, .slice A1 l1.length c1] 25)))); have HB1 := Aside0.mk (below_step (below_alloc HB.out _) hb); clear ho hb HB HTW HCC; have HB := HB1; clear HB1; obtain ⟨A13, c13, rfl⟩ := Kd.R_slice HA.out)
  go_loopg [7, 15] all.length (fun gg v7 v15 wr => ∃ (j : Nat) (xs : List S38), v15 = .int .i64 j ∧ j ≤ all.length ∧ all.length - j ≤ gg ∧ Aside0 (Kd.R k38 38 wr w.heap.size (fun k_ => some k_ ≠ (v7 : Value).ownBlock) (.slice A13 all.length c13) all) ∧ Aside0 (Kd.R k38 38 wr w.heap.size (fun k_ => some k_ ≠ (Value.slice A13 all.length c13).ownBlock) v7 xs) ∧ Aside0 (Below w.heap.size w wr) ∧ Aside0 (xs = (all.take j).foldl (foldOne a2) []))
  case atStart => exact ⟨0, [], rfl, Nat.zero_le _, by omega, ⟨Kd.R_mono HA.out (fun _ _ => by simp [Value.ownBlock])⟩, ⟨Kd.R_nil _ _ _ _ _⟩, HB, ⟨rfl⟩⟩
  case round =>
    clear HA HB
    obtain ⟨j, xs, rfl, hj, hgg, HA, HO, HB, HX⟩ := hrel
    have HXL : Aside0 (xs.length ≤ j) := ⟨by
      rw [HX.out]
      have := fold_len a2 (all.take j) []
      simp only [List.length_nil, List.length_take] at this
      omega⟩
    by_cases hlt : j < all.length
    · have hltz : decide ((j : Int) < (all.length : Int)) = true := decide_eq_true (by omega)
      have hlti : (j : Int) < (all.length : Int) := by omega
      obtain ⟨ad, rfl, hx0, hx1, hx2⟩ := at_T38 (Kd.R_reads' HA.out).2.2 (j : Int) (by omega) hlti
      simp only [Int.toNat_natCast] at hx0 hx1 hx2
      have HST := Aside0.mk (fold_step a2 all j hlt)
      obtain ⟨x, hx⟩ : ∃ x, x = rd_T38 all (j : Int) := ⟨_, rfl⟩
      rw [← hx] at hx0 hx1 hx2 HST
      clear hx
      rw [← HX.out] at HST
      go_upto_region 5 with ((with_reducible refine gate_dst (N := 9) rfl ?_); (try (refine gate_guard (by rfl) ?_; dsimp only)); refine box_event ?hg (N := 9) ?hd (cs := #[.int .i64 0, .int .u64 0, .int .u64 0]) (t := 38) ?hr ?_; (case hd => rfl); (case hg => rfl); (case hr => first | (go_simp; done) | (go_simp; rfl)); intro gb hg w7 hbox hb; have HBX := Aside0.mk hb; have BK := Aside0.mk hbox; have GE : Aside0 (gb = wr.heap.size) := ⟨hg⟩; clear hb hbox hg; have hcz0 : w7.cell? ⟨gb, 0, none⟩ = some (.int .i64 0) := (blk_cell BK.out 0).trans rfl; have hcz1 : w7.cell? ⟨gb, 1, none⟩ = some (.int .u64 0) := (blk_cell BK.out 1).trans rfl; have hcz2 : w7.cell? ⟨gb, 2, none⟩ = some (.int .u64 0) := (blk_cell BK.out 2).trans rfl; have hfz0 := blk_frozen BK.out 0; have hfz1 := blk_frozen BK.out 1; have hfz2 := blk_frozen BK.out 2)
      have k8 := blk_put (blk_put (blk_put BK.out 0 (.int .i64 x.f0) rfl) 1 (.int .u64 x.f1) rfl) 2 (.int .u64 x.f2) rfl
      have hb8 : Below wr.heap.size wr (((w7.setCell ⟨gb, 0, none⟩ (.int .i64 x.f0)).setCell ⟨gb, 1, none⟩ (.int .u64 x.f1)).setCell ⟨gb, 2, none⟩ (.int .u64 x.f2)) := below_set (below_set (below_set HBX.out (by rw [GE.out]; exact Nat.le_refl _)) (by rw [GE.out]; exact Nat.le_refl _)) (by rw [GE.out]; exact Nat.le_refl _)
      have K8 := Aside0.mk k8
      have HB8 := Aside0.mk hb8
      clear hcz0 hcz1 hcz2 hfz0 hfz1 hfz2 hx0 hx1 hx2 k8 hb8 HBX BK
      generalize (((w7.setCell ⟨gb, 0, none⟩ (.int .i64 x.f0)).setCell ⟨gb, 1, none⟩ (.int .u64 x.f1)).setCell ⟨gb, 2, none⟩ (.int .u64 x.f2)) = w8 at K8 HB8 ⊢
      have HA8 := Aside0.mk (Kd.R_below HA.out HB8.out)
      have HO8 := Aside0.mk (Kd.R_below HO.out HB8.out)
      have HG7 : Aside0 (∀ k, u7.ownBlock = some k → k ≠ gb) := ⟨fun k hk e => by have := Kd.R_lt HO.out k hk; rw [e, GE.out] at this; omega⟩
      have HG13 : Aside0 (∀ k, (Value.slice (some ad) all.length c13).ownBlock = some k → k < w8.heap.size) := ⟨Kd.R_lt HA8.out⟩
      have HB9 := Aside0.mk (below_step HB.out HB8.out)
      clear HA HO HB HB8
      have hc0 := (blk_cell K8.out 0).trans rfl
      have hc1 := (blk_cell K8.out 1).trans rfl
      have hc2 := (blk_cell K8.out 2).trans rfl
      have hw : wrap64 ((j : Int) + 1) = ((j + 1 : Nat) : Int) := by
        have := LM.out
        unfold wrap64
        omega
      by_cases hq : a2 ≤ x.f2
      · have hqz : decide (a2 ≤ x.f2) = true := decide_eq_true hq
        go_wp2
        go_roundg (all.length - (j + 1))
        case measure => omega
        case rel => exact ⟨j + 1, xs, by rw [hw], by omega, by omega, HA8, HO8, HB9, ⟨by rw [HST.out]; unfold foldOne; rw [if_pos hq]⟩⟩
      · have hqz : decide (a2 ≤ x.f2) = false := decide_eq_false hq
        have hw2 := Aside0.mk hw
        have HQ := Aside0.mk hq
        clear hw hq
        go_wp2_with (first | (go_at_call 50; refine (delete50 53 #[.pointer (some ⟨gb, 0, none⟩)] (fun m => m.f0 == x.f0) eg53 (fun W => W.cell? ⟨gb, 0, none⟩ = some (.int .i64 x.f0)) (fun W y hW => pred53 W gb x.f0 hW W y (Below.refl _ _)) (fun W W' hW hb => (hb.cell (World.block_lt_of_cell? W _ hW)).trans hW) w.heap.size _ u7 xs w w8 HO8.out ?hI2 ?hI HB9.out (below_size HB9.out)).mono ?_; (case hI2 => exact fun W g o vs hg hW => cell_setCells_far' g o vs (fun e => HG7.out g hg e.symm) hW); (case hI => exact (blk_cell K8.out 0).trans rfl); rintro e w9 ⟨v', rfl, ho, hb, hk, hv⟩; have HO9 := Aside0.mk ho; have HB10 := Aside0.mk hb; have HK := Aside0.mk hk; have HV := Aside0.mk hv; clear ho hb hk hv; have K9 : Aside0 (w9.heap[gb]? = some (.cells #[.int .i64 x.f0, .int .u64 x.f1, .int .u64 x.f2] 38 (0, 0))) := ⟨(HK.out.2 gb (Array.getElem?_eq_some_iff.1 K8.out).1 (fun e => HG7.out gb e rfl)).trans K8.out⟩; have HA9 : Aside0 (Kd.R k38 38 w9 w.heap.size (fun k_ => True ∧ some k_ ≠ v'.ownBlock) (.slice (some ad) all.length c13) all) := ⟨Kd.R_mono (Kd.R_move (Kd.R_bound HA8.out) (fun k hk => HK.out.2 k hk.2.2.1 (fun e => hk.1 e.symm))) (fun k hk => ⟨trivial, by rw [HV.out]; exact hk.1⟩)⟩; clear hc0 hc1 hc2; have hc0 := (blk_cell K9.out 0).trans rfl; have hc1 := (blk_cell K9.out 1).trans rfl; have hc2 := (blk_cell K9.out 2).trans rfl) | ((with_reducible refine gate_builtin (b := .append) (xs := #[.tmp 26, .tmp 28]) rfl ?_); (try (refine gate_guard (by rfl) ?_; dsimp only)); at_builtin; refine Kd.R_append k38 (w0 := w) w.heap.size rfl (.tmp 26) (.tmp 28) 25 38 (.agg #[(.int .i64 0), (.int .u64 0), (.int .u64 0)]) 24 rfl Try.underlying25 info38 rfl (by decide) (by omega) v' (xs.filter fun y => !(y.f0 == x.f0)) x [.int .i64 x.f0, .int .u64 x.f1, .int .u64 x.f2] (fun k_ => some k_ ≠ (Value.slice (some ad) all.length c13).ownBlock) (fun _ => False) rfl rfl (k38_mkM _ _ _ x) (fun _ hk => hk.elim) ?aF HO9.out HB10.out (below_size HB10.out) ?aL ?_; (case aF => exact Kd.fresh' (Kd.R_lt HA9.out)); (case aL => have e1_ := LM.out; have e2_ := HXL.out; have e3_ := List.length_filter_le (fun y : S38 => !(y.f0 == x.f0)) xs; omega); intro v1 w10 ho hb hg hat; have HO10 := Aside0.mk ho; have HB11 := Aside0.mk hb; have HA10 := Aside0.mk (Kd.R_after HA9.out hg hat); clear ho hb hg hat))
        go_roundg (all.length - (j + 1))
        case measure => omega
        case rel => exact ⟨j + 1, _, by rw [hw2.out], by omega, by omega, ⟨Kd.R_mono HA10.out (fun _ hk => hk.2)⟩, HO10, HB11, ⟨by rw [HST.out]; unfold foldOne; rw [if_neg (show ¬ x.f2 ≥ a2 by have h_ := HQ.out; omega)]⟩⟩
    · have hltz : decide ((j : Int) < (all.length : Int)) = false := decide_eq_false (by omega)
      have HXE : Aside0 (xs = all.foldl (foldOne a2) []) := ⟨by
        rw [HX.out, List.take_of_length_le (by omega)]⟩
      have HAP : Aside0 (Apart1 xs) := ⟨by rw [HXE.out]; exact fold_apart a2 all [] List.Pairwise.nil⟩
      by_cases hp : 0 < xs.length
      · obtain ⟨g, cap, rfl, _, _, _⟩ := Kd.R_form HO.out hp
        go_wp2_with (go_at_call 54; refine (sort54 _ HO.out (by have := LM.out; have := HXL.out; omega) HAP.out).mono ?_; rintro e w9 ⟨rfl, ho, hb⟩; have HO9 := Aside0.mk ho; have HB9 := Aside0.mk (HB.out.trans hb); clear ho hb)
        go_ret
        refine ⟨_, rfl, ?_, HB9.out⟩
        rw [← HXE.out]
        exact Kd.R_mono HO9.out (fun _ _ => trivial)
      · obtain rfl : xs = [] := List.eq_nil_of_length_eq_zero (by omega)
        obtain ⟨A, c, rfl⟩ := Kd.R_slice HO.out
        go_wp2_with (go_at_call 54; refine (sort54_none _ _ _).mono ?_; rintro e w9 ⟨rfl, rfl⟩)
        go_ret
        refine ⟨_, rfl, ?_, HB.out⟩
        rw [← HXE.out]
        exact Kd.R_mono HO.out (fun _ _ => trivial)

theorem seen_Fold.calls (A0 : Option Addr) (c0 : Nat) (l0 : List (S38)) (A1 : Option Addr) (c1 : Nat) (l1 : List (S38)) (a2 : Int) (r : List (S38)) (w : World) (hr0 : Kd.C k38 w A0 l0.length l0) (hc0 : l0.length ≤ c0) (hr1 : Kd.C k38 w A1 l1.length l1) (hc1 : l1.length ≤ c1) (h : seen_Fold.f l0 l1 a2 = some r) :
    Calls Try.prog 29 #[.slice A0 l0.length c0, .slice A1 l1.length c1, .int .u64 a2] w fun e w' => ∃ v0_ : Value, e = .returned (v0_) ∧ Kd.R k38 38 w' w.heap.size (fun _ => True) v0_ r ∧ Below w.heap.size w w' := by
  unfold seen_Fold.f at h
  split at h
  · rename_i hl
    obtain rfl := Option.some.inj h
    exact fold29 A0 c0 l0 A1 c1 l1 a2 w hr0 hc0 hr1 hc1 hl
  · cases h

end Go.Proofs.Ytokhckbjdpgkfaa.P
