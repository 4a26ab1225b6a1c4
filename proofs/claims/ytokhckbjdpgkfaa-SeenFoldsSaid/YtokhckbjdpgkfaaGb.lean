/- seen.goes: what the call answers of any row and any marks that go into it. -/
import Derived.Test.YtokhckbjdpgkfaaGj
import Derived.Test.YtokhckbjdpgkfaaGl
import Derived.ArgAppend
import Derived.BigQuiet
import Derived.RegionTactic
import Derived.BigRegion
import Derived.Deep.RegionLaw
import Derived.Outline
namespace Go.Proofs.Ytokhckbjdpgkfaa.P
set_option linter.unusedVariables false
set_option linter.unusedSimpArgs false
open Go.RowKit Go.Proofs.YtokhckbjdpgkfaaW.PrintWords Go.Proofs.YtokhckbjdpgkfaaW.PrintLast Go.Proofs.YtokhckbjdpgkfaaW.PrintMore

theorem at59 (A : Option Addr) (c : Nat) (l : List S38) (q : Int) (w : World) (hr : Kd.C k38 w A l.length l) :
    Calls Try.prog 59 #[.slice A l.length c, .int .i64 q] w fun e w' => e = .returned (.int .i64 (idxOf (fun m => m.f0 == q) l)) ∧ Below w.heap.size w w' := by
  have HR := Aside0.mk hr
  clear hr
  have hcell : (w.alloc (.cells #[.int .i64 q] 3)).cell? ⟨w.heap.size, 0, none⟩ = some (.int .i64 q) := by rw [World.cell?_alloc_at _ _ _ _ rfl]; rfl
  have HCELL := Aside0.mk hcell
  clear hcell
  go_enter Try.func59, Try.ntmps59
  go_wp2_with (go_at_call 42; refine (first42 67 #[.pointer (some ⟨w.heap.size, 0, none⟩)] (fun m => m.f0 == q) eg67 _ _ l _ (pred67 _ _ q HCELL.out) (Kd.C_alloc HR.out _)).mono ?_; rintro e w' ⟨rfl, hb⟩)
  go_ret
  exact ⟨rfl, below_then (below_alloc (Below.refl _ _) _) (by simp) hb⟩

def goesRes (l more : List S38) : List S38 × Int := match goesAll l more with
  | some r => (r, 0)
  | none => ([], 3)
theorem goesRes_step (l : List S38) (more : List S38) (j : Nat) (hj : j < more.length) : goesRes l (more.drop j) = match goesOne l (more.getD j z38) with
    | some l' => goesRes l' (more.drop (j + 1))
    | none => ([], 3) := by
  rw [List.drop_eq_getElem_cons hj]
  unfold goesRes
  rw [goesAll]
  have : more.getD j z38 = more[j] := by simp [List.getD_eq_getElem?_getD, hj]
  rw [this]
  cases goesOne l more[j] <;> rfl
theorem goesRes_end (l : List S38) (more : List S38) : goesRes l (more.drop more.length) = (l, 0) := by
  rw [List.drop_length]; rfl

def RowBack (w : World) (r1 : List S38) (r2 : Int) (e : Ending) (w' : World) : Prop := ∃ v0_ : Value, e = .returned (.tuple #[v0_, .int .i64 r2]) ∧ Kd.R k38 38 w' w.heap.size (fun _ => True) v0_ r1 ∧ Below w.heap.size w w'

set_option maxHeartbeats 2000000 in
set_option maxRecDepth 100000 in
theorem goes36 (A0 : Option Addr) (c0 : Nat) (l0 : List S38) (A1 : Option Addr) (c1 : Nat) (l1 : List S38) (w : World) (hr0 : Kd.C k38 w A0 l0.length l0) (hr1 : Kd.C k38 w A1 l1.length l1) (hlim : l0.length ≤ 5864062014000) :
    Calls Try.prog 36 #[.slice A0 l0.length c0, .slice A1 l1.length c1] w (RowBack w (goesRes l0 l1).1 (goesRes l0 l1).2) := by
  have hu38 := Try.underlying38
  have mixed : Try.prog.follows .mixedOrders = true := by kernel_rfl
  have hm1 := hr1.2.1
  have HR0 := Aside0.mk hr0
  have HR1 := Aside0.mk hr1
  have LM := Aside0.mk hlim
  clear hr0 hr1 hlim
  go_enter Try.func36, Try.ntmps36
  go_wp2_with (go_at_call 40; refine (clone40 _ _ l0 _ HR0.out (by have := LM.out; omega)).mono ?_; rintro e w1 ⟨v, rfl, ho, hb⟩; have HO := Aside0.mk ho; have HB := Aside0.mk hb; clear ho hb)
  go_loopg [0, 13] l1.length (fun gg s0 s13 wr => ∃ (j : Nat) (cur : List S38), s13 = .int .i64 j ∧ j ≤ l1.length ∧ l1.length - j ≤ gg ∧ Aside0 (Kd.R k38 38 wr w.heap.size (fun _ => True) s0 cur) ∧ Aside0 (Below w.heap.size w wr) ∧ Aside0 (goesRes l0 l1 = goesRes cur (l1.drop j)) ∧ Aside0 (cur.length ≤ 5864062014000))
  case atStart => exact ⟨0, l0, rfl, Nat.zero_le _, by omega, HO, HB, ⟨rfl⟩, LM⟩
  case round =>
    clear HO HB
    obtain ⟨j, cur, rfl, hj, hgg, HO, HB, HG, HL⟩ := hrel
    obtain ⟨A, c, rfl⟩ := Kd.R_slice HO.out
    by_cases hlt : j < l1.length
    · have hltz : (j : Int) < (l1.length : Int) := by omega
      obtain ⟨ad, rfl, hx0, hx1, hx2⟩ := at_T38 HR1.out (j : Int) (by omega) hltz
      replace hx0 := (HB.out.cell (World.block_lt_of_cell? w _ hx0)).trans hx0
      replace hx1 := (HB.out.cell (World.block_lt_of_cell? w _ hx1)).trans hx1
      replace hx2 := (HB.out.cell (World.block_lt_of_cell? w _ hx2)).trans hx2
      simp only [Int.toNat_natCast] at hx0 hx1 hx2
      obtain ⟨x, hx⟩ : ∃ x, x = rd_T38 l1 (j : Int) := ⟨_, rfl⟩
      rw [← hx] at hx0 hx1 hx2
      have HX : Aside0 (l1.getD j z38 = x) := ⟨by rw [hx]; unfold rd_T38; rw [Int.toNat_natCast]⟩
      clear hx
      have hbox := blk_new wr (.cells #[.int .i64 x.f0, .int .u64 x.f1, .int .u64 x.f2] 38)
      have HBX := Aside0.mk hbox
      clear hbox
      cases hfi : cur.findIdx? (fun m => m.f0 == x.f0) with
      | some i =>
        have hidx : Aside0 (idxOf (fun m : S38 => m.f0 == x.f0) cur = (i : Int)) := ⟨by unfold idxOf; rw [hfi]⟩
        have HFI := Aside0.mk hfi
        have hil : i < cur.length := (List.findIdx?_eq_some_iff_getElem.1 hfi).1
        clear hfi
        obtain ⟨g, cap, he, gb, gl, _⟩ := Kd.R_form HO.out (by omega)
        injection he with e1 _ e3
        subst e1; subst e3
        have hnc : cur.length ≤ c := (Kd.R_reads' HO.out).2.1
        go_wp2_with (go_at_call 59; refine (at59 _ _ cur x.f0 _ (Kd.C_alloc (Kd.R_reads' HO.out).2.2 _)).mono ?_; rw [hidx.out]; rintro e w2 ⟨rfl, hb⟩; have HB2 := Aside0.mk (below_then (below_alloc HB.out (.cells #[.int .i64 x.f0, .int .u64 x.f1, .int .u64 x.f2] 38)) (by have := HB.out.size; simp; omega) hb); have HBX2 := Aside0.mk (blk_below HBX.out hb); have HO2 := Aside0.mk (Kd.R_below (Kd.R_alloc HO.out (.cells #[.int .i64 x.f0, .int .u64 x.f1, .int .u64 x.f2] 38)) hb); clear hb; have hm0 := (blk_cell HBX2.out 0).trans rfl; have hm1' := (blk_cell HBX2.out 1).trans rfl; have hm2 := (blk_cell HBX2.out 2).trans rfl; obtain ⟨hy0, hy1, hy2, hf0, hf1, hf2⟩ := cells38 HO2.out i hil; obtain ⟨y, hy⟩ : ∃ y, y = cur.getD i z38 := ⟨_, rfl⟩; rw [← hy] at hy0 hy1 hy2; have HY := Aside0.mk hy; clear hy)
        have HSET := Aside0.mk (fun n => set38 (Kd.R_drewN HO2.out n) i hil x)
        have HSB := Aside0.mk (fun n => setCells_below (pw_below_drewN HB2.out n) g (i * 3) (cells3 x) gb)
        have hib : (i : Int) < (cur.length : Int) := by omega
        have HGO := Aside0.mk (goesRes_step cur l1 j hlt)
        have HG1 : Aside0 (goesOne cur x = if (cur.getD i z38).f1 < x.f1 then some (cur.set i x) else some cur) := ⟨by unfold goesOne; rw [HFI.out]⟩
        cases hq : decide (y.f1 < x.f1) with
        | true =>
          go_quiet (fail)
          go_wp2
          go_roundg (l1.length - (j + 1))
          case measure => omega
          case rel => exact ⟨j + 1, cur.set i x, by go_num, by omega, by omega, ⟨(HSET.out nq).1⟩, ⟨HSB.out nq⟩, ⟨by rw [HG.out, HGO.out, HX.out, HG1.out, if_pos (by rw [← HY.out]; exact of_decide_eq_true hq)]⟩, ⟨by rw [List.length_set]; exact HL.out⟩⟩
        | false =>
          go_quiet (fail)
          go_wp2
          go_roundg (l1.length - (j + 1))
          case measure => omega
          case rel => exact ⟨j + 1, cur, by go_num, by omega, by omega, ⟨Kd.R_drewN HO2.out _⟩, ⟨pw_below_drewN HB2.out _⟩, ⟨by rw [HG.out, HGO.out, HX.out, HG1.out, if_neg (by rw [← HY.out]; exact of_decide_eq_false hq)]⟩, HL⟩
      | none =>
        have hidx : Aside0 (idxOf (fun m : S38 => m.f0 == x.f0) cur = -1) := ⟨by unfold idxOf; rw [hfi]⟩
        have HFI := Aside0.mk hfi
        clear hfi
        have HGO := Aside0.mk (goesRes_step cur l1 j hlt)
        have HCR := Aside0.mk (Kd.R_reads' HO.out).2.2
        by_cases h6 : 6 ≤ cur.length
        · have h6' : decide ((6 : Int) ≤ (cur.length : Int)) = true := decide_eq_true (by omega)
          have HG1 : Aside0 (goesOne cur x = none) := ⟨by unfold goesOne; rw [HFI.out]; show (if cur.length ≥ 6 then none else _) = none; rw [if_pos h6]⟩
          go_wp2_with (go_at_call 59; refine (at59 _ _ cur x.f0 _ (Kd.C_alloc HCR.out _)).mono ?_; rw [hidx.out]; rintro e w2 ⟨rfl, hb⟩; have HB2 := Aside0.mk (below_then (below_alloc HB.out (.cells #[.int .i64 x.f0, .int .u64 x.f1, .int .u64 x.f2] 38)) (by have := HB.out.size; simp; omega) hb); clear hb)
          go_quiet (fail)
          go_wp2
          refine bodyPost_ret (v := .tuple #[.slice none 0 0, .int .i64 3]) (by simp [results, Try.results36, go_sem]) rfl ?_
          rw [HG.out, HGO.out, HX.out, HG1.out]
          exact ⟨_, rfl, Kd.R_nil _ _ _ _ _, pw_below_drewN HB2.out _⟩
        · have h6' : decide ((6 : Int) ≤ (cur.length : Int)) = false := decide_eq_false (by omega)
          have HG1 : Aside0 (goesOne cur x = some (cur.take (placeOf cur x) ++ ([x] ++ cur.drop (placeOf cur x)))) := ⟨by unfold goesOne; rw [HFI.out]; show (if cur.length ≥ 6 then none else _) = _; rw [if_neg h6]⟩
          have HPL : placeOf cur x ≤ cur.length := by
            unfold placeOf
            cases h : cur.findIdx? (fun y => decide (y.f0 > x.f0)) with
            | none => exact Nat.le_refl _
            | some i => exact Nat.le_of_lt (List.findIdx?_eq_some_iff_getElem.1 h).1
          cases hq : cur.findIdx? (fun y => decide (y.f0 > x.f0)) with
          | some i =>
            have HQ : Aside0 (idxOf (fun m : S38 => decide (m.f0 > x.f0)) cur = (i : Int)) := ⟨by unfold idxOf; rw [hq]⟩
            have HP : Aside0 (placeOf cur x = i) := ⟨by unfold placeOf; rw [hq]⟩
            have hil : i < cur.length := (List.findIdx?_eq_some_iff_getElem.1 hq).1
            clear hq
            obtain ⟨g, cap, he, gb, gl, _⟩ := Kd.R_form HO.out (by omega)
            injection he with e1 _ e3
            subst e1; subst e3
            have hnc : cur.length ≤ c := (Kd.R_reads' HO.out).2.1
            go_wp2_with (go_at_call 59; refine (at59 _ _ cur x.f0 _ (Kd.C_alloc HCR.out _)).mono ?_; rw [hidx.out]; rintro e w2 ⟨rfl, hb⟩; have HB2 := Aside0.mk (below_then (below_alloc HB.out (.cells #[.int .i64 x.f0, .int .u64 x.f1, .int .u64 x.f2] 38)) (by have := HB.out.size; simp; omega) hb); have HBX2 := Aside0.mk (blk_below HBX.out hb); have HO2 := Aside0.mk (Kd.R_below (Kd.R_alloc HO.out (.cells #[.int .i64 x.f0, .int .u64 x.f1, .int .u64 x.f2] 38)) hb); clear hb)
            go_quiet (fail)
            go_wp2_with (go_at_call 42; refine (first42 60 #[.pointer (some ⟨wr.heap.size, 0, none⟩)] (fun m => decide (m.f0 > x.f0)) eg60 _ _ cur _ (pred60 _ _ x.f0 ((blk_cell (blk_drewN HBX2.out nq) 0).trans rfl)) (Kd.R_reads' (Kd.R_drewN HO2.out nq)).2.2).mono ?_; rw [HQ.out]; rintro e w3 ⟨rfl, hb⟩; have HB3 := Aside0.mk (below_then (pw_below_drewN HB2.out nq) (by have := HB2.out.size; simp; omega) hb); have HBX3 := Aside0.mk (blk_below (blk_drewN HBX2.out nq) hb); have HO3 := Aside0.mk (Kd.R_below (Kd.R_drewN HO2.out nq) hb); clear hb)
            have hm0 := (blk_cell HBX3.out 0).trans rfl
            have hm1' := (blk_cell HBX3.out 1).trans rfl
            have hm2 := (blk_cell HBX3.out 2).trans rfl
            obtain ⟨g1, cap1, w4, v2, w5, hr1, hr2, hR5, hB5⟩ := ins_some x HO3.out hil (by have := HL.out; omega)
            have HR5 := Aside0.mk (hR5 w.heap.size (by have := HB3.out.size; omega))
            have HB5 := Aside0.mk (hB5 _ _ HB3.out HB3.out.size)
            clear hR5 hB5
            have hic : i ≤ c := by omega
            have hil1 : i ≤ cur.length := by omega
            have hil2 : ¬ c = i := by omega
            go_region_law (first | (refine step_append_run rfl (.tmp 33) (.tmp 36) rfl rfl rfl rfl hr1 ?_) | (refine step_append_run rfl (.tmp 31) (.tmp 37) rfl rfl rfl rfl hr2 ?_))
            go_wp2
            go_roundg (l1.length - (j + 1))
            case measure => omega
            case rel => exact ⟨j + 1, _, by go_num, by omega, by omega, HR5, HB5, ⟨by rw [HG.out, HGO.out, HX.out, HG1.out, HP.out]⟩, ⟨by simp; have := HL.out; omega⟩⟩
          | none =>
            have HQ : Aside0 (idxOf (fun m : S38 => decide (m.f0 > x.f0)) cur = -1) := ⟨by unfold idxOf; rw [hq]⟩
            have HP : Aside0 (cur.take (placeOf cur x) ++ ([x] ++ cur.drop (placeOf cur x)) = cur ++ [x]) := ⟨by
              have : placeOf cur x = cur.length := by unfold placeOf; rw [hq]
              rw [this]; simp⟩
            clear hq
            have hnc : cur.length ≤ c := (Kd.R_reads' HO.out).2.1
            rcases (R_owns HO.out).2 with ⟨hv, h0⟩ | ⟨g, cap, cc, hv, gb, hh, _, _, _, _⟩
            · injection hv with e1 _ e3
              subst e1; subst e3
              obtain rfl : cur = [] := List.eq_nil_of_length_eq_zero h0
              go_wp2_with (go_at_call 59; refine (at59 _ _ ([] : List S38) x.f0 _ (Kd.C_alloc HCR.out _)).mono ?_; rw [hidx.out]; rintro e w2 ⟨rfl, hb⟩; have HB2 := Aside0.mk (below_then (below_alloc HB.out (.cells #[.int .i64 x.f0, .int .u64 x.f1, .int .u64 x.f2] 38)) (by have := HB.out.size; simp; omega) hb); have HBX2 := Aside0.mk (blk_below HBX.out hb); have HO2 := Aside0.mk (Kd.R_below (Kd.R_alloc HO.out (.cells #[.int .i64 x.f0, .int .u64 x.f1, .int .u64 x.f2] 38)) hb); clear hb)
              go_quiet (fail)
              go_wp2_with (go_at_call 42; refine (first42 60 #[.pointer (some ⟨wr.heap.size, 0, none⟩)] (fun m => decide (m.f0 > x.f0)) eg60 _ _ ([] : List S38) _ (pred60 _ _ x.f0 ((blk_cell (blk_drewN HBX2.out nq) 0).trans rfl)) (Kd.R_reads' (Kd.R_drewN HO2.out nq)).2.2).mono ?_; rw [HQ.out]; rintro e w3 ⟨rfl, hb⟩; have HB3 := Aside0.mk (below_then (pw_below_drewN HB2.out nq) (by have := HB2.out.size; simp; omega) hb); have HBX3 := Aside0.mk (blk_below (blk_drewN HBX2.out nq) hb); have HO3 := Aside0.mk (Kd.R_below (Kd.R_drewN HO2.out nq) hb); clear hb)
              have hm0 := (blk_cell HBX3.out 0).trans rfl
              have hm1' := (blk_cell HBX3.out 1).trans rfl
              have hm2 := (blk_cell HBX3.out 2).trans rfl
              obtain ⟨v2, w5, hr2, hR5, hB5⟩ := ins_nil (w3 := w3) x
              have HR5 := Aside0.mk (hR5 w.heap.size (by have := HB3.out.size; omega))
              have HB5 := Aside0.mk (hB5 _ _ HB3.out HB3.out.size)
              clear hR5 hB5
              have hr1 := app_nothing (w3.alloc (.cells #[.int .i64 x.f0, .int .u64 x.f1, .int .u64 x.f2] 38)).drew ⟨w3.heap.size, 0, none⟩ none 0
              go_region_law (first | (refine step_append_run rfl (.tmp 33) (.tmp 36) rfl rfl rfl rfl hr1 ?_) | (refine step_append_run rfl (.tmp 31) (.tmp 37) rfl rfl rfl rfl hr2 ?_))
              go_wp2
              go_roundg (l1.length - (j + 1))
              case measure => omega
              case rel => exact ⟨j + 1, _, by go_num, by omega, by omega, HR5, HB5, ⟨by rw [HG.out, HGO.out, HX.out, HG1.out, HP.out]; rfl⟩, ⟨by simp⟩⟩
            · injection hv with e1 _ e3
              subst e1; subst e3
              by_cases hcn : c = cur.length
              · subst hcn
                go_wp2_with (go_at_call 59; refine (at59 _ _ cur x.f0 _ (Kd.C_alloc HCR.out _)).mono ?_; rw [hidx.out]; rintro e w2 ⟨rfl, hb⟩; have HB2 := Aside0.mk (below_then (below_alloc HB.out (.cells #[.int .i64 x.f0, .int .u64 x.f1, .int .u64 x.f2] 38)) (by have := HB.out.size; simp; omega) hb); have HBX2 := Aside0.mk (blk_below HBX.out hb); have HO2 := Aside0.mk (Kd.R_below (Kd.R_alloc HO.out (.cells #[.int .i64 x.f0, .int .u64 x.f1, .int .u64 x.f2] 38)) hb); clear hb)
                go_quiet (fail)
                go_wp2_with (go_at_call 42; refine (first42 60 #[.pointer (some ⟨wr.heap.size, 0, none⟩)] (fun m => decide (m.f0 > x.f0)) eg60 _ _ cur _ (pred60 _ _ x.f0 ((blk_cell (blk_drewN HBX2.out nq) 0).trans rfl)) (Kd.R_reads' (Kd.R_drewN HO2.out nq)).2.2).mono ?_; rw [HQ.out]; rintro e w3 ⟨rfl, hb⟩; have HB3 := Aside0.mk (below_then (pw_below_drewN HB2.out nq) (by have := HB2.out.size; simp; omega) hb); have HBX3 := Aside0.mk (blk_below (blk_drewN HBX2.out nq) hb); have HO3 := Aside0.mk (Kd.R_below (Kd.R_drewN HO2.out nq) hb); clear hb)
                have hm0 := (blk_cell HBX3.out 0).trans rfl
                have hm1' := (blk_cell HBX3.out 1).trans rfl
                have hm2 := (blk_cell HBX3.out 2).trans rfl
                obtain ⟨v2, w5, hr2, hR5, hB5⟩ := ins_end (w3 := w3) (n := cur.length) (c := cur.length) x rfl (by obtain ⟨_, h, _⟩ := R_block HO3.out; exact blk_lt h) (R_cells HO3.out) (by have := HL.out; omega)
                have HR5 := Aside0.mk (hR5 w.heap.size (by have := HB3.out.size; omega))
                have HB5 := Aside0.mk (hB5 _ _ HB3.out HB3.out.size)
                clear hR5 hB5
                have hr1 := app_nothing (w3.alloc (.cells #[.int .i64 x.f0, .int .u64 x.f1, .int .u64 x.f2] 38)).drew ⟨w3.heap.size, 0, none⟩ (some ⟨g, 0, none⟩) 0
                go_region_law (first | (refine step_append_run rfl (.tmp 33) (.tmp 36) rfl rfl rfl rfl hr1 ?_) | (refine step_append_run rfl (.tmp 31) (.tmp 37) rfl rfl rfl rfl hr2 ?_))
                go_wp2
                go_roundg (l1.length - (j + 1))
                case measure => omega
                case rel => exact ⟨j + 1, _, by go_num, by omega, by omega, HR5, HB5, ⟨by rw [HG.out, HGO.out, HX.out, HG1.out, HP.out]⟩, ⟨by simp; have := HL.out; omega⟩⟩
              · have hcn' : ¬ c = cur.length := hcn
                go_wp2_with (go_at_call 59; refine (at59 _ _ cur x.f0 _ (Kd.C_alloc HCR.out _)).mono ?_; rw [hidx.out]; rintro e w2 ⟨rfl, hb⟩; have HB2 := Aside0.mk (below_then (below_alloc HB.out (.cells #[.int .i64 x.f0, .int .u64 x.f1, .int .u64 x.f2] 38)) (by have := HB.out.size; simp; omega) hb); have HBX2 := Aside0.mk (blk_below HBX.out hb); have HO2 := Aside0.mk (Kd.R_below (Kd.R_alloc HO.out (.cells #[.int .i64 x.f0, .int .u64 x.f1, .int .u64 x.f2] 38)) hb); clear hb)
                go_quiet (fail)
                go_wp2_with (go_at_call 42; refine (first42 60 #[.pointer (some ⟨wr.heap.size, 0, none⟩)] (fun m => decide (m.f0 > x.f0)) eg60 _ _ cur _ (pred60 _ _ x.f0 ((blk_cell (blk_drewN HBX2.out nq) 0).trans rfl)) (Kd.R_reads' (Kd.R_drewN HO2.out nq)).2.2).mono ?_; rw [HQ.out]; rintro e w3 ⟨rfl, hb⟩; have HB3 := Aside0.mk (below_then (pw_below_drewN HB2.out nq) (by have := HB2.out.size; simp; omega) hb); have HBX3 := Aside0.mk (blk_below (blk_drewN HBX2.out nq) hb); have HO3 := Aside0.mk (Kd.R_below (Kd.R_drewN HO2.out nq) hb); clear hb)
                have hm0 := (blk_cell HBX3.out 0).trans rfl
                have hm1' := (blk_cell HBX3.out 1).trans rfl
                have hm2 := (blk_cell HBX3.out 2).trans rfl
                obtain ⟨v2, w5, hr2, hR5, hB5⟩ := ins_end (w3 := w3) (n := cur.length) (c := c) x rfl (by obtain ⟨_, h, _⟩ := R_block HO3.out; exact blk_lt h) (R_cells HO3.out) (by have := HL.out; omega)
                have HR5 := Aside0.mk (hR5 w.heap.size (by have := HB3.out.size; omega))
                have HB5 := Aside0.mk (hB5 _ _ HB3.out HB3.out.size)
                clear hR5 hB5
                have hr1 := app_nothing (w3.alloc (.cells #[.int .i64 x.f0, .int .u64 x.f1, .int .u64 x.f2] 38)).drew ⟨w3.heap.size, 0, none⟩ (some ⟨g, cur.length * 3, none⟩) (c - cur.length)
                go_region_law (first | (refine step_append_run rfl (.tmp 33) (.tmp 36) rfl rfl rfl rfl hr1 ?_) | (refine step_append_run rfl (.tmp 31) (.tmp 37) rfl rfl rfl rfl hr2 ?_))
                go_wp2
                go_roundg (l1.length - (j + 1))
                case measure => omega
                case rel => exact ⟨j + 1, _, by go_num, by omega, by omega, HR5, HB5, ⟨by rw [HG.out, HGO.out, HX.out, HG1.out, HP.out]⟩, ⟨by simp; have := HL.out; omega⟩⟩
    · obtain rfl : j = l1.length := by omega
      go_wp2
      refine bodyPost_ret (v := .tuple #[.slice A cur.length c, .int .i64 0]) (by simp [results, Try.results36, go_sem]) rfl ?_
      rw [HG.out, goesRes_end]
      exact ⟨_, rfl, HO.out, HB.out⟩

theorem seen_goes.calls (A0 : Option Addr) (c0 : Nat) (l0 : List (S38)) (A1 : Option Addr) (c1 : Nat) (l1 : List (S38)) (r1 : List (S38)) (r2 : Int) (w : World) (hr0 : Kd.C k38 w A0 l0.length l0) (hc0 : l0.length ≤ c0) (hr1 : Kd.C k38 w A1 l1.length l1) (hc1 : l1.length ≤ c1) (h : seen_goes.f l0 l1 = some (r1, r2)) :
    Calls Try.prog 36 #[.slice A0 l0.length c0, .slice A1 l1.length c1] w fun e w' => ∃ v0_ : Value, e = .returned (.tuple #[v0_, .int .i64 r2]) ∧ Kd.R k38 38 w' w.heap.size (fun _ => True) v0_ r1 ∧ Below w.heap.size w w' := by
  unfold seen_goes.f at h
  split at h
  · rename_i hl
    have e : goesRes l0 l1 = (r1, r2) := by
      unfold goesRes
      cases hg : goesAll l0 l1 <;> rw [hg] at h <;> simpa using h
    have := goes36 A0 c0 l0 A1 c1 l1 w hr0 hr1 hl.1
    rw [e] at this
    exact this
  · cases h

end Go.Proofs.Ytokhckbjdpgkfaa.P
