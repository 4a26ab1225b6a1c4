/- entry.May, slices.Clone and slices.IsSortedFunc over marks: what each call answers. -/
import Derived.Test.YtokhckbjdpgkfaaGi
import Derived.Lib.SliceRun
namespace Go.Proofs.Ytokhckbjdpgkfaa.P
set_option linter.unusedVariables false
set_option linter.unusedSimpArgs false
open Go.RowKit Go.Proofs.YtokhckbjdpgkfaaW.PrintWords Go.Proofs.YtokhckbjdpgkfaaW.PrintLast Go.Proofs.YtokhckbjdpgkfaaW.PrintMore

theorem may35 (W : World) (x : S30) (A : Option Addr) (c : Nat) (hn : x.f2.length ≤ 9223372036854775807) : Calls Try.prog 35 #[entryV x A c] W fun e w' => e = .returned (.bool (mayE x)) ∧ Below W.heap.size W w' := by
  show Calls Try.prog 35 #[.agg #[.int .i64 x.f0, .int .u64 x.f1, .slice A x.f2.length c]] W _
  have hu30 := Try.underlying30
  unfold mayE
  by_cases h1 : 1 ≤ x.f0
  · have h1' : decide (1 ≤ x.f0) = true := decide_eq_true h1
    by_cases h2 : x.f0 ≤ 15
    · have h2' : decide (x.f0 ≤ 15) = true := decide_eq_true h2
      cases h3 : (decide (1 ≤ x.f1) && decide (x.f1 ≤ 4611686018427387903))
      · have e3 : (decide (1 ≤ x.f0) && (decide (x.f0 ≤ 15) && (decide (1 ≤ x.f1) && (decide (x.f1 ≤ 4611686018427387903) && decide ((x.f2.length : Int) ≤ 64))))) = false := by
          rw [← Bool.and_assoc (decide (1 ≤ x.f1)), h3]; simp
        rw [e3]
        have hcall := count58 
        have H3 := Aside0.mk h3
        clear h3 e3 h1 h2
        go_enter Try.func35, Try.ntmps35
        go_wp2_with (go_at_call 58; refine (count58 _ x.f1).mono ?_; rw [H3.out]; rintro e w' ⟨rfl, ⟨q, rfl⟩⟩)
        go_ret
        exact ⟨rfl, pw_below_drewN (below_alloc (Below.refl _ _) _) _⟩
      · have e3 : (decide (1 ≤ x.f0) && (decide (x.f0 ≤ 15) && (decide (1 ≤ x.f1) && (decide (x.f1 ≤ 4611686018427387903) && decide ((x.f2.length : Int) ≤ 64))))) = decide ((x.f2.length : Int) ≤ 64) := by
          rw [← Bool.and_assoc (decide (1 ≤ x.f1)), h3, h1', h2']; simp
        rw [e3]
        have H3 := Aside0.mk h3
        clear h3 e3 h1 h2
        go_enter Try.func35, Try.ntmps35
        go_wp2_with (go_at_call 58; refine (count58 _ x.f1).mono ?_; rw [H3.out]; rintro e w' ⟨rfl, ⟨q, rfl⟩⟩)
        go_ret
        exact ⟨rfl, pw_below_drewN (below_alloc (Below.refl _ _) _) _⟩
    · have h2' : decide (x.f0 ≤ 15) = false := decide_eq_false h2
      have e3 : (decide (1 ≤ x.f0) && (decide (x.f0 ≤ 15) && (decide (1 ≤ x.f1) && (decide (x.f1 ≤ 4611686018427387903) && decide ((x.f2.length : Int) ≤ 64))))) = false := by rw [h2']; simp
      rw [e3]
      clear e3
      go_enter Try.func35, Try.ntmps35
      go_wp2
      go_ret
      exact ⟨rfl, below_alloc (Below.refl _ _) _⟩
  · have h1' : decide (1 ≤ x.f0) = false := decide_eq_false h1
    have e3 : (decide (1 ≤ x.f0) && (decide (x.f0 ≤ 15) && (decide (1 ≤ x.f1) && (decide (x.f1 ≤ 4611686018427387903) && decide ((x.f2.length : Int) ≤ 64))))) = false := by rw [h1']; simp
    rw [e3]
    clear e3
    go_enter Try.func35, Try.ntmps35
    go_wp2
    go_ret
    exact ⟨rfl, below_alloc (Below.refl _ _) _⟩

theorem eg34 : ∀ args w, (callFunc 34 args).run Try.prog w = .ok (.enter 34 args) w := enters_of Try.func34 (by kernel_rfl) rfl
theorem pred34 (w : World) : PredE 34 #[] (fun e => !mayE e) w := by
  intro W x A c hb hc hn
  show Calls Try.prog 34 #[.agg #[.int .i64 x.f0, .int .u64 x.f1, .slice A x.f2.length c]] W _
  have hu30 := Try.underlying30
  have HB := Aside0.mk hb
  have hcall := fun W => may35 W x A c hn
  unfold entryV at hcall
  have HC := Aside0.mk hcall
  clear hb hcall
  go_enter Try.func34, Try.ntmps34
  go_wp2_with (go_at_call 35; refine (HC.out _).mono ?_; rintro e w' ⟨rfl, hb'⟩)
  go_ret
  exact ⟨rfl, below_then (below_alloc HB.out _) (by have := HB.out.size; simp; omega) hb'⟩


set_option maxRecDepth 100000 in
/-- slices.Clone: a row of the call's own that holds the same. -/
theorem clone40 (A : Option Addr) (c : Nat) (l : List S38) (w : World) (hr : Kd.C k38 w A l.length l) (hlim : l.length ≤ 5864062014805) :
    Calls Try.prog 40 #[.slice A l.length c] w fun e w' => ∃ v0_ : Value, e = .returned v0_ ∧ Kd.R k38 38 w' w.heap.size (fun _ => True) v0_ l ∧ Below w.heap.size w w' := by
  have hu38 := Try.underlying38
  have hnil : ∀ (w : World) (a : Option Addr) (n c n' c' : Nat), (binOp .eql 25 (.slice a n c) (.slice none n' c')).run Try.prog w = .ok (.bool a.isNone) w := fun w a n c n' c' => Lib.run_eql_slice_nil (P := Try.prog) w 25 38 a n c n' c' Try.underlying25
  cases A with
  | none =>
    have hl : l = [] := by
      have := hr.2.2
      cases l with
      | nil => rfl
      | cons x r => obtain ⟨ad, e, _⟩ := this (by simp); cases e
    subst hl
    clear hr hlim
    go_enter Try.func40, Try.ntmps40
    go_wp2
    go_ret
    exact ⟨_, rfl, Kd.R_nil _ _ _ _ _, Below.refl _ _⟩
  | some ad =>
    have HR0 := Aside0.mk hr
    have LM := Aside0.mk hlim
    clear hr hlim
    go_enter Try.func40, Try.ntmps40
    go_wp2_with (first | ((with_reducible refine gate_dst (N := 5) rfl ?_); refine Kd.R_lit k38 _ 38 ?hg (N := 5) ?hd (xs := ([] : List (S38))) (inner := []) (ok := fun _ => True) (okp := fun _ => True) ?hr ?hp (fun _ hk => hk) trivial (Below.refl _ _) (Nat.le_refl _) (by simp) ?_; (case hd => rfl); (case hg => rfl); (case hr => first | (go_simp; done) | (go_simp; rfl)); (case hp => exact (Reps.none _ _)); intro v1 w1 ho1 hb1 hg_ hnew_; clear hg_ hnew_; have HO := Aside0.mk ho1; have HB := Aside0.mk hb1; clear ho1 hb1) | ((with_reducible refine gate_builtin (b := .append) (xs := #[.tmp 5, .tmp 6]) rfl ?_); at_builtin; refine Kd.R_append_rows (Rr := k38.K w1) k38 (w0 := w) w.heap.size rfl (.tmp 5) (.tmp 6) 25 38 (.agg #[(.int .i64 0), (.int .u64 0), (.int .u64 0)]) 24 rfl Try.underlying25 info38 rfl (by decide) (by omega) v1 [] l (some ad) l.length c (fun _ => True) (fun _ => False) rfl rfl ?aO ?aR ?aK (fun _ h => h.elim) ?aF ?aB ?aS ?aL ?_; (case aR => exact (Kd.C_below HR0.out HB.out)); (case aK => intro x cs h; rw [k38_open h]; exact k38_mkM _ _ _ x); (case aB => exact HB.out); (case aF => exact (fun _ _ => trivial)); (case aO => exact HO.out); (case aS => exact HB.out.size); (case aL => have := LM.out; simp only [List.length_nil]; omega); intro v2 w2 ho hb hg hat; have HO2 := Aside0.mk ho; have HB2 := Aside0.mk hb; clear ho hb hg hat))
    go_ret
    exact ⟨_, rfl, HO2.out, HB2.out⟩

/-- From place i down to 1: no mark is told to be less than the one ahead of it. -/
def downOK (cf : S38 → S38 → Int) (l : List S38) : Nat → Bool
  | 0 => true
  | i + 1 => !decide (cf (l.getD (i + 1) z38) (l.getD i z38) < 0) && downOK cf l i

theorem below_grow (W : World) (n : Nat) (os : Array Obj) : Below W.heap.size W (Sort.grow (W.drewN n) os) := by
  refine ⟨rfl, rfl, rfl, ?_, fun i hi => ?_⟩
  · simp [Sort.grow]; 
  · show ((W.drewN n).heap ++ os)[i]? = W.heap[i]?
    exact Array.getElem?_append_left hi

set_option maxHeartbeats 1000000 in
set_option maxRecDepth 100000 in
theorem sorted37 (A : Option Addr) (c : Nat) (l : List S38) (w : World) (hr : Kd.C k38 w A l.length l) :
    Calls Try.prog 37 #[.slice A l.length c, .func (.func 38) #[] #[]] w fun e w' => e = .returned (.bool (downOK (fun x y => wrap64 (x.f0 - y.f0)) l (l.length - 1))) ∧ Below w.heap.size w w' := by
  have hu38 := Try.underlying38
  have mixed : Try.prog.follows .mixedOrders = true := by kernel_rfl
  have hm := hr.2.1
  have HR0 := Aside0.mk hr
  clear hr
  go_enter Try.func37, Try.ntmps37
  go_wp2
  go_loopg [5] l.length (fun kx s5 wr => ∃ (iz : Int) (i : Nat), s5 = .int .i64 iz ∧ (0 < iz → iz = i ∧ i < l.length) ∧ (¬ 0 < iz → i = 0) ∧ i ≤ kx ∧
    Aside0 (Below w.heap.size w wr) ∧ Aside0 (downOK (fun x y => wrap64 (x.f0 - y.f0)) l (l.length - 1) = downOK (fun x y => wrap64 (x.f0 - y.f0)) l i))
  case atStart => exact ⟨(l.length : Int) - 1, l.length - 1, rfl, fun h => ⟨by omega, by omega⟩, fun h => by omega, by omega, ⟨Below.refl _ _⟩, ⟨rfl⟩⟩
  case round =>
    obtain ⟨iz, i, rfl, h1', h2', hkx, BW, HEQ⟩ := hrel
    by_cases hlt : 0 < iz
    · obtain ⟨rfl, hin⟩ := h1' hlt
      obtain ⟨t, rfl⟩ : ∃ t, i = t + 1 := ⟨i - 1, by omega⟩
      clear h1' h2'
      have hqz : ((t + 1 : Nat) : Int) = (t : Int) + 1 := by omega
      rw [hqz] at hlt ⊢
      obtain ⟨ad, rfl, hx0, hx1, hx2⟩ := at_T38 HR0.out ((t : Int) + 1) (by omega) (by omega)
      obtain ⟨ad', e', hy0, hy1, hy2⟩ := at_T38 HR0.out (t : Int) (by omega) (by omega)
      obtain rfl : ad = ad' := by injection e'
      have bx0 := World.block_lt_of_cell? w _ hx0
      have bx1 := World.block_lt_of_cell? w _ hx1
      have bx2 := World.block_lt_of_cell? w _ hx2
      have by0 := World.block_lt_of_cell? w _ hy0
      have by1 := World.block_lt_of_cell? w _ hy1
      have by2 := World.block_lt_of_cell? w _ hy2
      have hs := BW.out.size
      replace hx0 := cell_grown (Nat.lt_of_lt_of_le bx0 hs) ((BW.out.cell bx0).trans hx0)
      replace hx1 := cell_grown (Nat.lt_of_lt_of_le bx1 hs) ((BW.out.cell bx1).trans hx1)
      replace hx2 := cell_grown (Nat.lt_of_lt_of_le bx2 hs) ((BW.out.cell bx2).trans hx2)
      replace hy0 := cell_grown (Nat.lt_of_lt_of_le by0 hs) ((BW.out.cell by0).trans hy0)
      replace hy1 := cell_grown (Nat.lt_of_lt_of_le by1 hs) ((BW.out.cell by1).trans hy1)
      replace hy2 := cell_grown (Nat.lt_of_lt_of_le by2 hs) ((BW.out.cell by2).trans hy2)
      clear bx0 bx1 bx2 by0 by1 by2 hs
      obtain ⟨x, hx⟩ : ∃ x, x = rd_T38 l ((t : Int) + 1) := ⟨_, rfl⟩
      obtain ⟨y, hy⟩ : ∃ y, y = rd_T38 l (t : Int) := ⟨_, rfl⟩
      rw [← hx] at hx0 hx1 hx2
      rw [← hy] at hy0 hy1 hy2
      have HX := Aside0.mk hx
      have HY := Aside0.mk hy
      clear hx hy
      have ea : ((t : Int) + 1).toNat = t + 1 := by omega
      have ec : ((t : Int)).toNat = t := by omega
      have pa : (0 : Int) ≤ (t : Int) + 1 := by omega
      have ba : (t : Int) + 1 < (l.length : Int) := by omega
      have ra : IntKind.i64.wrap ((t : Int) + 1) = (t : Int) + 1 := by rw [IntKind.wrap_i64]; omega
      have pc : (0 : Int) ≤ (t : Int) := by omega
      have bc : (t : Int) < (l.length : Int) := by omega
      have rc : IntKind.i64.wrap ((t : Int)) = (t : Int) := by rw [IntKind.wrap_i64]; omega
      rw [ea] at hx0 hx1 hx2
      rw [ec] at hy0 hy1 hy2
      have hc := fun n os => cmp38 (Sort.grow (wr.drewN n) os) x y
      unfold markV at hc
      have HD : Aside0 (downOK (fun x y => wrap64 (x.f0 - y.f0)) l (t + 1) = (!decide (wrap64 (x.f0 - y.f0) < 0) && downOK (fun x y => wrap64 (x.f0 - y.f0)) l t)) := by
        constructor
        have e1 : x = l.getD (t + 1) z38 := by rw [HX.out]; unfold rd_T38; rw [ea]
        have e2 : y = l.getD t z38 := by rw [HY.out]; unfold rd_T38; rw [ec]
        rw [downOK, ← e1, ← e2]
      cases hlv : decide (wrap64 (x.f0 - y.f0) < 0) with
      | true =>
        go_wp2_with fail
        go_quiet_grown (first | (go_at_call 38; refine Calls.grown_of (hc _ _)))
        go_wp2
        go_ret
        exact ⟨by rw [HEQ.out, HD.out]; simp only [hlv]; rfl, below_then BW.out BW.out.size (below_grow _ _ _)⟩
      | false =>
        go_wp2_with fail
        go_quiet_grown (first | (go_at_call 38; refine Calls.grown_of (hc _ _)))
        go_wp2
        go_roundg t
        case measure => omega
        case rel => exact ⟨(t : Int), t, by simp, fun h => ⟨rfl, by omega⟩, fun h => by omega, Nat.le_refl _, ⟨below_then BW.out BW.out.size (below_grow _ _ _)⟩, ⟨by rw [HEQ.out, HD.out]; simp only [hlv]; rfl⟩⟩
    · have hi0 := h2' hlt
      subst hi0
      go_wp2
      go_ret
      exact ⟨by rw [HEQ.out]; rfl, BW.out⟩
end Go.Proofs.Ytokhckbjdpgkfaa.P
