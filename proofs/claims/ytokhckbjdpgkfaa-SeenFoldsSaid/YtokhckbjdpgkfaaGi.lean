/- The function values that seen hands to the library, and slices.IndexFunc over marks and over entries: what each call answers. -/
import Derived.Test.YtokhckbjdpgkfaaPx2
import Derived.Test.YtokhckbjdpgkfaaM
import Derived.Deep.LoopGhost
import Derived.Deep.QuietTactic
import Derived.Shelf.Abstract
import Derived.Shelf.SlSortCmp.QuietGrown
namespace Go.Proofs.Ytokhckbjdpgkfaa.P
set_option linter.unusedVariables false
set_option linter.unusedSimpArgs false
open Go.RowKit Go.Proofs.YtokhckbjdpgkfaaW.PrintWords Go.Proofs.YtokhckbjdpgkfaaW.PrintLast Go.Proofs.YtokhckbjdpgkfaaW.PrintMore

def markV (m : S38) : Value := .agg #[.int .i64 m.f0, .int .u64 m.f1, .int .u64 m.f2]

/-- A function value that answers p of every mark, in every world that goes on from w; it may make memory. -/
def PredM (g : Nat) (lb : Array Value) (p : S38 → Bool) (w : World) : Prop :=
  ∀ (W : World) (x : S38), Below w.heap.size w W → Calls Try.prog g (#[markV x] ++ lb) W fun e w' => e = .returned (.bool (p x)) ∧ Below w.heap.size w w'

theorem idxOf_hit {α : Type} (p : α → Bool) (l : List α) (z : α) (k : Nat) (hk : k < l.length) (h : p (l.getD k z) = true) (ha : ∀ j, j < k → p (l.getD j z) = false) : idxOf p l = (k : Int) := by
  unfold idxOf
  have : l.findIdx? p = some k := by
    rw [List.findIdx?_eq_some_iff_getElem]
    refine ⟨hk, by simpa [List.getD_eq_getElem?_getD, hk] using h, fun j hj => ?_⟩
    have := ha j hj
    have hj' : j < l.length := by omega
    simpa [List.getD_eq_getElem?_getD, hj'] using this
  rw [this]

theorem idxOf_miss {α : Type} (p : α → Bool) (l : List α) (z : α) (ha : ∀ j, j < l.length → p (l.getD j z) = false) : idxOf p l = -1 := by
  unfold idxOf
  have : l.findIdx? p = none := by
    rw [List.findIdx?_eq_none_iff]
    intro x hx
    obtain ⟨j, hj, rfl⟩ := List.getElem_of_mem hx
    have := ha j hj
    simpa [List.getD_eq_getElem?_getD, hj] using this
  rw [this]

set_option maxHeartbeats 800000 in
theorem index61 (g : Nat) (lb : Array Value) (p : S38 → Bool) (eg : ∀ args w, (callFunc g args).run Try.prog w = .ok (.enter g args) w) (A : Option Addr) (c : Nat) (l : List S38) (w : World)
    (hp : PredM g lb p w) (hr : Kd.C k38 w A l.length l) :
    Calls Try.prog 61 #[.slice A l.length c, .func (.func g) #[] lb] w fun e w' => e = .returned (.int .i64 (idxOf p l)) ∧ Below w.heap.size w w' := by
  have hu38 := Try.underlying38
  have hm := hr.2.1
  have HR0 := Aside0.mk hr
  have HP := Aside0.mk hp
  clear hr hp
  go_enter Try.func61, Try.ntmps61
  go_wp2
  go_loopg [5, 8] l.length (fun gg _ s8 wr => ∃ kk : Nat, kk ≤ l.length ∧ l.length - kk ≤ gg ∧ s8 = .int .i64 kk ∧ Aside0 (Below w.heap.size w wr) ∧ Aside0 (∀ j, j < kk → p (l.getD j z38) = false))
  case atStart => exact ⟨0, Nat.zero_le _, by omega, rfl, ⟨Below.refl _ w⟩, ⟨fun j hj => absurd hj (Nat.not_lt_zero _)⟩⟩
  case round =>
    obtain ⟨kk, hkk, hg, rfl, BW, A1⟩ := hrel
    by_cases hlt : kk < l.length
    · have hltz : (kk : Int) < (l.length : Int) := by omega
      obtain ⟨ad, rfl, hx0, hx1, hx2⟩ := at_T38 HR0.out (kk : Int) (by omega) hltz
      replace hx0 := (BW.out.cell (World.block_lt_of_cell? w _ hx0)).trans hx0
      replace hx1 := (BW.out.cell (World.block_lt_of_cell? w _ hx1)).trans hx1
      replace hx2 := (BW.out.cell (World.block_lt_of_cell? w _ hx2)).trans hx2
      have hcall := HP.out wr (rd_T38 l kk) BW.out
      simp only [Int.toNat_natCast] at hx0 hx1 hx2
      obtain ⟨y, hy⟩ : ∃ y, y = rd_T38 l kk := ⟨_, rfl⟩
      rw [← hy] at hx0 hx1 hx2 hcall
      have HY := Aside0.mk hy
      clear hy
      unfold markV at hcall
      cases hq : p y with
      | true =>
        rw [hq] at hcall
        have HQ := Aside0.mk hq
        clear hq
        go_wp2_with (go_at_fn g; refine hcall.mono ?_; rintro e w' ⟨rfl, hb'⟩)
        go_ret
        refine ⟨?_, hb'⟩
        rw [idxOf_hit p l z38 kk hlt (by have := HQ.out; rw [HY.out] at this; exact this) A1.out]; rfl
      | false =>
        rw [hq] at hcall
        have HQ := Aside0.mk hq
        clear hq
        go_wp2_with (go_at_fn g; refine hcall.mono ?_; rintro e w' ⟨rfl, hb'⟩)
        go_roundg (l.length - (kk + 1))
        case measure => omega
        case rel =>
          refine ⟨kk + 1, by omega, by omega, by go_num, ⟨hb'⟩, ⟨fun j hj => ?_⟩⟩
          by_cases e : j = kk
          · subst e
            have := HQ.out
            rw [HY.out] at this
            exact this
          · exact A1.out j (by omega)
    · have hltz : ¬ (kk : Int) < (l.length : Int) := by omega
      have : kk = l.length := by omega
      subst this
      go_wp2
      go_ret
      exact ⟨by rw [idxOf_miss p l z38 A1.out]; rfl, BW.out⟩


def entryV (e : S30) (A : Option Addr) (c : Nat) : Value := .agg #[.int .i64 e.f0, .int .u64 e.f1, .slice A e.f2.length c]
/-- A function value that answers p of every entry, in every world that goes on from w. -/
def PredE (g : Nat) (lb : Array Value) (p : S30 → Bool) (w : World) : Prop :=
  ∀ (W : World) (x : S30) (A : Option Addr) (c : Nat), Below w.heap.size w W → x.f2.length ≤ c → x.f2.length ≤ 9223372036854775807 → Calls Try.prog g (#[entryV x A c] ++ lb) W fun e w' => e = .returned (.bool (p x)) ∧ Below w.heap.size w w'

set_option maxHeartbeats 800000 in
theorem index57 (g : Nat) (lb : Array Value) (p : S30 → Bool) (eg : ∀ args w, (callFunc g args).run Try.prog w = .ok (.enter g args) w) (A : Option Addr) (c : Nat) (l : List S30) (w : World)
    (hp : PredE g lb p w) (hr : Kd.C k30 w A l.length l) :
    Calls Try.prog 57 #[.slice A l.length c, .func (.func g) #[] lb] w fun e w' => e = .returned (.int .i64 (idxOf p l)) ∧ Below w.heap.size w w' := by
  have hu30 := Try.underlying30
  have hm := hr.2.1
  have HR0 := Aside0.mk hr
  have HP := Aside0.mk hp
  clear hr hp
  go_enter Try.func57, Try.ntmps57
  go_wp2
  go_loopg [5, 8] l.length (fun gg _ s8 wr => ∃ kk : Nat, kk ≤ l.length ∧ l.length - kk ≤ gg ∧ s8 = .int .i64 kk ∧ Aside0 (Below w.heap.size w wr) ∧ Aside0 (∀ j, j < kk → p (l.getD j z30) = false))
  case atStart => exact ⟨0, Nat.zero_le _, by omega, rfl, ⟨Below.refl _ w⟩, ⟨fun j hj => absurd hj (Nat.not_lt_zero _)⟩⟩
  case round =>
    obtain ⟨kk, hkk, hg, rfl, BW, A1⟩ := hrel
    by_cases hlt : kk < l.length
    · have hltz : (kk : Int) < (l.length : Int) := by omega
      obtain ⟨ad, A2, c2, rfl, hx0, hx1, hx2, hc2, hC2⟩ := at_T30 HR0.out (kk : Int) (by omega) hltz
      replace hx0 := (BW.out.cell (World.block_lt_of_cell? w _ hx0)).trans hx0
      replace hx1 := (BW.out.cell (World.block_lt_of_cell? w _ hx1)).trans hx1
      replace hx2 := (BW.out.cell (World.block_lt_of_cell? w _ hx2)).trans hx2
      have hcall := HP.out wr (rd_T30 l kk) A2 c2 BW.out hc2 hC2.2.1
      simp only [Int.toNat_natCast] at hx0 hx1 hx2
      clear hc2 hC2
      obtain ⟨y, hy⟩ : ∃ y, y = rd_T30 l kk := ⟨_, rfl⟩
      rw [← hy] at hx0 hx1 hx2 hcall
      have HY := Aside0.mk hy
      clear hy
      unfold entryV at hcall
      cases hq : p y with
      | true =>
        rw [hq] at hcall
        have HQ := Aside0.mk hq
        clear hq
        go_wp2_with (go_at_fn g; refine hcall.mono ?_; rintro e w' ⟨rfl, hb'⟩)
        go_ret
        refine ⟨?_, hb'⟩
        rw [idxOf_hit p l z30 kk hlt (by have := HQ.out; rw [HY.out] at this; exact this) A1.out]; rfl
      | false =>
        rw [hq] at hcall
        have HQ := Aside0.mk hq
        clear hq
        go_wp2_with (go_at_fn g; refine hcall.mono ?_; rintro e w' ⟨rfl, hb'⟩)
        go_roundg (l.length - (kk + 1))
        case measure => omega
        case rel =>
          refine ⟨kk + 1, by omega, by omega, by go_num, ⟨hb'⟩, ⟨fun j hj => ?_⟩⟩
          by_cases e : j = kk
          · subst e
            have := HQ.out
            rw [HY.out] at this
            exact this
          · exact A1.out j (by omega)
    · have hltz : ¬ (kk : Int) < (l.length : Int) := by omega
      have : kk = l.length := by omega
      subst this
      go_wp2
      go_ret
      exact ⟨by rw [idxOf_miss p l z30 A1.out]; rfl, BW.out⟩

theorem first42 (g : Nat) (lb : Array Value) (p : S38 → Bool) (eg : ∀ args w, (callFunc g args).run Try.prog w = .ok (.enter g args) w) (A : Option Addr) (c : Nat) (l : List S38) (w : World)
    (hp : PredM g lb p w) (hr : Kd.C k38 w A l.length l) :
    Calls Try.prog 42 #[.slice A l.length c, .func (.func g) #[] lb] w fun e w' => e = .returned (.int .i64 (idxOf p l)) ∧ Below w.heap.size w w' := by
  go_enter Try.func42, Try.ntmps42
  go_wp2_with (go_at_call 61; refine (index61 g lb p eg A c l _ hp hr).mono ?_; rintro e w' ⟨rfl, hb'⟩)
  go_ret
  exact ⟨rfl, hb'⟩

theorem first33 (g : Nat) (lb : Array Value) (p : S30 → Bool) (eg : ∀ args w, (callFunc g args).run Try.prog w = .ok (.enter g args) w) (A : Option Addr) (c : Nat) (l : List S30) (w : World)
    (hp : PredE g lb p w) (hr : Kd.C k30 w A l.length l) :
    Calls Try.prog 33 #[.slice A l.length c, .func (.func g) #[] lb] w fun e w' => e = .returned (.int .i64 (idxOf p l)) ∧ Below w.heap.size w w' := by
  go_enter Try.func33, Try.ntmps33
  go_wp2_with (go_at_call 57; refine (index57 g lb p eg A c l _ hp hr).mono ?_; rintro e w' ⟨rfl, hb'⟩)
  go_ret
  exact ⟨rfl, hb'⟩

theorem may_eq (m : S38) : seen_may.f m.f0 m.f1 m.f2 = some (mayM m) := by
  unfold seen_may.f mayM
  by_cases h1 : m.f0 ≥ 1 <;> by_cases h2 : m.f0 ≤ 15 <;> by_cases h3 : m.f1 ≥ 1 <;> by_cases h4 : m.f1 ≤ 4611686018427387903 <;> simp [h1, h2, h3, h4]

/-! ### the function values -/
theorem eg43 : ∀ args w, (callFunc 43 args).run Try.prog w = .ok (.enter 43 args) w := enters_of Try.func43 (by kernel_rfl) rfl
theorem pred43 (w : World) : PredM 43 #[] (fun m => !mayM m) w := by
  intro W x hb
  show Calls Try.prog 43 #[.agg #[.int .i64 x.f0, .int .u64 x.f1, .int .u64 x.f2]] W _
  have hu38 := Try.underlying38
  have HB := Aside0.mk hb
  clear hb
  go_enter Try.func43, Try.ntmps43
  go_wp2_with (go_at_call 44; refine (seen_may.calls x.f0 x.f1 x.f2 (mayM x) _ (may_eq x)).mono ?_; rintro e w' ⟨rfl, hb'⟩)
  go_ret
  exact ⟨rfl, below_then (below_alloc HB.out _) (by have := HB.out.size; simp; omega) hb'⟩

theorem eg67 : ∀ args w, (callFunc 67 args).run Try.prog w = .ok (.enter 67 args) w := enters_of Try.func67 (by kernel_rfl) rfl
theorem pred67 (w : World) (B : Nat) (q : Int) (hc : w.cell? ⟨B, 0, none⟩ = some (.int .i64 q)) : PredM 67 #[.pointer (some ⟨B, 0, none⟩)] (fun m => m.f0 == q) w := by
  intro W x hb
  show Calls Try.prog 67 #[.agg #[.int .i64 x.f0, .int .u64 x.f1, .int .u64 x.f2], .pointer (some ⟨B, 0, none⟩)] W _
  have hu38 := Try.underlying38
  have hc' := (hb.cell (World.block_lt_of_cell? w _ hc)).trans hc
  have hlt : B < W.heap.size := World.block_lt_of_cell? W _ hc'
  have HB := Aside0.mk hb
  clear hb hc
  go_enter Try.func67, Try.ntmps67
  go_wp2
  go_ret
  exact ⟨rfl, below_alloc HB.out _⟩

theorem eg60 : ∀ args w, (callFunc 60 args).run Try.prog w = .ok (.enter 60 args) w := enters_of Try.func60 (by kernel_rfl) rfl
theorem pred60 (w : World) (B : Nat) (q : Int) (hc : w.cell? ⟨B, 0, none⟩ = some (.int .i64 q)) : PredM 60 #[.pointer (some ⟨B, 0, none⟩)] (fun m => decide (m.f0 > q)) w := by
  intro W x hb
  show Calls Try.prog 60 #[.agg #[.int .i64 x.f0, .int .u64 x.f1, .int .u64 x.f2], .pointer (some ⟨B, 0, none⟩)] W _
  have hu38 := Try.underlying38
  have hc' := (hb.cell (World.block_lt_of_cell? w _ hc)).trans hc
  have hlt : B < W.heap.size := World.block_lt_of_cell? W _ hc'
  have HB := Aside0.mk hb
  clear hb hc
  go_enter Try.func60, Try.ntmps60
  go_wp2
  go_ret
  exact ⟨rfl, below_alloc HB.out _⟩

theorem eg51 : ∀ args w, (callFunc 51 args).run Try.prog w = .ok (.enter 51 args) w := enters_of Try.func51 (by kernel_rfl) rfl
theorem pred51 (w : World) (B : Nat) (q : Int) (hc : w.cell? ⟨B, 0, none⟩ = some (.int .u64 q)) : PredM 51 #[.pointer (some ⟨B, 0, none⟩)] (fun m => decide (m.f2 ≥ q)) w := by
  intro W x hb
  show Calls Try.prog 51 #[.agg #[.int .i64 x.f0, .int .u64 x.f1, .int .u64 x.f2], .pointer (some ⟨B, 0, none⟩)] W _
  have hu38 := Try.underlying38
  have hc' := (hb.cell (World.block_lt_of_cell? w _ hc)).trans hc
  have hlt : B < W.heap.size := World.block_lt_of_cell? W _ hc'
  have HB := Aside0.mk hb
  clear hb hc
  go_enter Try.func51, Try.ntmps51
  go_wp2
  go_ret
  exact ⟨rfl, below_alloc HB.out _⟩

theorem eg53 : ∀ args w, (callFunc 53 args).run Try.prog w = .ok (.enter 53 args) w := enters_of Try.func53 (by kernel_rfl) rfl
theorem pred53 (w : World) (B : Nat) (q : Int) (hc : w.cell? ⟨B, 0, none⟩ = some (.int .i64 q)) : PredM 53 #[.pointer (some ⟨B, 0, none⟩)] (fun m => m.f0 == q) w := by
  intro W x hb
  show Calls Try.prog 53 #[.agg #[.int .i64 x.f0, .int .u64 x.f1, .int .u64 x.f2], .pointer (some ⟨B, 0, none⟩)] W _
  have hu38 := Try.underlying38
  have hc' := (hb.cell (World.block_lt_of_cell? w _ hc)).trans hc
  have hlt : B < W.heap.size := World.block_lt_of_cell? W _ hc'
  have HB := Aside0.mk hb
  clear hb hc
  go_enter Try.func53, Try.ntmps53
  go_wp2
  go_ret
  exact ⟨rfl, below_alloc HB.out _⟩

theorem eg38 : ∀ args w, (callFunc 38 args).run Try.prog w = .ok (.enter 38 args) w := enters_of Try.func38 (by kernel_rfl) rfl
theorem cmp38 (W : World) (x y : S38) : Calls Try.prog 38 #[markV x, markV y] W fun e w' => e = .returned (.int .i64 (wrap64 (x.f0 - y.f0))) ∧ ∃ q os', w' = Sort.grow (W.drewN q) os' := by
  show Calls Try.prog 38 #[.agg #[.int .i64 x.f0, .int .u64 x.f1, .int .u64 x.f2], .agg #[.int .i64 y.f0, .int .u64 y.f1, .int .u64 y.f2]] W _
  have hu38 := Try.underlying38
  go_enter Try.func38, Try.ntmps38
  go_wp2
  go_ret
  exact ⟨rfl, 0, #[_, _], by rw [Sort.alloc_eq_grow, Sort.alloc_eq_grow, Sort.grow_grow]; rfl⟩

theorem eg41 : ∀ args w, (callFunc 41 args).run Try.prog w = .ok (.enter 41 args) w := enters_of Try.func41 (by kernel_rfl) rfl
theorem eq41 (W : World) (x y : S38) : Calls Try.prog 41 #[markV x, markV y] W fun e w' => e = .returned (.bool (x.f0 == y.f0)) ∧ ∃ q os', w' = Sort.grow (W.drewN q) os' := by
  show Calls Try.prog 41 #[.agg #[.int .i64 x.f0, .int .u64 x.f1, .int .u64 x.f2], .agg #[.int .i64 y.f0, .int .u64 y.f1, .int .u64 y.f2]] W _
  have hu38 := Try.underlying38
  go_enter Try.func41, Try.ntmps41
  go_wp2
  go_ret
  exact ⟨rfl, 0, #[_, _], by rw [Sort.alloc_eq_grow, Sort.alloc_eq_grow, Sort.grow_grow]; rfl⟩

theorem count58 (W : World) (n : Int) : Calls Try.prog 58 #[.int .u64 n] W fun e w' => e = .returned (.bool (decide (1 ≤ n) && decide (n ≤ 4611686018427387903))) ∧ Drawn0 W w' := by
  by_cases h1 : 1 ≤ n
  · have h1' : decide (1 ≤ n) = true := decide_eq_true h1
    go_enter Try.func58, Try.ntmps58
    go_wp2
    go_ret
    exact ⟨by simp [h1], ⟨0, rfl⟩⟩
  · have h1' : decide (1 ≤ n) = false := decide_eq_false h1
    go_enter Try.func58, Try.ntmps58
    go_wp2
    go_ret
    exact ⟨by simp [h1], ⟨0, rfl⟩⟩

end Go.Proofs.Ytokhckbjdpgkfaa.P
