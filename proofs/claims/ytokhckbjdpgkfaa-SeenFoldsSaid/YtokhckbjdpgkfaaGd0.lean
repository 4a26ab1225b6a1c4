/- slices.DeleteFunc over a row of marks of the call's own: what the call answers, and what it writes. -/
import Derived.Test.YtokhckbjdpgkfaaGk
import Derived.Test.YtokhckbjdpgkfaaGl
namespace Go.Proofs.Ytokhckbjdpgkfaa.P
set_option linter.unusedVariables false
set_option linter.unusedSimpArgs false
open Go.RowKit Go.Proofs.YtokhckbjdpgkfaaW.PrintWords Go.Proofs.YtokhckbjdpgkfaaW.PrintLast Go.Proofs.YtokhckbjdpgkfaaW.PrintMore

def DelBack (base : Nat) (ok : Nat → Prop) (w0 W : World) (v : Value) (r : List S38) (e : Ending) (w' : World) : Prop :=
  ∃ v', e = .returned v' ∧ Kd.R k38 38 w' base ok v' r ∧ Below base w0 w' ∧ Kept W w' (fun k => v.ownBlock = some k) ∧ v'.ownBlock = v.ownBlock

theorem kept_setCells {W0 W : World} {S : Nat → Prop} (h : Kept W0 W S) (g o : Nat) (vs : List Value) (hg : S g) : Kept W0 (W.setCells g o vs) S := by
  refine ⟨by rw [setCells_size]; exact h.1, fun i hi hn => ?_⟩
  have hne : i ≠ g := fun e => hn (e ▸ hg)
  rw [setCells_far vs o i hne]
  exact h.2 i hi hn

theorem kept_below {W0 W W' : World} {S : Nat → Prop} (h : Kept W0 W S) (hb : Below W.heap.size W W') : Kept W0 W' S :=
  ⟨Nat.le_trans h.1 hb.size, fun i hi hn => (hb.block i (Nat.lt_of_lt_of_le hi h.1)).trans (h.2 i hi hn)⟩

theorem filter_all_keep {p : S38 → Bool} : ∀ (l : List S38), (∀ j, j < l.length → p (l.getD j z38) = false) → (l.filter fun x => !p x) = l := by
  intro l h
  rw [List.filter_eq_self]
  intro x hx
  obtain ⟨j, hj, rfl⟩ := List.getElem_of_mem hx
  have := h j hj
  simpa [List.getD_eq_getElem?_getD, hj] using this

theorem idxOf_cases {α : Type} (p : α → Bool) (l : List α) (z : α) : (idxOf p l = -1 ∧ ∀ j, j < l.length → p (l.getD j z) = false) ∨ ∃ i, i < l.length ∧ idxOf p l = (i : Int) ∧ p (l.getD i z) = true ∧ ∀ j, j < i → p (l.getD j z) = false := by
  unfold idxOf
  cases h : l.findIdx? p with
  | none =>
    refine .inl ⟨rfl, fun j hj => ?_⟩
    rw [List.findIdx?_eq_none_iff] at h
    rw [List.getD_eq_getElem?_getD, List.getElem?_eq_getElem hj]
    exact h _ (List.getElem_mem hj)
  | some i =>
    obtain ⟨hi, hp, hno⟩ := List.findIdx?_eq_some_iff_getElem.1 h
    refine .inr ⟨i, hi, rfl, by rw [List.getD_eq_getElem?_getD, List.getElem?_eq_getElem hi]; exact hp, fun j hj => ?_⟩
    rw [List.getD_eq_getElem?_getD, List.getElem?_eq_getElem (by omega)]
    simpa using hno j hj

/-- A part of a row that has been gone through, the kept ones to the front. -/
structure DelInv (p : S38 → Bool) (l : List S38) (j i : Nat) (d : List S38) : Prop where
  len : d.length = l.length
  lt : i < j
  le : j ≤ l.length
  front : d.take i = (l.take j).filter fun x => !p x
  rest : d.drop j = l.drop j

theorem DelInv.start {p : S38 → Bool} {l : List S38} {k : Nat} (hk : k < l.length) (hp : p (l.getD k z38) = true) (hno : ∀ j, j < k → p (l.getD j z38) = false) : DelInv p l (k + 1) k l := by
  refine ⟨rfl, by omega, hk, ?_, rfl⟩
  rw [List.take_succ_eq_append_getElem hk, List.filter_append]
  have e1 : ((l.take k).filter fun x => !p x) = l.take k := filter_all_keep _ (fun j hj => by
    rw [List.length_take] at hj
    have := hno j (by omega)
    rw [List.getD_eq_getElem?_getD, List.getElem?_take, if_pos (by omega), ← List.getD_eq_getElem?_getD]
    exact this)
  have e2 : ([l[k]].filter fun x => !p x) = [] := by
    have : p l[k] = true := by simpa [List.getD_eq_getElem?_getD, hk] using hp
    simp [this]
  rw [e1, e2, List.append_nil]

theorem DelInv.at {p : S38 → Bool} {l d : List S38} {j i : Nat} (h : DelInv p l j i d) (hj : j < l.length) : d.getD j z38 = l.getD j z38 := by
  have := congrArg (fun x => x[0]?) h.rest
  simp only [List.getElem?_drop, Nat.add_zero] at this
  rw [List.getD_eq_getElem?_getD, List.getD_eq_getElem?_getD, this]

theorem DelInv.skip {p : S38 → Bool} {l d : List S38} {j i : Nat} (h : DelInv p l j i d) (hj : j < l.length) (hp : p (l.getD j z38) = true) : DelInv p l (j + 1) i d := by
  refine ⟨h.len, by have := h.lt; omega, hj, ?_, ?_⟩
  · rw [List.take_succ_eq_append_getElem hj, List.filter_append, h.front]
    have : p l[j] = true := by simpa [List.getD_eq_getElem?_getD, hj] using hp
    simp [this]
  · rw [← List.drop_drop, h.rest, List.drop_drop]

theorem DelInv.keep {p : S38 → Bool} {l d : List S38} {j i : Nat} (h : DelInv p l j i d) (hj : j < l.length) (hp : p (l.getD j z38) = false) : DelInv p l (j + 1) (i + 1) (d.set i (l.getD j z38)) := by
  have hi : i < d.length := by have := h.lt; have := h.len; omega
  have e : l.getD j z38 = l[j] := by simp [List.getD_eq_getElem?_getD, hj]
  refine ⟨by rw [List.length_set]; exact h.len, by have := h.lt; omega, hj, ?_, ?_⟩
  · rw [List.take_succ_eq_append_getElem hj, List.filter_append, ← h.front]
    have hp' : p l[j] = false := by rw [← e]; exact hp
    rw [List.take_succ_eq_append_getElem (by rw [List.length_set]; exact hi), List.getElem_set_self, List.take_set_of_le (Nat.le_refl _), e]
    simp [hp']
  · rw [List.drop_set_of_lt (by have := h.lt; omega), ← List.drop_drop, h.rest, List.drop_drop]

set_option maxHeartbeats 2000000 in
set_option maxRecDepth 100000 in
theorem delete50 (g0 : Nat) (lb : Array Value) (p : S38 → Bool) (eg : ∀ args w, (callFunc g0 args).run Try.prog w = .ok (.enter g0 args) w) (I : World → Prop)
    (hp : ∀ W x, I W → Calls Try.prog g0 (#[markV x] ++ lb) W fun e w' => e = .returned (.bool (p x)) ∧ Below W.heap.size W w') (hI1 : ∀ W W', I W → Below W.heap.size W W' → I W')
    (base : Nat) (ok : Nat → Prop) (v : Value) (l : List S38) (w0 W : World) (ho : Kd.R k38 38 W base ok v l) (hI2 : ∀ W g o vs, v.ownBlock = some g → I W → I (W.setCells g o vs)) (hI : I W) (hB : Below base w0 W) (hbs : base ≤ W.heap.size) :
    Calls Try.prog 50 #[v, .func (.func g0) #[] lb] W (DelBack base ok w0 W v (l.filter fun x => !p x)) := by
  have hu38 := Try.underlying38
  obtain ⟨A, c, rfl⟩ := Kd.R_slice ho
  have hidx := index61 g0 lb p eg A c l W (fun W' x hb => (hp W' x (hI1 W W' hI hb)).mono fun e w' ⟨he, hb'⟩ => ⟨he, below_then hb hb.size hb'⟩) (Kd.R_reads' ho).2.2
  have HIX := Aside0.mk hidx
  clear hidx
  have HO := Aside0.mk ho
  have HB := Aside0.mk hB
  have HS := Aside0.mk hbs
  have HI := Aside0.mk hI
  have HP := Aside0.mk hp
  have HI1 := Aside0.mk hI1
  have HI2 := Aside0.mk hI2
  clear ho hB hbs hI hp hI1 hI2
  rcases idxOf_cases p l z38 with ⟨he, hno⟩ | ⟨k, hk, he, hpk, hno⟩
  · have HE := Aside0.mk he
    have HF := Aside0.mk (filter_all_keep l hno)
    clear he hno
    go_enter Try.func50, Try.ntmps50
    go_wp2_with (go_at_call 61; refine HIX.out.mono ?_; rw [HE.out]; rintro e w1 ⟨rfl, hb⟩; have HB1 := Aside0.mk hb; clear hb)
    go_ret
    rw [HF.out]
    exact ⟨_, rfl, Kd.R_below HO.out HB1.out, below_then HB.out HS.out HB1.out, Kept.of_below HB1.out _, rfl⟩
  · have HE := Aside0.mk he
    have HST := Aside0.mk (DelInv.start hk hpk hno)
    clear he hno hpk
    obtain ⟨g, cap, hv, gb, gl, _⟩ := Kd.R_form HO.out (by omega)
    injection hv with e1 _ e3
    subst e1; subst e3
    obtain ⟨cur, hh, hcs, hnc, _, _, hcm⟩ := R_block HO.out
    have hm : c ≤ 9223372036854775807 := hcm
    have hk1 : ((k : Int) == -1) = false := beq_eq_false_iff_ne.2 (by omega)
    clear hcm hh hcs
    go_enter Try.func50, Try.ntmps50
    go_wp2_with (go_at_call 61; refine HIX.out.mono ?_; rw [HE.out]; rintro e w1 ⟨rfl, hb⟩; have HB1 := Aside0.mk hb; clear hb)
    go_loopg [5, 6, 7] l.length (fun gg s5 s6 _ wr => ∃ (i j : Nat) (d : List S38), s5 = .int .i64 (i : Int) ∧ s6 = .int .i64 (j : Int) ∧ i < j ∧ j ≤ l.length ∧ l.length - j ≤ gg ∧ Aside0 (DelInv p l j i d) ∧ Aside0 (Kd.R k38 38 wr base ok (.slice (some ⟨g, 0, none⟩) l.length c) d) ∧ Aside0 (Below base w0 wr) ∧ Aside0 (Kept W wr (fun k => some g = some k)) ∧ Aside0 (I wr))
    case atStart => exact ⟨k, k + 1, l, rfl, by go_num, by omega, by omega, by omega, HST, ⟨Kd.R_below HO.out HB1.out⟩, ⟨below_then HB.out HS.out HB1.out⟩, ⟨Kept.of_below HB1.out _⟩, ⟨HI1.out _ _ HI.out HB1.out⟩⟩
    case round =>
      obtain ⟨i, j, d, rfl, rfl, hij, hj, hgg, HD, HZ, BZ, KZ, IZ⟩ := hrel
      by_cases hlt : j < l.length
      · have hltz : (j : Int) < (l.length : Int) := by omega
        obtain ⟨hx0, hx1, hx2, _⟩ := cells38 HZ.out j hlt
        obtain ⟨x, hx⟩ : ∃ x, x = d.getD j z38 := ⟨_, rfl⟩
        rw [← hx] at hx0 hx1 hx2
        have HX : Aside0 (l.getD j z38 = x) := ⟨by rw [hx]; exact (HD.out.at hlt).symm⟩
        clear hx
        have hI' := HI1.out _ _ IZ.out (below_alloc (Below.refl _ wr) (.cells #[.int .i64 x.f0, .int .u64 x.f1, .int .u64 x.f2] 38))
        have hcall := HP.out _ x hI'
        have HI' := Aside0.mk hI'
        unfold markV at hcall
        clear hI'
        have BW1 := Aside0.mk (below_alloc (Below.refl _ wr) (.cells #[.int .i64 x.f0, .int .u64 x.f1, .int .u64 x.f2] 38))
        cases hq : p x with
        | true =>
          rw [hq] at hcall
          have HQ := Aside0.mk hq
          clear hq
          go_wp2_with (go_at_fn g0; refine hcall.mono ?_; rintro e w2 ⟨rfl, hb'⟩; have BW2 := Aside0.mk (below_then BW1.out BW1.out.size hb'); have HI2' := Aside0.mk (HI1.out _ _ HI'.out hb'); clear hb')
          go_roundg (l.length - (j + 1))
          case measure => omega
          case rel => exact ⟨i, j + 1, d, rfl, by go_num, by omega, by omega, by omega, ⟨HD.out.skip hlt (by rw [HX.out]; exact HQ.out)⟩, ⟨Kd.R_below HZ.out BW2.out⟩, ⟨below_then BZ.out (Nat.le_trans HS.out KZ.out.1) BW2.out⟩, ⟨kept_below KZ.out BW2.out⟩, HI2'⟩
        | false =>
          rw [hq] at hcall
          have HQ := Aside0.mk hq
          clear hq
          go_wp2_with (go_at_fn g0; refine hcall.mono ?_; rintro e w2 ⟨rfl, hb'⟩; have BW2 := Aside0.mk (below_then BW1.out BW1.out.size hb'); have HI2' := Aside0.mk (HI1.out _ _ HI'.out hb'); have HBX := Aside0.mk (blk_below (blk_new wr (.cells #[.int .i64 x.f0, .int .u64 x.f1, .int .u64 x.f2] 38)) hb'); clear hb'; have hm0 := (blk_cell HBX.out 0).trans rfl; have hm1 := (blk_cell HBX.out 1).trans rfl; have hm2 := (blk_cell HBX.out 2).trans rfl; obtain ⟨hy0, hy1, hy2, hf0, hf1, hf2⟩ := cells38 (Kd.R_below HZ.out BW2.out) i (by omega))
          have HSET := Aside0.mk (set38 (Kd.R_below HZ.out BW2.out) i (by omega) x).1
          have HSB := Aside0.mk (setCells_below (below_then BZ.out (Nat.le_trans HS.out KZ.out.1) BW2.out) g (i * 3) (cells3 x) gb)
          have HSK := Aside0.mk (kept_setCells (kept_below KZ.out BW2.out) g (i * 3) (cells3 x) rfl)
          have HSI := Aside0.mk (HI2.out _ g (i * 3) (cells3 x) rfl HI2'.out)
          go_roundg (l.length - (j + 1))
          case measure => omega
          case rel => exact ⟨i + 1, j + 1, d.set i x, by go_num, by go_num, by omega, by omega, by omega, ⟨by have := HD.out.keep hlt (by rw [HX.out]; exact HQ.out); rwa [HX.out] at this⟩, ⟨HSET.out⟩, ⟨HSB.out⟩, ⟨HSK.out⟩, ⟨HSI.out⟩⟩
      · obtain rfl : j = l.length := by omega
        have hcl := fun ty => clear38 HZ.out i (l.length - i) (c - i) (by omega) (by omega) ty
        have HFR : Aside0 (d.take i = l.filter fun x => !p x) := ⟨by rw [HD.out.front, List.take_length]⟩
        have HDL := Aside0.mk HD.out.len
        go_wp2
        go_ret
        refine ⟨_, rfl, ?_, setCells_below BZ.out _ _ _ gb, kept_setCells KZ.out g _ _ rfl, rfl⟩
        rw [← HFR.out]
        exact spare38 (Kd.R_take HZ.out (by rw [HDL.out]; omega)) (i * 3) (Nat.le_refl _) _

end Go.Proofs.Ytokhckbjdpgkfaa.P
