/- slices.SortFunc over marks with the fold's order: what the call leaves of any row in which no producer stands twice: the row sorted by producers. -/
import Derived.Test.YtokhckbjdpgkfaaGk
import Derived.Test.YtokhckbjdpgkfaaQ1
import Derived.Test.YtokhckbjdpgkfaaSl
import Derived.Shelf.Abstract
import Derived.Deep.Draws
namespace Go.Proofs.Ytokhckbjdpgkfaa.P
set_option linter.unusedVariables false
set_option linter.unusedSimpArgs false
open Go.RowKit Go.Sort Go.Shelf Go.Proofs.YtokhckbjdpgkfaaW.PrintWords Go.Proofs.YtokhckbjdpgkfaaW.PrintLast

instance : Inhabited S38 := ⟨z38⟩
/-- Two numbers, compared. -/
def cmpI (a b : Int) : Int := if a < b then -1 else if a > b then 1 else 0

set_option maxHeartbeats 2000000 in
theorem isNaN66 (a : Int) (w : World) : Calls Try.prog 66 #[.int .i64 a] w fun e w' => e = .returned (.bool false) ∧ w' = w := by
  have hne : (a != a) = false := bne_self_eq_false a
  go_enter Try.func66, Try.ntmps66
  go_wp2
  go_ret
  exact ⟨rfl, rfl⟩

set_option maxHeartbeats 4000000 in
theorem cmp56 (a b : Int) (w : World) : Calls Try.prog 56 #[.int .i64 a, .int .i64 b] w fun e w' => e = .returned (.int .i64 (cmpI a b)) ∧ w' = w := by
  unfold cmpI
  by_cases h1 : a < b
  · rw [if_pos h1]
    have h1' : decide (a < b) = true := decide_eq_true h1
    clear h1
    go_enter Try.func56, Try.ntmps56
    go_wp2_with (go_at_call 66; refine (isNaN66 _ _).mono ?_; rintro e w' ⟨rfl, rfl⟩)
    go_ret
    exact ⟨rfl, rfl⟩
  · rw [if_neg h1]
    have h1' : decide (a < b) = false := decide_eq_false h1
    clear h1
    by_cases h2 : a > b
    · rw [if_pos h2]
      have h2' : decide (b < a) = true := decide_eq_true h2
      clear h2
      go_enter Try.func56, Try.ntmps56
      go_wp2_with (go_at_call 66; refine (isNaN66 _ _).mono ?_; rintro e w' ⟨rfl, rfl⟩)
      go_ret
      exact ⟨rfl, rfl⟩
    · rw [if_neg h2]
      have h2' : decide (b < a) = false := decide_eq_false h2
      clear h2
      go_enter Try.func56, Try.ntmps56
      go_wp2_with (go_at_call 66; refine (isNaN66 _ _).mono ?_; rintro e w' ⟨rfl, rfl⟩)
      go_ret
      exact ⟨rfl, rfl⟩

set_option maxHeartbeats 4000000 in
theorem closure55 (x y : S38) (W : World) : Calls Try.prog 55 #[.agg #[.int .i64 x.f0, .int .u64 x.f1, .int .u64 x.f2], .agg #[.int .i64 y.f0, .int .u64 y.f1, .int .u64 y.f2]] W fun e w' => e = .returned (.int .i64 (cmpI x.f0 y.f0)) ∧ ∃ q os', w' = grow (W.drewN q) os' := by
  have hu38 := Try.underlying38
  go_enter Try.func55, Try.ntmps55
  go_wp2_with (go_at_call 56; refine (cmp56 _ _ _).mono ?_; rintro e w' ⟨rfl, rfl⟩)
  go_ret
  exact ⟨rfl, 0, _, by rw [alloc_eq_grow, alloc_eq_grow, grow_grow]; rfl⟩

/-! the sorted row, in plain words -/
theorem rowUp_mem_ext {a b : List S38} (ha : RowUp a) (hb : RowUp b) (h : ∀ m, m ∈ a ↔ m ∈ b) : a = b :=
  rowUp_ext ha hb fun p => by
    cases hp : getM a p with
    | some m =>
      obtain ⟨h1, h2⟩ := getM_some hp
      rw [← h2]
      exact (getM_mem hb ((h m).1 h1)).symm
    | none => exact (getM_none.2 (fun x hx => getM_none.1 hp x ((h x).2 hx))).symm
/-- No producer stands twice. -/
def Apart1 (l : List S38) : Prop := l.Pairwise fun a b => a.f0 ≠ b.f0
theorem putBy_mem {m x : S38} : ∀ {l : List S38}, x ∈ putBy m l ↔ x = m ∨ x ∈ l
  | [] => by simp [putBy]
  | y :: r => by
    unfold putBy
    split
    · simp
    · rw [List.mem_cons, putBy_mem, List.mem_cons]
      constructor
      · rintro (h | h | h)
        · exact .inr (.inl h)
        · exact .inl h
        · exact .inr (.inr h)
      · rintro (h | h | h)
        · exact .inr (.inl h)
        · exact .inl h
        · exact .inr (.inr h)
theorem putBy_up {m : S38} : ∀ {l : List S38}, RowUp l → (∀ x ∈ l, x.f0 ≠ m.f0) → RowUp (putBy m l)
  | [], _, _ => by simp [putBy, RowUp]
  | y :: r, h, hm => by
    obtain ⟨h1, h2⟩ := rowUp_cons.1 h
    unfold putBy
    split
    · rename_i c
      refine rowUp_cons.2 ⟨fun x hx => ?_, h⟩
      rcases List.mem_cons.1 hx with rfl | hx
      · exact c
      · have := h1 x hx
        omega
    · rename_i c
      have hy := hm y (by simp)
      refine rowUp_cons.2 ⟨fun x hx => ?_, putBy_up h2 (fun x hx => hm x (List.mem_cons_of_mem _ hx))⟩
      rcases putBy_mem.1 hx with rfl | hx
      · omega
      · exact h1 x hx
theorem sortBy_mem {x : S38} : ∀ {l : List S38}, x ∈ sortBy l ↔ x ∈ l
  | [] => Iff.rfl
  | y :: r => by
    unfold sortBy
    rw [putBy_mem, sortBy_mem, List.mem_cons]
theorem sortBy_up : ∀ {l : List S38}, Apart1 l → RowUp (sortBy l)
  | [], _ => List.Pairwise.nil
  | y :: r, h => by
    obtain ⟨h1, h2⟩ := List.pairwise_cons.1 h
    unfold sortBy
    exact putBy_up (sortBy_up h2) (fun x hx e => h1 x (sortBy_mem.1 hx) e.symm)
theorem putBy_length (m : S38) : ∀ l : List S38, (putBy m l).length = l.length + 1
  | [] => rfl
  | y :: r => by
    unfold putBy
    split
    · rfl
    · rw [List.length_cons, putBy_length m r, List.length_cons]
theorem sortBy_length : ∀ l : List S38, (sortBy l).length = l.length
  | [] => rfl
  | y :: r => by
    unfold sortBy
    rw [putBy_length, sortBy_length r, List.length_cons]
/-- Any row that has the same marks, none of them below one ahead of it, is the sorted one. -/
theorem sortBy_of_perm {xs ys : List S38} (hx : Apart1 xs) (hp : ys.Perm xs) (hs : ∀ i j, i < j → j < ys.length → ¬ (ys.getD j z38).f0 < (ys.getD i z38).f0) : ys = sortBy xs := by
  have hd : Apart1 ys := hp.symm.pairwise hx (fun h => h.symm)
  refine rowUp_mem_ext ?_ (sortBy_up hx) (fun m => by rw [sortBy_mem, hp.mem_iff])
  refine List.pairwise_iff_getElem.2 (fun i j hi hj hij => ?_)
  have h1 := hs i j hij hj
  have h2 := List.pairwise_iff_getElem.1 hd i j hi hj hij
  rw [List.getD_eq_getElem?_getD, List.getD_eq_getElem?_getD, List.getElem?_eq_getElem hi, List.getElem?_eq_getElem hj] at h1
  simp only [Option.getD_some] at h1
  omega

/-! the sorting world -/
theorem flat_get (ys : List S38) (t : Nat) (ht : t < ys.length * 3) : (flatK cells3 3 ys.toArray)[t]! = (encM ys)[t]! := by
  rw [get_flatK _ _ _ t (by simpa using ht)]
  have hj : t / 3 < ys.length := by omega
  have hc := encM_chunk ys (t / 3) ys[t / 3] (List.getElem?_eq_getElem hj)
  have e1 : ys.toArray[t / 3]! = ys[t / 3] := by
    rw [getElem!_pos ys.toArray (t / 3) (by simpa using hj)]
    simp
  rw [e1, ← hc]
  have hm : t % 3 < 3 := Nat.mod_lt _ (by omega)
  rw [List.getElem!_eq_getElem?_getD, List.getElem!_eq_getElem?_getD, List.getElem?_take, if_pos hm, List.getElem?_drop]
  congr 2
  omega
theorem put_owns {w : World} {base g n cap : Nat} {xs ys : List S38} (h : w.ownsRow base 38 3 (.slice (some ⟨g, 0, none⟩) n cap) n (encM xs)) (hy : ys.length = n) (m : Nat) (os : Array Obj) :
    (sortWorldK cells3 3 w g 0 m ys.toArray os).ownsRow base 38 3 (.slice (some ⟨g, 0, none⟩) n cap) n (encM ys) ∧ Below base w (sortWorldK cells3 3 w g 0 m ys.toArray os) := by
  rcases h.2 with ⟨h', _⟩ | ⟨g', cap', cur, h', hb, hg, hnc, hcm, hcs, htake⟩
  · cases h'
  cases h'
  have hlt : g < w.heap.size := (Array.getElem?_eq_some_iff.1 hg).1
  have hheap : (sortWorldK cells3 3 w g 0 m ys.toArray os).heap = w.heap.modify g (onCells (putCells id 0 (flatK cells3 3 ys.toArray))) ++ os := rfl
  have hnew : (sortWorldK cells3 3 w g 0 m ys.toArray os).heap[g]? = some (.cells (putCells id 0 (flatK cells3 3 ys.toArray) cur) 38 (0, 0)) := by
    rw [hheap, Array.getElem?_append, if_pos (by simpa using hlt), Array.getElem?_modify, if_pos rfl, hg]
    rfl
  refine ⟨⟨by rw [encM_length, hy], .inr ⟨g, cap, _, rfl, hb, hnew, hnc, hcm, by rw [← hcs]; simp [putCells], ?_⟩⟩, rfl, rfl, rfl, ?_, fun k hk => ?_⟩
  · apply List.ext_getElem?
    intro t
    rw [List.getElem?_take]
    by_cases ht : t < n * 3
    · rw [if_pos ht]
      have ht2 : t < cur.size := by rw [hcs]; exact Nat.lt_of_lt_of_le ht (Nat.mul_le_mul_right 3 hnc)
      have ht3 : t < (encM ys).length := by rw [encM_length, hy]; exact ht
      have hf := flat_get ys t (by rw [hy]; exact ht)
      rw [List.getElem?_eq_getElem ht3, Array.getElem?_toList]
      unfold putCells
      rw [Array.getElem?_mapIdx, Array.getElem?_eq_getElem ht2]
      simp only [Option.map_some, Nat.zero_le, true_and, size_flatK, List.size_toArray, hy, Nat.zero_add, Nat.sub_zero, if_pos ht, hf, id]
      rw [getElem!_pos (encM ys) t ht3]
    · rw [if_neg ht]
      symm
      rw [List.getElem?_eq_none]
      rw [encM_length, hy]
      omega
  · rw [hheap, Array.size_append, Array.size_modify]
    omega
  · rw [hheap, Array.getElem?_append, if_pos (by rw [Array.size_modify]; omega), Array.getElem?_modify, if_neg (by omega)]

theorem swo38 : SWO (ltOf fun x y : S38 => cmpI x.f0 y.f0) := by
  have e : ∀ x y : S38, ltOf (fun x y : S38 => cmpI x.f0 y.f0) x y = decide (x.f0 < y.f0) := fun x y => by
    unfold ltOf cmpI
    by_cases h1 : x.f0 < y.f0
    · simp [h1]
    · by_cases h2 : x.f0 > y.f0 <;> simp [h1, h2]
  exact ⟨fun x => by rw [e]; simp, fun x y z h1 h2 => by rw [e] at *; simp at *; omega, fun x y z h1 h2 => by rw [e] at *; simp at *; omega⟩
theorem lt38 (x y : S38) : ltOf (fun x y : S38 => cmpI x.f0 y.f0) x y = decide (x.f0 < y.f0) := by
  unfold ltOf cmpI
  by_cases h1 : x.f0 < y.f0
  · simp [h1]
  · by_cases h2 : x.f0 > y.f0 <;> simp [h1, h2]

theorem holds38 {w : World} {base g n cap : Nat} {ok : Nat → Prop} {xs : List S38} (HO : Kd.R k38 38 w base ok (.slice (some ⟨g, 0, none⟩) n cap) xs) : HoldsK cells3 3 w g 0 xs.toArray := by
  intro j hj
  rw [size_flatK] at hj
  have hj' : j < xs.length * 3 := by simpa using hj
  have hn := (Kd.R_reads' HO).1
  have ho := R_owns HO
  rw [← hn] at ho
  have h3 : j < (encM xs).length := by rw [encM_length]; exact hj'
  refine ⟨?_, ho.frozenAt _⟩
  rw [flat_get xs j hj', getElem!_pos (encM xs) j h3, Nat.zero_add]
  exact R_cells HO j _ (List.getElem?_eq_getElem h3)

set_option maxHeartbeats 2000000 in
theorem sort54 {base g n cap : Nat} {ok : Nat → Prop} {xs : List S38} (w : World) (HO : Kd.R k38 38 w base ok (.slice (some ⟨g, 0, none⟩) n cap) xs) (hlen : n ≤ 5864062014805) (hd : Apart1 xs) :
    Calls Try.prog 54 #[.slice (some ⟨g, 0, none⟩) n cap, .func (.func 55) #[] #[]] w fun e w' => e = .returned (.tuple #[]) ∧ Kd.R k38 38 w' base ok (.slice (some ⟨g, 0, none⟩) n cap) (sortBy xs) ∧ Go.RowKit.Below base w w' := by
  have hn := (Kd.R_reads' HO).1
  obtain ⟨cur, hblk, _⟩ := R_block HO
  have hlt : g < w.heap.size := (Array.getElem?_eq_some_iff.1 hblk).1
  have hsz : xs.toArray.size = n := by rw [hn]; simp
  have eg : ∀ args w, (callFunc 55 args).run Try.prog w = .ok (.enter 55 args) w := enters_of Try.func55 (by kernel_rfl) rfl
  have hcmp : CmpLays Try.prog 55 #[] cells3 3 (fun x y : S38 => cmpI x.f0 y.f0) g 0 xs.toArray.size w := fun _ _ _ _ x y => closure55 x y _
  have hcon := AnyQ.slices_SortFunc sortMarks 3 Try.isAgg38 Try.sizeOf38 cells3 (fun _ => rfl) (fun x v hv => by
    simp [cells3] at hv
    rcases hv with rfl | rfl | rfl <;> rfl) (fun x y : S38 => cmpI x.f0 y.f0) swo38 55 #[] g 0 cap xs.toArray w eg hcmp (holds38 HO) hlt (by rw [hsz]; omega)
  rw [hsz] at hcon
  change Calls Try.prog 54 _ _ _ at hcon
  refine hcon.mono ?_
  rintro e w' ⟨rfl, d', m, os, ⟨hp1, hp2, hp3⟩, hs, rfl⟩
  have hd' : d'.size = n := hp1.trans hsz
  have hperm : d'.toList.Perm xs := by
    have e1 : d'.extract 0 n = d' := by rw [← hd']; exact Array.extract_size
    have e2 : xs.toArray.extract 0 n = xs.toArray := by rw [← hsz]; exact Array.extract_size
    rw [e1, e2] at hp3
    exact hp3
  have hsorted : d'.toList = sortBy xs := by
    refine sortBy_of_perm hd hperm (fun i j hij hj => ?_)
    have hj' : j < n := by rw [← hd']; simpa using hj
    have := hs i j (Nat.zero_le _) hij hj'
    rw [lt38] at this
    have h2 := of_decide_eq_false this
    rw [getElem!_pos d' i (by omega), getElem!_pos d' j (by omega)] at h2
    rw [List.getD_eq_getElem?_getD, List.getD_eq_getElem?_getD, List.getElem?_eq_getElem (by simp; omega), List.getElem?_eq_getElem (by simp; omega)]
    simpa using h2
  have ho := R_owns HO
  rw [← hn] at ho
  have hq := put_owns ho (show (sortBy xs).length = n by rw [sortBy_length]; exact hn.symm) m os
  have hdl : (sortBy xs).toArray = d' := by rw [← hsorted]
  rw [hdl] at hq
  refine ⟨rfl, R_of_owns ?_ (fun k hk => HO.1 k hk), hq.2⟩
  rw [sortBy_length, ← hn]
  exact hq.1
theorem sort54_none (p : Option Addr) (cap : Nat) (w : World) :
    Calls Try.prog 54 #[.slice p 0 cap, .func (.func 55) #[] #[]] w fun e w' => e = .returned (.tuple #[]) ∧ w' = w :=
  AnyF.slices_SortFunc_none sortMarks p cap _ w

end Go.Proofs.Ytokhckbjdpgkfaa.P
