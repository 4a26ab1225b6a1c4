/- Rows of marks of a call's own: an element set, the rest cleared, as laws of the worlds. -/
import Derived.Test.YtokhckbjdpgkfaaGi
import Derived.ArgAppend
namespace Go.Proofs.Ytokhckbjdpgkfaa.P
set_option linter.unusedVariables false
set_option linter.unusedSimpArgs false
open Go.RowKit Go.Proofs.YtokhckbjdpgkfaaW.PrintWords Go.Proofs.YtokhckbjdpgkfaaW.PrintLast Go.Proofs.YtokhckbjdpgkfaaW.PrintMore

theorem k38_sz : k38.sz = 3 := rfl
def cells3 (x : S38) : List Value := [.int .i64 x.f0, .int .u64 x.f1, .int .u64 x.f2]

theorem set38 {W : World} {base g n cap : Nat} {ok : Nat → Prop} {xs : List S38} (HO : Kd.R k38 38 W base ok (.slice (some ⟨g, 0, none⟩) n cap) xs) (j : Nat) (hj : j < n) (x : S38) :
    Kd.R k38 38 (W.setCells g (j * 3) (cells3 x)) base ok (.slice (some ⟨g, 0, none⟩) n cap) (xs.set j x) ∧ W.grownBy (W.setCells g (j * 3) (cells3 x)) (some g) := by
  obtain ⟨c, hcl, hM, hcc, hfr⟩ := Kd.R_elem HO z38 (j : Int) (by omega) (by omega)
  obtain rfl := k38_openM hM
  have := Kd.R_seg HO (j : Int) (by omega) (by omega) (seg := cells3 x) (j := 0) hcl hcc (show 3 ≤ 3 from by decide) (x' := x) (k38_mkM _ _ _ x) (fun _ hk => hk)
  simpa [k38_sz] using this

theorem cells38 {W : World} {base g n cap : Nat} {ok : Nat → Prop} {xs : List S38} (HO : Kd.R k38 38 W base ok (.slice (some ⟨g, 0, none⟩) n cap) xs) (j : Nat) (hj : j < n) :
    W.cell? ⟨g, j * 3, none⟩ = some (.int .i64 (xs.getD j z38).f0) ∧ W.cell? ⟨g, j * 3 + 1, none⟩ = some (.int .u64 (xs.getD j z38).f1) ∧ W.cell? ⟨g, j * 3 + 2, none⟩ = some (.int .u64 (xs.getD j z38).f2) ∧ W.frozen? ⟨g, j * 3, none⟩ = false ∧ W.frozen? ⟨g, j * 3 + 1, none⟩ = false ∧ W.frozen? ⟨g, j * 3 + 2, none⟩ = false := by
  obtain ⟨c, hcl, hM, hcc, hfr⟩ := Kd.R_elem HO z38 (j : Int) (by omega) (by omega)
  obtain rfl := k38_openM hM
  exact ⟨by simpa [k38_sz] using hcc 0 _ rfl, by simpa [k38_sz] using hcc 1 _ rfl, by simpa [k38_sz] using hcc 2 _ rfl, by simpa [k38_sz] using hfr 0, by simpa [k38_sz] using hfr 1, by simpa [k38_sz] using hfr 2⟩

theorem setCells_below {base : Nat} {w0 W : World} (h : Below base w0 W) (g o : Nat) (vs : List Value) (hg : base ≤ g) : Below base w0 (W.setCells g o vs) := by
  induction vs generalizing W o with
  | nil => exact h
  | cons v r ih => exact ih (h.setCell (p := ⟨g, o, none⟩) hg v) (o + 1)

theorem setCells_size (g : Nat) (vs : List Value) : ∀ (W : World) (o : Nat), (W.setCells g o vs).heap.size = W.heap.size := by
  induction vs with
  | nil => intro W o; rfl
  | cons v r ih => intro W o; rw [World.setCells, ih]; simp [World.setCell]

/-- The row's own block, opened. -/
theorem R_block {W : World} {base g n cap : Nat} {ok : Nat → Prop} {xs : List S38} (HO : Kd.R k38 38 W base ok (.slice (some ⟨g, 0, none⟩) n cap) xs) :
    ∃ cur, W.heap[g]? = some (.cells cur 38 (0, 0)) ∧ cur.size = cap * 3 ∧ n ≤ cap ∧ base ≤ g ∧ xs.length = n ∧ cap ≤ maxLen := by
  obtain ⟨inner, ho⟩ := Kd.R_own HO
  have hn := (Kd.R_reads' HO).1
  rcases ho.2 with ⟨h, _⟩ | ⟨g', cap', cur, h, hb, hh, h1, h2, h3, _⟩
  · cases h
  · injection h with e1 e2 e3
    injection e1 with e1
    injection e1 with e1
    subst e1; subst e3
    exact ⟨cur, hh, h3, by omega, hb, hn.symm, h2⟩

theorem heap_setCells (g : Nat) (t : TypeId) (fz : Nat × Nat) : ∀ (vs : List Value) (o : Nat) (cur : Array Value) (W : World), W.heap[g]? = some (.cells cur t fz) → ∃ cur', (W.setCells g o vs).heap[g]? = some (.cells cur' t fz) ∧ cur'.size = cur.size ∧ ∀ i, i < o → cur'[i]? = cur[i]?
  | [], o, cur, W, h => ⟨cur, h, rfl, fun _ _ => rfl⟩
  | v :: r, o, cur, W, h => by
    have h1 : (W.setCell ⟨g, o, none⟩ v).heap[g]? = some (.cells (cur.setIfInBounds o v) t fz) := by
      simp [World.setCell, Array.getElem?_modify, h]
    obtain ⟨cur', h2, h3, h4⟩ := heap_setCells g t fz r (o + 1) _ _ h1
    refine ⟨cur', h2, by simpa using h3, fun i hi => ?_⟩
    rw [h4 i (by omega), Array.getElem?_setIfInBounds_ne (by omega)]

/-- What is written behind a row's elements leaves the row. -/
theorem spare38 {W : World} {base g n cap : Nat} {ok : Nat → Prop} {xs : List S38} (HO : Kd.R k38 38 W base ok (.slice (some ⟨g, 0, none⟩) n cap) xs) (o : Nat) (ho : n * 3 ≤ o) (vs : List Value) :
    Kd.R k38 38 (W.setCells g o vs) base ok (.slice (some ⟨g, 0, none⟩) n cap) xs := by
  obtain ⟨h0, inner, hown, hrep⟩ := HO
  refine ⟨h0, inner, ⟨hown.1, ?_⟩, ?_⟩
  · rcases hown.2 with ⟨h, h'⟩ | ⟨g', cap', cur, h, hb, hh, h1, h2, h3, h4⟩
    · cases h
    · injection h with e1 e2 e3
      injection e1 with e1
      injection e1 with e1
      subst e1; subst e3
      obtain ⟨cur', k1, k2, k3⟩ := heap_setCells g 38 (0, 0) vs o cur W hh
      refine .inr ⟨g, cap, cur', by rw [e2], hb, k1, h1, h2, by rw [k2, h3], ?_⟩
      rw [← h4]
      have hnn : xs.length * k38.sz ≤ o := by
        have : k38.sz = 3 := rfl
        rw [this, ← e2]
        exact ho
      apply List.ext_getElem?
      intro i
      rw [List.getElem?_take, List.getElem?_take]
      split
      · have := k3 i (by omega)
        simpa using this
      · rfl
  · refine hrep.imp_ (fun p c hp => ?_)
    have e := k38_openM hp
    subst e
    exact k38_mkM _ _ _ p

theorem zeros3 (m : Nat) : (Builtin.zeroCells #[.int .i64 0, .int .u64 0, .int .u64 0] m).size = m * 3 ∧ ∀ v ∈ (Builtin.zeroCells #[.int .i64 0, .int .u64 0, .int .u64 0] m).toList, v.oneCell' = true := by
  unfold Builtin.zeroCells
  refine ⟨by simp, fun v hv => ?_⟩
  simp only [Array.toList_map, List.mem_map, Array.toList_range] at hv
  obtain ⟨i, _, rfl⟩ := hv
  have : i % 3 < 3 := Nat.mod_lt _ (by decide)
  simp only [List.size_toArray, List.length_cons, List.length_nil, Nat.zero_add, Nat.reduceAdd]
  generalize i % 3 = j at this
  match j, this with
  | 0, _ => rfl
  | 1, _ => rfl
  | 2, _ => rfl

def zeros38 (m : Nat) : List Value := (Builtin.zeroCells #[.int .i64 0, .int .u64 0, .int .u64 0] m).toList

/-- clear(s[i:]): the run. -/
theorem clear38 {W : World} {base g n cap : Nat} {ok : Nat → Prop} {xs : List S38} (HO : Kd.R k38 38 W base ok (.slice (some ⟨g, 0, none⟩) n cap) xs) (i m c : Nat) (hm : 0 < m) (him : i + m ≤ n) (ty : TypeId) :
    (Builtin.clear_ #[25] ty #[.slice (some ⟨g, i * 3, none⟩) m c]).run Try.prog W = .ok (.tuple #[]) (W.setCells g (i * 3) (zeros38 m)) := by
  obtain ⟨cur, hh, hs, hnc, _⟩ := R_block HO
  obtain ⟨z1, z2⟩ := zeros3 m
  have hst := run_storeCells_cells (P := Try.prog) g (i * 3) (zeros38 m) 0 W (fun j hj => by
      rw [cell_of_row W g _ cur 38 (0, 0) hh]
      have : j < m * 3 := by simpa [zeros38, z1] using hj
      simp; omega) (fun j _ => blk_frozen hh _) (fun v hv => z2 v hv)
  simp only [Nat.add_zero] at hst
  obtain ⟨k, rfl⟩ : ∃ k, m = k + 1 := ⟨m - 1, by omega⟩
  have hv : ∀ w, (zeroValue 38).run Try.prog w = .ok (.agg #[.int .i64 0, .int .u64 0, .int .u64 0]) w := fun w => by kernel_rfl
  have ht : Try.prog.underlying 25 = some (.slice 38) := Try.underlying25
  have hz : (Builtin.zeroCells (Value.cells (.agg #[.int .i64 0, .int .u64 0, .int .u64 0])) (k + 1)).toList = zeros38 (k + 1) := rfl
  simp [Builtin.clear_, run_underlying ht, hv, hz, hst]

/-! ### the cells of a row of marks -/
def encM (xs : List S38) : List Value := xs.flatMap cells3
theorem encM_length (xs : List S38) : (encM xs).length = xs.length * 3 := by
  induction xs with
  | nil => rfl
  | cons x r ih => simp only [encM, List.flatMap_cons, List.length_append] at ih ⊢; rw [ih]; simp [cells3]; omega
theorem encM_append (xs ys : List S38) : encM (xs ++ ys) = encM xs ++ encM ys := List.flatMap_append
theorem encM_one (xs : List S38) : ∀ u ∈ encM xs, u.oneCell' = true := by
  intro u hu
  obtain ⟨x, _, hx⟩ := List.mem_flatMap.1 hu
  simp only [cells3, List.mem_cons, List.not_mem_nil, or_false] at hx
  rcases hx with rfl | rfl | rfl <;> rfl
theorem encM_chunk (xs : List S38) : ∀ j p, xs[j]? = some p → ((encM xs).drop (j * 3)).take 3 = cells3 p := by
  induction xs with
  | nil => intro j p h; simp at h
  | cons x r ih =>
    intro j p h
    cases j with
    | zero =>
      obtain rfl : x = p := by simpa using h
      simp [encM, cells3]
    | succ j =>
      have := ih j p (by simpa using h)
      rw [← this]
      have e : encM (x :: r) = cells3 x ++ encM r := rfl
      rw [e, show (j + 1) * 3 = 3 + j * 3 from by omega, ← List.drop_drop]
      congr 1
theorem reps_enc {R : S38 → List Value → Prop} (hR : ∀ x c, R x c → c = cells3 x) : ∀ (xs : List S38) (inner : List Value), Reps R 3 xs inner → inner = encM xs
  | [], inner, h => by
    have := h.1
    simpa [encM] using this
  | x :: r, inner, h => by
    have h0 := hR _ _ (h.2 0 x rfl)
    simp only [Nat.zero_mul, List.drop_zero] at h0
    have hr : Reps R 3 r (inner.drop 3) := ⟨by rw [List.length_drop, h.1]; simp; omega, fun j p hj => by
      have := h.2 (j + 1) p (by simpa using hj)
      rwa [show (j + 1) * 3 = 3 + j * 3 from by omega, ← List.drop_drop] at this⟩
    have := reps_enc hR r _ hr
    rw [← List.take_append_drop 3 inner, h0, this]
    rfl
theorem reps_of_enc {R : S38 → List Value → Prop} (hR : ∀ x, R x (cells3 x)) (xs : List S38) : Reps R 3 xs (encM xs) :=
  ⟨encM_length xs, fun j p hj => by rw [encM_chunk xs j p hj]; exact hR p⟩
theorem R_owns {W : World} {base : Nat} {ok : Nat → Prop} {v : Value} {xs : List S38} (h : Kd.R k38 38 W base ok v xs) : W.ownsRow base 38 3 v xs.length (encM xs) := by
  obtain ⟨_, inner, ho, hr⟩ := h
  have := reps_enc (fun x c hc => k38_openM hc) xs inner hr
  rw [this] at ho
  exact ho
theorem R_of_owns {W : World} {base : Nat} {ok : Nat → Prop} {v : Value} {xs : List S38} (h : W.ownsRow base 38 3 v xs.length (encM xs)) (hok : ∀ k, v.ownBlock = some k → ok k) : Kd.R k38 38 W base ok v xs :=
  ⟨hok, encM xs, h, reps_of_enc (fun x => k38_mkM _ _ _ x) xs⟩
theorem R_cells {W : World} {base g n cap : Nat} {ok : Nat → Prop} {xs : List S38} (HO : Kd.R k38 38 W base ok (.slice (some ⟨g, 0, none⟩) n cap) xs) (j : Nat) (u : Value) (hu : (encM xs)[j]? = some u) : W.cell? ⟨g, j, none⟩ = some u :=
  by have := (R_owns HO).cells (g := g) rfl j u hu
     rwa [add_plain] at this

theorem encM_get_append_right {xs ys : List S38} {j : Nat} {u : Value} (h : (encM ys)[j]? = some u) : (encM (xs ++ ys))[xs.length * 3 + j]? = some u := by
  rw [encM_append, List.getElem?_append_right (by rw [encM_length]; omega), encM_length]
  simpa using h
theorem encM_get_append_left {xs ys : List S38} {j : Nat} {u : Value} (h : (encM xs)[j]? = some u) : (encM (xs ++ ys))[j]? = some u := by
  rw [encM_append, List.getElem?_append_left (List.getElem?_eq_some_iff.1 h).1]
  exact h

/-- append onto a slice that has no room: a row of the call's own. -/
theorem app38 (W : World) (b : Addr) (n cap : Nat) (olds : List S38) (ad : Addr) (m c : Nat) (news : List S38) (ho : olds.length = n) (hn : news.length = m)
    (hco : ∀ j u, (encM olds)[j]? = some u → W.cell? (b.add j) = some u) (hcn : ∀ j u, (encM news)[j]? = some u → W.cell? (ad.add j) = some u) (hfull : cap < n + m) (hb : n + m ≤ 5864062014805) (ty : TypeId) :
    ∃ v w1, (Builtin.append_ #[25, 25] ty #[.slice (some b) n cap, .slice (some ad) m c]).run Try.prog W = .ok v w1 ∧ Kd.R k38 38 w1 W.heap.size (fun _ => True) v (olds ++ news) ∧ W.grownBy w1 none := by
  obtain ⟨i0, hi, hzz⟩ := Option.map_eq_some_iff.1 info38
  simp only [Prod.mk.injEq] at hzz
  obtain ⟨hz0, hz1, hz2⟩ := hzz
  obtain ⟨v, w1, hrun, hown, hg⟩ := run_append_arg_grows (P := Try.prog) W 25 ty 38 i0 _ 3 24 Try.underlying25 hi hz0 hz1 hz2 rfl (by decide) b n cap (encM olds) (by rw [encM_length, ho]) hco ad m c (encM news) (by rw [encM_length, hn]) hcn hfull (by unfold maxLen; omega) (by omega)
  refine ⟨v, w1, hrun, R_of_owns (by rw [encM_append, List.length_append, ho, hn]; exact hown) (fun _ _ => trivial), hg⟩

theorem below_grownBy {B : Nat} {w0 W w1 : World} (h : Below B w0 W) (hb : B ≤ W.heap.size) (hg : W.grownBy w1 none) : Below B w0 w1 := h.grown hg hb (fun k e => by cases e)

/-- append(l[:i:i], append([]T{x}, l[i:]...)...) where something stands behind i. -/
theorem ins_some {w3 : World} {base g n c i : Nat} {ok : Nat → Prop} {cur : List S38} (x : S38) (HO : Kd.R k38 38 w3 base ok (.slice (some ⟨g, 0, none⟩) n c) cur) (hi : i < n) (hlim : n ≤ 5864062014800) :
    ∃ g1 cap1 w4 v2 w5,
      (Builtin.append_ #[25, 25] 25 #[.slice (some ⟨w3.heap.size, 0, none⟩) 1 1, .slice (some ⟨g, i * 3, none⟩) (n - i) (c - i)]).run Try.prog (w3.alloc (.cells #[.int .i64 x.f0, .int .u64 x.f1, .int .u64 x.f2] 38)).drew = .ok (.slice (some ⟨g1, 0, none⟩) (n - i + 1) cap1) w4 ∧
      (Builtin.append_ #[25, 25] 25 #[.slice (some ⟨g, 0, none⟩) i i, .slice (some ⟨g1, 0, none⟩) (n - i + 1) cap1]).run Try.prog w4 = .ok v2 w5 ∧
      (∀ B, B ≤ w3.heap.size → Kd.R k38 38 w5 B (fun _ => True) v2 (cur.take i ++ ([x] ++ cur.drop i))) ∧ (∀ B w0, Below B w0 w3 → B ≤ w3.heap.size → Below B w0 w5) := by
  have hn : n = cur.length := (Kd.R_reads' HO).1
  have hl : g < w3.heap.size := by obtain ⟨cur', h, _⟩ := R_block HO; exact blk_lt h
  have hcell : ∀ j u, (encM cur)[j]? = some u → w3.cell? ⟨g, j, none⟩ = some u := R_cells HO
  have hW1 : Below w3.heap.size w3 (w3.alloc (.cells #[.int .i64 x.f0, .int .u64 x.f1, .int .u64 x.f2] 38)).drew := below_drew (below_alloc (Below.refl _ _) _)
  have hbox : (w3.alloc (.cells #[.int .i64 x.f0, .int .u64 x.f1, .int .u64 x.f2] 38)).drew.heap[w3.heap.size]? = some (.cells #[.int .i64 x.f0, .int .u64 x.f1, .int .u64 x.f2] 38 (0, 0)) := blk_new w3 _
  generalize (w3.alloc (.cells #[.int .i64 x.f0, .int .u64 x.f1, .int .u64 x.f2] 38)).drew = W1 at hW1 hbox ⊢
  obtain ⟨v1, w4, hr1, hR1, hg1⟩ := app38 W1 ⟨w3.heap.size, 0, none⟩ 1 1 [x] ⟨g, i * 3, none⟩ (n - i) (c - i) (cur.drop i) rfl (by rw [List.length_drop, hn])
    (fun j u hu => by rw [add_plain, blk_cell hbox]; simpa [encM, cells3] using hu)
    (fun j u hu => by
      have e : (⟨g, i * 3, none⟩ : Addr).add j = ⟨g, i * 3 + j, none⟩ := by unfold Addr.add; split <;> simp_all
      rw [e, hW1.cell (p := ⟨g, i * 3 + j, none⟩) hl]
      apply hcell
      have := encM_get_append_right (xs := cur.take i) hu
      rw [List.take_append_drop, List.length_take, Nat.min_eq_left (by omega)] at this
      exact this) (by omega) (by omega) 25
  obtain ⟨g1, cap1, rfl, gb1, gl1, _⟩ := Kd.R_form hR1 (by simp)
  have hW4 : Below w3.heap.size w3 w4 := below_grownBy hW1 hW1.size hg1
  have hlen : ([x] ++ cur.drop i).length = n - i + 1 := by simp [hn]
  rw [hlen] at hr1 hR1
  obtain ⟨v2, w5, hr2, hR2, hg2⟩ := app38 w4 ⟨g, 0, none⟩ i i (cur.take i) ⟨g1, 0, none⟩ (n - i + 1) cap1 ([x] ++ cur.drop i) (by rw [List.length_take]; omega) hlen
    (fun j u hu => by
      rw [add_plain, hW4.cell (p := ⟨g, j, none⟩) hl]
      apply hcell
      have := encM_get_append_left (ys := cur.drop i) hu
      rwa [List.take_append_drop] at this)
    (fun j u hu => by rw [add_plain]; exact R_cells hR1 j u hu) (by omega) (by omega) 25
  have hW5 : Below w3.heap.size w3 w5 := below_grownBy hW4 hW4.size hg2
  refine ⟨g1, cap1, w4, v2, w5, hr1, hr2, fun B hB => Kd.R_lower hR2 (Nat.le_trans hB hW4.size), fun B w0 hb hB => below_then hb hB hW5⟩

/-- The same where nothing stands behind i: the tail that is appended is empty. -/
theorem ins_end {w3 : World} {g n c : Nat} {cur : List S38} (x : S38) (hn : n = cur.length) (hl : g < w3.heap.size) (hcell : ∀ j u, (encM cur)[j]? = some u → w3.cell? ⟨g, j, none⟩ = some u) (hlim : n ≤ 5864062014800) :
    ∃ v2 w5,
      (Builtin.append_ #[25, 25] 25 #[.slice (some ⟨g, 0, none⟩) n n, .slice (some ⟨w3.heap.size, 0, none⟩) 1 1]).run Try.prog (w3.alloc (.cells #[.int .i64 x.f0, .int .u64 x.f1, .int .u64 x.f2] 38)).drew = .ok v2 w5 ∧
      (∀ B, B ≤ w3.heap.size → Kd.R k38 38 w5 B (fun _ => True) v2 (cur ++ [x])) ∧ (∀ B w0, Below B w0 w3 → B ≤ w3.heap.size → Below B w0 w5) := by
  have hW1 : Below w3.heap.size w3 (w3.alloc (.cells #[.int .i64 x.f0, .int .u64 x.f1, .int .u64 x.f2] 38)).drew := below_drew (below_alloc (Below.refl _ _) _)
  have hbox : (w3.alloc (.cells #[.int .i64 x.f0, .int .u64 x.f1, .int .u64 x.f2] 38)).drew.heap[w3.heap.size]? = some (.cells #[.int .i64 x.f0, .int .u64 x.f1, .int .u64 x.f2] 38 (0, 0)) := blk_new w3 _
  generalize (w3.alloc (.cells #[.int .i64 x.f0, .int .u64 x.f1, .int .u64 x.f2] 38)).drew = W1 at hW1 hbox ⊢
  obtain ⟨v2, w5, hr2, hR2, hg2⟩ := app38 W1 ⟨g, 0, none⟩ n n cur ⟨w3.heap.size, 0, none⟩ 1 1 [x] hn.symm rfl
    (fun j u hu => by rw [add_plain, hW1.cell (p := ⟨g, j, none⟩) hl]; exact hcell j u hu)
    (fun j u hu => by rw [add_plain, blk_cell hbox]; simpa [encM, cells3] using hu) (by omega) (by omega) 25
  have hW5 : Below w3.heap.size w3 w5 := below_grownBy hW1 hW1.size hg2
  exact ⟨v2, w5, hr2, fun B hB => Kd.R_lower hR2 (Nat.le_trans hB hW1.size), fun B w0 hb hB => below_then hb hB hW5⟩

/-- .. and where the row is nil. -/
theorem ins_nil {w3 : World} (x : S38) :
    ∃ v2 w5,
      (Builtin.append_ #[25, 25] 25 #[.slice none 0 0, .slice (some ⟨w3.heap.size, 0, none⟩) 1 1]).run Try.prog (w3.alloc (.cells #[.int .i64 x.f0, .int .u64 x.f1, .int .u64 x.f2] 38)).drew = .ok v2 w5 ∧
      (∀ B, B ≤ w3.heap.size → Kd.R k38 38 w5 B (fun _ => True) v2 [x]) ∧ (∀ B w0, Below B w0 w3 → B ≤ w3.heap.size → Below B w0 w5) := by
  have hW1 : Below w3.heap.size w3 (w3.alloc (.cells #[.int .i64 x.f0, .int .u64 x.f1, .int .u64 x.f2] 38)).drew := below_drew (below_alloc (Below.refl _ _) _)
  have hbox : (w3.alloc (.cells #[.int .i64 x.f0, .int .u64 x.f1, .int .u64 x.f2] 38)).drew.heap[w3.heap.size]? = some (.cells #[.int .i64 x.f0, .int .u64 x.f1, .int .u64 x.f2] 38 (0, 0)) := blk_new w3 _
  generalize (w3.alloc (.cells #[.int .i64 x.f0, .int .u64 x.f1, .int .u64 x.f2] 38)).drew = W1 at hW1 hbox ⊢
  obtain ⟨i0, hi, hzz⟩ := Option.map_eq_some_iff.1 info38
  simp only [Prod.mk.injEq] at hzz
  obtain ⟨hz0, hz1, hz2⟩ := hzz
  obtain ⟨v2, w5, hr2, hown, hg2, _⟩ := run_append_own (P := Try.prog) W1 W1.heap.size 25 25 38 i0 _ 3 24 Try.underlying25 hi hz0 hz1 hz2 rfl (by decide) (.slice none 0 0) 0 [] (World.ownsRow_nil W1 _ 38 3) ⟨w3.heap.size, 0, none⟩ 1 1 (encM [x]) rfl
    (fun j u hu => by rw [add_plain, blk_cell hbox]; simpa [encM, cells3] using hu) (encM_one _) (by unfold maxLen; omega) (by omega) (Nat.le_refl _)
  have hg2' : W1.grownBy w5 none := by simpa [Value.ownBlock] using hg2
  have hW5 : Below w3.heap.size w3 w5 := below_grownBy hW1 hW1.size hg2'
  exact ⟨v2, w5, hr2, fun B hB => Kd.R_lower (R_of_owns (base := W1.heap.size) (xs := [x]) (by simpa using hown) (fun _ _ => trivial)) (Nat.le_trans hB hW1.size), fun B w0 hb hB => below_then hb hB hW5⟩

/-- Nothing is appended. -/
theorem app_nothing (W : World) (b : Addr) (A : Option Addr) (c : Nat) : (Builtin.append_ #[25, 25] 25 #[.slice (some b) 1 1, .slice A 0 c]).run Try.prog W = .ok (.slice (some b) 1 1) W := by
  have hu := run_underlying Try.underlying25
  have hs : ∀ w, (Go.sizeOf 38).run Try.prog w = .ok 3 w := fun w => by kernel_rfl
  cases A <;> simp [Builtin.append_, hu, hs, Builtin.lenOf, Builtin.firstCells, loadCells, loadCellsFrom, storeCells]

/-- An append whose run is known, as one step of a region that draws its order. -/
theorem step_append_run {P : Program} {ops : Array Oper} {o : Oper} {a : Act} {w : World} {K : Act → World → Prop} {Q : Exit → Act → World → Prop} {E : Prop}
    (hg : o.guard = none) (s x : Operand) (hop : o.op = Op.call { callee := Callee.builtin Builtin.append, args := #[s, x], argTypes := #[25, 25] }) (hty : o.type = 25) {u1 u2 : Value} (h1 : a.eval s = u1) (h2 : a.eval x = u2) {v : Value} {w1 : World}
    (hrun : (Builtin.append_ #[25, 25] 25 #[u1, u2]).run P w = .ok v w1) (hK : K (a.put o.dst v) w1) : if Region.wanted o (yielded ops a.tmps) = true then Oper.wp P o a w K Q else E := by
  have hw : Region.wanted o (yielded ops a.tmps) = true := by simp [Region.wanted, hg]
  rw [if_pos hw]
  unfold Oper.wp
  simp [execOp, hop, resolve, invoke, builtin, h1, h2, hty, hrun, Result.andThen]
  exact hK

end Go.Proofs.Ytokhckbjdpgkfaa.P
