/- The arguments of the rows: a row of marks, a row of entries, a mark by value: what stands in the memory that the call reads. -/
import Derived.Deep.Slices
import Derived.Deep.Fields
import Derived.ChangeSame
import Derived.ChangeSlices
import Derived.SizedLaws
import Derived.Lib.SmallJoins
import Derived.WideShapes
import Derived.Test.YtokhckbjdpgkfaaPx0
namespace Go.Proofs.Ytokhckbjdpgkfaa.P
set_option linter.unusedVariables false
set_option linter.unusedSimpArgs false
open Go.ChangeShapes Go.WideShapes Go.ChangeAt Go.RowKit Go.Deep Go.Joins
open Go.Proofs.YtokhckbjdpgkfaaW.PrintWords
section
variable {H : Type} {enc : TypeId × Value → H} {P : Program} {w : World} {base : Nat} {spare : Nat → Bool} {held : Bool}
/-- A slice of structs of one-cell fields: each field's cell, and its reading. -/
theorem open_fields {t e : TypeId} {fs : Array Field} {fuel : Nat} {cs : List Value} {x : DataW H × List MemPlace} (ht : P.underlying t = some (.slice e)) (he : P.underlying e = some (.struct fs))
    (hone : oneCellFields P fs = true) (hC : P.cellsOf e = fs.size) (h : DataW.trod enc P w base spare held fuel t cs = some x) :
    (cs = [.slice none 0 0] ∧ x = (.nil, [])) ∨
    ∃ (a : Addr) (len cap m : Nat) (D : Nat → DataW H) (pl : List MemPlace), cs = [.slice (some a) len cap] ∧ len ≤ cap ∧ cap ≤ maxLen ∧ len ≤ m ∧
      x = (.slice ((List.range len).map D) ((List.range (m - len)).map fun j => D (len + j)), pl) ∧
      ∀ i, i < m → ∀ (j : Nat) (f : Field), fs[j]? = some f → ∃ (v : Value) (y : DataW H × List MemPlace) (n : Nat), w.cell? (a.add (i * fs.size + j)) = some v ∧ DataW.trod enc P w base spare held n f.type [v] = some y := by
  rcases open_slice ht h with h0 | ⟨a, len, cap, m, n, D, Pl, hcs, hb, hl, hm, hmm, hx, hi⟩
  · exact .inl h0
  · refine .inr ⟨a, len, cap, m, D, _, hcs, hl, hm, by rw [hmm]; split <;> omega, hx, fun i him j f hj => ?_⟩
    obtain ⟨cs', hc, ht'⟩ := hi i him
    rw [hC] at hc
    obtain ⟨ys, n', hn', hy, hlen, hyl, hf⟩ := DataW.trod_struct he ht'
    obtain ⟨_, hcl, hat⟩ := World.cells?_some hc
    obtain ⟨ho, hk⟩ := hone_of hone j f hj
    have hjl : j < fs.size := (Array.getElem?_eq_some_iff.1 hj).1
    have hcell := hat j hjl
    have hv : cs'[j]? = some (cs'[j]'(by omega)) := List.getElem?_eq_getElem (by omega)
    have h1 := hf j f hj
    rw [ho, hk] at h1
    have hone' : (cs'.drop j).take 1 = [cs'[j]'(by omega)] := by
      rw [List.drop_eq_getElem_cons (by omega)]
      rfl
    rw [hone'] at h1
    have hys : ys[j]? = some (ys[j]'(by omega)) := List.getElem?_eq_getElem (by omega)
    refine ⟨_, _, n', ?_, h1.trans hys⟩
    rw [← Go.Deep.add_add, hcell, hv]
end
section
variable {H : Type} {enc : TypeId × Value → H} {w : World} {base : Nat} {spare : Nat → Bool} {held : Bool}

/-- Rows out of what stands at each place. -/
theorem C_of_each {α : Type} (d : Kd α) (z : α) (w : World) (a : Addr) (len : Nat) (hlen : len ≤ 9223372036854775807) (h : ∀ i, i < len → ∃ (x : α) (c : List Value), c.length = d.sz ∧ d.K w x c ∧ ∀ j u, c[j]? = some u → w.cell? (a.add (i * d.sz + j)) = some u) :
    ∃ l : List α, l.length = len ∧ Kd.C d w (some a) l.length l := by
  have h' : ∀ i, ∃ x : α, i < len → ∃ c : List Value, c.length = d.sz ∧ d.K w x c ∧ ∀ j u, c[j]? = some u → w.cell? (a.add (i * d.sz + j)) = some u := fun i => by
    by_cases hi : i < len
    · obtain ⟨x, c, hc⟩ := h i hi
      exact ⟨x, fun _ => ⟨c, hc⟩⟩
    · exact ⟨z, fun h => absurd h hi⟩
  obtain ⟨f, hf⟩ := Classical.axiomOfChoice h'
  refine ⟨(List.range len).map f, by simp, ⟨rfl, by simpa using hlen, fun hn => ⟨a, rfl, fun j p hj => ?_⟩⟩⟩
  rw [List.getElem?_map] at hj
  obtain ⟨i, hi, rfl⟩ := Option.map_eq_some_iff.1 hj
  obtain ⟨hil, rfl⟩ := List.getElem?_eq_some_iff.1 hi
  rw [List.getElem_range]
  exact hf j (by simpa using hil)

theorem open_marks {a : Option Addr} {len cap : Nat} {d : DataW H} {p : List MemPlace} {ts : List TypeId} {ds : List (DataW H)} {j : Nat} (hsz : (DataW.weightsEach Try.prog ts ds).all (· ≤ reachBytes) = true) (ht : ts[j]? = some 25) (hd : ds[j]? = some d)
    (h : DataW.Trod enc Try.prog w base spare held 25 (.slice a len cap) d p) :
    ∃ l : List S38, len = l.length ∧ Kd.C k38 w a l.length l ∧ l.length ≤ cap ∧ l.length * 24 ≤ 140737488351232 := by
  obtain ⟨fuel, hf⟩ := h
  rcases open_fields (t := 25) (e := 38) Try.underlying25 Try.underlying38 (by kernel_rfl) (by kernel_rfl) hf with ⟨hcs, _⟩ | ⟨ad, l, c, m, D, pl, hcs, hl, hm, hlm, hx, hi⟩
  · simp [Value.cells] at hcs
    obtain ⟨rfl, rfl, rfl⟩ := hcs
    exact ⟨[], rfl, ⟨rfl, by simp, fun h => absurd h (by simp)⟩, by simp, by simp⟩
  · simp [Value.cells] at hcs
    obtain ⟨rfl, rfl, rfl⟩ := hcs
    obtain ⟨hx, _⟩ := Prod.mk.inj hx
    subst hx
    have z := sized_slice hsz ht hd Try.underlying25
    have hB : Try.prog.bytesOf 38 = 24 := by kernel_rfl
    rw [hB] at z
    simp only [List.length_map, List.length_range] at z
    have hM : maxLen = 9223372036854775807 := rfl
    have hR : reachBytes = 140737488351232 := rfl
    obtain ⟨l, e1, e2⟩ := C_of_each k38 z38 w ad len (by omega) (fun i hi' => by
      obtain ⟨v0, y0, n0, c0, t0⟩ := hi i (by omega) 0 _ rfl
      obtain ⟨v1, y1, n1, c1, t1⟩ := hi i (by omega) 1 _ rfl
      obtain ⟨v2, y2, n2, c2, t2⟩ := hi i (by omega) 2 _ rfl
      obtain ⟨q0, g0, _, _⟩ := DataW.trod_int (k := .i64) (by kernel_rfl) t0
      obtain ⟨q1, g1, _, _⟩ := DataW.trod_int (k := .u64) (by kernel_rfl) t1
      obtain ⟨q2, g2, _, _⟩ := DataW.trod_int (k := .u64) (by kernel_rfl) t2
      simp only [List.cons.injEq, and_true] at g0 g1 g2
      subst g0 g1 g2
      refine ⟨⟨q0, q1, q2⟩, [.int .i64 q0, .int .u64 q1, .int .u64 q2], rfl, k38_mk w ⟨q0, q1, q2⟩, fun j u hu => ?_⟩
      match j, hu with
      | 0, hu => cases hu; exact c0
      | 1, hu => cases hu; exact c1
      | 2, hu => cases hu; exact c2)
    exact ⟨l, e1.symm, e2, by omega, by omega⟩

theorem open_entries {a : Option Addr} {len cap : Nat} {d : DataW H} {p : List MemPlace} {ts : List TypeId} {ds : List (DataW H)} {j : Nat} (hsz : (DataW.weightsEach Try.prog ts ds).all (· ≤ reachBytes) = true) (ht : ts[j]? = some 22) (hd : ds[j]? = some d)
    (h : DataW.Trod enc Try.prog w base spare held 22 (.slice a len cap) d p) :
    ∃ l : List S30, len = l.length ∧ Kd.C k30 w a l.length l ∧ l.length ≤ cap ∧ l.length * 40 ≤ 140737488351232 := by
  obtain ⟨fuel, hf⟩ := h
  rcases open_fields (t := 22) (e := 30) Try.underlying22 Try.underlying30 (by kernel_rfl) (by kernel_rfl) hf with ⟨hcs, _⟩ | ⟨ad, l, c, m, D, pl, hcs, hl, hm, hlm, hx, hi⟩
  · simp [Value.cells] at hcs
    obtain ⟨rfl, rfl, rfl⟩ := hcs
    exact ⟨[], rfl, ⟨rfl, by simp, fun h => absurd h (by simp)⟩, by simp, by simp⟩
  · simp [Value.cells] at hcs
    obtain ⟨rfl, rfl, rfl⟩ := hcs
    obtain ⟨hx, _⟩ := Prod.mk.inj hx
    subst hx
    have z := sized_slice hsz ht hd Try.underlying22
    have hB : Try.prog.bytesOf 30 = 40 := by kernel_rfl
    rw [hB] at z
    simp only [List.length_map, List.length_range] at z
    have hM : maxLen = 9223372036854775807 := rfl
    have hR : reachBytes = 140737488351232 := rfl
    obtain ⟨l, e1, e2⟩ := C_of_each k30 z30 w ad len (by omega) (fun i hi' => by
      obtain ⟨v0, y0, n0, c0, t0⟩ := hi i (by omega) 0 _ rfl
      obtain ⟨v1, y1, n1, c1, t1⟩ := hi i (by omega) 1 _ rfl
      obtain ⟨v2, y2, n2, c2, t2⟩ := hi i (by omega) 2 _ rfl
      obtain ⟨q0, g0, _, _⟩ := DataW.trod_int (k := .i64) (by kernel_rfl) t0
      obtain ⟨q1, g1, _, _⟩ := DataW.trod_int (k := .u64) (by kernel_rfl) t1
      simp only [List.cons.injEq, and_true] at g0 g1
      subst g0 g1
      obtain ⟨A2, cc2, zs, g2, hzc, hC2⟩ : ∃ (A2 : Option Addr) (cc2 : Nat) (zs : List Int), v2 = .slice A2 zs.length cc2 ∧ zs.length ≤ cc2 ∧ (Kd.int .u8).C w A2 zs.length zs := by
        rcases open_ints (e := 5) (k := .u8) (by kernel_rfl) (by kernel_rfl) (by kernel_rfl) t2 with ⟨hcs, _⟩ | ⟨x, l2, c2', zs, hcs, _, hl2, hm2, hz, _, hcell, hwz⟩
        · simp only [List.cons.injEq, and_true] at hcs
          exact ⟨none, 0, [], hcs, by simp, ⟨rfl, by simp, fun h => absurd h (by simp)⟩⟩
        · simp only [List.cons.injEq, and_true] at hcs
          have hzl : l2 ≤ zs.length := by rw [hz]; split <;> omega
          have htl : (zs.take l2).length = l2 := by rw [List.length_take]; omega
          refine ⟨some x, c2', zs.take l2, by rw [htl]; exact hcs, by rw [htl]; exact hl2, ⟨rfl, by rw [htl]; omega, fun _ => ⟨x, rfl, fun i p hp => ⟨[.int .u8 p], rfl, rfl, fun j' u hu => ?_⟩⟩⟩⟩
          have hil : i < l2 := by have := (List.getElem?_eq_some_iff.1 hp).1; omega
          rw [List.getElem?_take_of_lt hil] at hp
          cases j' with
          | zero =>
            cases hu
            have := hcell i (by omega)
            rw [List.getD_eq_getElem?_getD, hp] at this
            show w.cell? (x.add (i * 1 + 0)) = _
            rw [Nat.mul_one, Nat.add_zero]
            exact this
          | succ j' => simp at hu
      subst g2
      refine ⟨⟨q0, q1, zs⟩, [.int .i64 q0, .int .u64 q1, .slice A2 zs.length cc2], rfl, k30_mk w ⟨q0, q1, zs⟩ hzc hC2, fun j u hu => ?_⟩
      match j, hu with
      | 0, hu => cases hu; exact c0
      | 1, hu => cases hu; exact c1
      | 2, hu => cases hu; exact c2)
    exact ⟨l, e1.symm, e2, by omega, by omega⟩
end

end Go.Proofs.Ytokhckbjdpgkfaa.P
