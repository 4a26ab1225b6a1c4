/- Plain laws: what the document's Go, Add, Take, Join come to, and that the calls come to the same. -/
import Derived.Test.YtokhckbjdpgkfaaQ1
import Derived.Test.YtokhckbjdpgkfaaPx5
import Derived.Test.YtokhckbjdpgkfaaPx7
import Derived.Test.YtokhckbjdpgkfaaPx8
import Derived.Test.YtokhckbjdpgkfaaPx14
namespace Go.Proofs.Ytokhckbjdpgkfaa.P
set_option linter.unusedVariables false
set_option linter.unusedSimpArgs false
open Go.RowKit Go.Proofs.YtokhckbjdpgkfaaW.PrintWords Go.Proofs.YtokhckbjdpgkfaaW.PrintLast

theorem rd30_nat (xs : List S30) (n : Nat) (h : n < xs.length) : rd_T30 xs (n : Int) = xs[n] := by
  unfold rd_T30
  rw [Int.toNat_natCast, List.getD_eq_getElem?_getD, List.getElem?_eq_getElem h]
  rfl
theorem rd30_drop (xs : List S30) (n : Nat) (h : n < xs.length) : xs.drop n = rd_T30 xs (n : Int) :: xs.drop (n + 1) := by
  rw [rd30_nat xs n h]
  exact List.drop_eq_getElem_cons h

theorem go_at : ∀ (d k n : Nat) (x0 out : List S38) (put : Bool) (a b c : Int), x0.length = n + d → x0.length < 4611686018427387904 → out.length + 2 * d + 2 < 5864062014805 → 2 * d < k →
    scrivenerref19_Go.l0 k x0 out put (n : Int) a b c = some (out ++ goL put ⟨a, b, c⟩ (x0.drop n), 0)
  | 0, 0, n, x0, out, put, a, b, c, _, _, _, hk => absurd hk (by omega)
  | 0, k + 1, n, x0, out, put, a, b, c, hn, hl, ho, hk => by
    unfold scrivenerref19_Go.l0
    rw [if_neg (by omega), List.drop_of_length_le (by omega), if_pos (show out.length < 5864062014805 by omega)]
    cases put with
    | true => simp [goL]
    | false => simp [goL]
  | d + 1, 0, n, x0, out, put, a, b, c, _, _, _, hk => absurd hk (by omega)
  | d + 1, 1, n, x0, out, put, a, b, c, _, _, _, hk => absurd hk (by omega)
  | d + 1, k + 2, n, x0, out, put, a, b, c, hn, hl, ho, hk => by
    unfold scrivenerref19_Go.l0
    rw [if_pos (by omega), rd38_drop x0 n (by omega)]
    have ih := fun (out : List S38) (put : Bool) (ho : out.length + 2 * d + 2 < 5864062014805) => go_at d k (n + 1) x0 out put a b c (by omega) hl ho (by omega)
    unfold scrivenerref19_Go.j3 goL
    have p0 : (0 : Int) ≤ (n : Int) := by omega
    have p1 : (n : Int) < (x0.length : Int) := by omega
    have p2 : out.length < 5864062014805 := by omega
    have p3 : (out ++ [(⟨a, b, c⟩ : S38)]).length < 5864062014805 := by simp; omega
    simp only [if_pos p0, if_pos p1, if_pos p2, if_pos p3, w64_succ n (by omega), Option.bind_some]
    cases put with
    | true =>
      simp only [if_true, Bool.false_eq_true, if_false, Bool.not_true, Bool.false_and, Bool.true_or, List.nil_append]
      by_cases c2 : (rd_T38 x0 (n : Int)).f0 = a
      · rw [if_pos c2, if_pos c2, ih out true (by omega)]
        rfl
      · rw [if_neg c2, if_neg c2, ih _ true (by simp; omega)]
        simp
    | false =>
      simp only [Bool.false_eq_true, if_false, Bool.not_false, Bool.true_and, Bool.false_or, decide_eq_true_eq]
      by_cases c1 : (rd_T38 x0 (n : Int)).f0 ≥ a
      · rw [if_pos c1, if_pos c1, decide_eq_true c1]
        by_cases c2 : (rd_T38 x0 (n : Int)).f0 = a
        · rw [if_pos c2, if_pos c2, ih _ true (by simp; omega)]
          simp
        · rw [if_neg c2, if_neg c2, ih _ true (by simp; omega)]
          simp
      · rw [if_neg c1, if_neg c1, decide_eq_false c1]
        by_cases c2 : (rd_T38 x0 (n : Int)).f0 = a
        · rw [if_pos c2, if_pos c2, ih _ false (by omega)]
          simp
        · rw [if_neg c2, if_neg c2, ih _ false (by simp; omega)]
          simp

/-- What goes in, or the want of room, as an answer. -/
def ansOf : Option (List S38) → List S38 × Int
  | some r => (r, 0)
  | none => ([], 3)
theorem refGo_eq (k : Nat) (l : List S38) (a b c : Int) (hl : RowUp l) (hn : l.length ≤ 6) (hk : 30 ≤ k) : scrivenerref19_Go.f k l a b c = some (ansOf (goesOne l ⟨a, b, c⟩)) := by
  obtain ⟨k, rfl⟩ : ∃ j, k = j + 2 := ⟨k - 2, by omega⟩
  unfold scrivenerref19_Go.f
  rw [refLast_eq _ _ _ (by omega) (by omega), goesOne_eq hl]
  unfold seen_Last.f
  rw [lastM_eq hl]
  have hgo := go_at l.length k 0 l [] false a b c (by omega) (by omega) (by simp; omega) (by omega)
  rw [List.drop_zero, goL_false hl, List.nil_append] at hgo
  have hgo' : scrivenerref19_Go.l0 k l [] false 0 a b c = some (insR ⟨a, b, c⟩ l, 0) := hgo
  have hlim : ([] : List S38).length + l.length < 5864062014805 := by simp; omega
  cases h : getM l a with
  | some x =>
    simp only [h, Option.bind_some, if_true, scrivenerref19_Go.j0, scrivenerref19_Go.j1, decide_eq_true_eq, if_pos hlim, Bool.false_eq_true, if_false, hgo', List.nil_append]
    by_cases c1 : x.f1 ≥ b
    · rw [if_pos c1, if_neg (by omega)]
      rfl
    · rw [if_neg c1, if_pos (by omega)]
      rfl
  | none =>
    simp only [h, Option.bind_some, Bool.false_eq_true, if_false, scrivenerref19_Go.j0, scrivenerref19_Go.j1, decide_eq_true_eq, hgo']
    by_cases c1 : (l.length : Int) ≥ 6
    · rw [if_pos c1, if_pos (by omega)]
      rfl
    · rw [if_neg c1, if_neg (by omega)]
      rfl

theorem goes_eq (l m : List S38) (hl : l.length ≤ 5864062014000) (hm : m.length ≤ 5864062014805) : seen_goes.f l m = some (ansOf (goesAll l m)) := by
  unfold seen_goes.f
  rw [if_pos ⟨hl, hm⟩]
  cases goesAll l m <;> rfl
theorem goesAll_one (l : List S38) (m : S38) : goesAll l [m] = goesOne l m := by
  unfold goesAll
  cases goesOne l m with
  | none => rfl
  | some r => rfl

/-! Add -/
def addA (l : List S38) (m : S38) : List S38 × Int := if mayRow l && mayM m then ansOf (goesOne l m) else ([], 1)
theorem seenAdd_eq (l : List S38) (a b c : Int) (hl : l.length ≤ 5864062014000) : seen_Add.f l a b c = some (addA l ⟨a, b, c⟩) := by
  unfold seen_Add.f addA
  rw [seenMay_eq l (by omega), Option.bind_some, seen_may_eq, Option.bind_some, goes_eq l _ hl (by simp), Option.bind_some, goesAll_one]
  cases mayRow l <;> cases mayM ⟨a, b, c⟩ <;> rfl
theorem refAdd_eq (k : Nat) (l : List S38) (a b c : Int) (hl : l.length ≤ 1000) (hk : 1001 ≤ k) : scrivenerref19_Add.f k l a b c = some (addA l ⟨a, b, c⟩) := by
  unfold scrivenerref19_Add.f addA
  rw [refMay_eq k l (by omega) (by omega), Option.bind_some, refMayMark_eq, Option.bind_some]
  cases h : mayRow l with
  | false => rfl
  | true =>
    obtain ⟨h1, h2, h3⟩ := (mayRow_iff l).1 h
    rw [refGo_eq k l a b c h3 h1 (by omega)]
    cases mayM ⟨a, b, c⟩ <;> rfl

/-! Join -/
def joinA (a b : List S38) : List S38 × Int := if mayRow a && mayRow b then ansOf (goesAll a b) else ([], 1)
theorem seenJoin_eq (a b : List S38) (ha : a.length ≤ 5864062014000) (hb : b.length ≤ 5864062014805) : seen_Join.f a b = some (joinA a b) := by
  unfold seen_Join.f joinA
  rw [seenMay_eq a (by omega), Option.bind_some, seenMay_eq b hb, Option.bind_some, goes_eq a b ha hb, Option.bind_some]
  cases mayRow a <;> cases mayRow b <;> rfl
theorem refJoin_at : ∀ (d k n : Nat) (x1 out : List S38), x1.length = n + d → x1.length < 4611686018427387904 → (∀ m ∈ x1, mayM m = true) → mayRow out = true → d + 31 ≤ k →
    scrivenerref19_Join.l0 k x1 out (n : Int) = some (ansOf (goesAll out (x1.drop n)))
  | 0, 0, n, x1, out, _, _, _, _, hk => absurd hk (by omega)
  | 0, k + 1, n, x1, out, hn, hl, hm, ho, hk => by
    unfold scrivenerref19_Join.l0
    rw [if_neg (by omega), List.drop_of_length_le (by omega)]
    rfl
  | d + 1, 0, n, x1, out, _, _, _, _, hk => absurd hk (by omega)
  | d + 1, k + 1, n, x1, out, hn, hl, hm, ho, hk => by
    unfold scrivenerref19_Join.l0
    obtain ⟨o1, o2, o3⟩ := (mayRow_iff out).1 ho
    rw [if_pos (by omega), if_pos (by omega), w64_succ n (by omega), refGo_eq k out _ _ _ o3 o1 (by omega), Option.bind_some, rd38_drop x1 n (by omega)]
    have hmem : rd_T38 x1 (n : Int) ∈ x1 := by
      rw [rd38_nat x1 n (by omega)]
      exact List.getElem_mem _
    show (if (ansOf (goesOne out (rd_T38 x1 (n : Int)))).2 = 0 then _ else _) = _
    unfold goesAll
    cases h : goesOne out (rd_T38 x1 (n : Int)) with
    | none => rfl
    | some r => exact refJoin_at d k (n + 1) x1 r (by omega) hl hm (goesOne_may ho (hm _ hmem) h) (by omega)
theorem refJoin_eq (k : Nat) (a b : List S38) (ha : a.length ≤ 1000) (hb : b.length ≤ 1000) (hk : 1100 ≤ k) : scrivenerref19_Join.f k a b = some (joinA a b) := by
  obtain ⟨k, rfl⟩ : ∃ j, k = j + 1 := ⟨k - 1, by omega⟩
  unfold scrivenerref19_Join.f joinA
  rw [refMay_eq _ a (by omega) (by omega), Option.bind_some, refMay_eq _ b (by omega) (by omega), Option.bind_some]
  have hlim : ([] : List S38).length + a.length < 5864062014805 := by simp; omega
  cases h : mayRow a with
  | false => rfl
  | true =>
    cases h2 : mayRow b with
    | false => rfl
    | true =>
      have := refJoin_at b.length k 0 b a (by omega) (by omega) ((mayRow_iff b).1 h2).2.1 h (by omega)
      simp only [if_true, Bool.not_true, scrivenerref19_Join.j0, Bool.false_eq_true, if_false, Option.bind_some, if_pos hlim, List.nil_append, Bool.and_self]
      exact this

/-! Take -/
theorem refEntryMay_eq (e : S30) : scrivenerref11_May.f e.f0 e.f1 e.f2 = some (mayE e) := by
  unfold scrivenerref11_May.f scrivenerref11_Count.f mayE
  by_cases h1 : 1 ≤ e.f0 <;> by_cases h2 : e.f0 ≤ 15 <;> by_cases h3 : 1 ≤ e.f1 <;> by_cases h4 : e.f1 ≤ 4611686018427387903 <;> simp [h1, h2, h3, h4]
def takeA (l : List S38) (fr : Int) (es : List S30) : List S38 × Int :=
  if mayRow l && es.all mayE then
    if es = [] then (l, 0)
    else if fr + es.length ≤ 4611686018427387904 then ansOf (goesAll l (marksFrom fr es))
    else ([], 1)
  else ([], 1)
theorem seenTake_eq (l : List S38) (fr : Int) (es : List S30) (hl : l.length ≤ 5864062014000) (he : es.length ≤ 1000000000000) (hf : 0 ≤ fr) : seen_Take.f l fr es = some (takeA l fr es) := by
  unfold seen_Take.f takeA
  rw [if_pos ⟨hl, he, hf⟩]
  split
  · split
    · rfl
    · split
      · cases goesAll l (marksFrom fr es) <;> rfl
      · rfl
  · rfl
theorem wrapU (n : Int) (h0 : 0 ≤ n) (h1 : n < 18446744073709551616) : IntKind.u64.wrap n = n := by
  rw [IntKind.wrap_u64]
  omega
theorem mayE_mark {e : S30} {f : Int} (h : mayE e = true) (hf : f ≤ 4611686018427387903) : mayM ⟨e.f0, e.f1, f⟩ = true := by
  unfold mayE at h
  unfold mayM
  simp only [Bool.and_eq_true, decide_eq_true_eq] at h ⊢
  exact ⟨h.1, h.2.1, h.2.2.1, h.2.2.2.1, hf⟩
theorem refTake_l1 : ∀ (d k n : Nat) (fr : Int) (es : List S30) (out : List S38), es.length = n + d → es.length ≤ 1000000000000 → 0 ≤ fr → fr + es.length ≤ 4611686018427387904 → (∀ e ∈ es, mayE e = true) → mayRow out = true → d + 31 ≤ k →
    scrivenerref19_Take.l1 k fr es out (n : Int) = some (ansOf (goesAll out (marksFrom (fr + n) (es.drop n))))
  | 0, 0, n, fr, es, out, _, _, _, _, _, _, hk => absurd hk (by omega)
  | 0, k + 1, n, fr, es, out, hn, hl, h0, hf, hm, ho, hk => by
    unfold scrivenerref19_Take.l1
    rw [if_neg (by omega), List.drop_of_length_le (by omega)]
    rfl
  | d + 1, 0, n, fr, es, out, _, _, _, _, _, _, hk => absurd hk (by omega)
  | d + 1, k + 1, n, fr, es, out, hn, hl, h0, hf, hm, ho, hk => by
    unfold scrivenerref19_Take.l1
    obtain ⟨o1, o2, o3⟩ := (mayRow_iff out).1 ho
    have hmem : rd_T30 es (n : Int) ∈ es := by
      rw [rd30_nat es n (by omega)]
      exact List.getElem_mem _
    rw [if_pos (by omega), if_pos (by omega), w64_succ n (by omega), wrapU (n : Int) (by omega) (by omega), wrapU (fr + n) (by omega) (by omega), refGo_eq k out _ _ _ o3 o1 (by omega), Option.bind_some, rd30_drop es n (by omega)]
    show (if (ansOf (goesOne out ⟨(rd_T30 es (n : Int)).f0, (rd_T30 es (n : Int)).f1, fr + n⟩)).2 = 0 then _ else _) = _
    unfold marksFrom goesAll
    cases h : goesOne out ⟨(rd_T30 es (n : Int)).f0, (rd_T30 es (n : Int)).f1, fr + n⟩ with
    | none => rfl
    | some r =>
      have := refTake_l1 d k (n + 1) fr es r (by omega) hl h0 hf hm (goesOne_may ho (mayE_mark (hm _ hmem) (by omega)) h) (by omega)
      rw [show fr + ((n + 1 : Nat) : Int) = fr + (n : Int) + 1 by omega] at this
      exact this
theorem refTake_l0 : ∀ (d k n : Nat) (l : List S38) (fr : Int) (es : List S30), es.length = n + d → es.length ≤ 1000 → l.length ≤ 1000 → 0 ≤ fr → fr < 18446744073709551616 → mayRow l = true → d + es.length + 32 ≤ k →
    (∀ e ∈ es.take n, mayE e = true) → (n ≠ 0 → fr + n ≤ 4611686018427387904) →
    scrivenerref19_Take.l0 k l fr es (n : Int) = some (if (es.drop n).all mayE && (decide (es = []) || decide (fr + es.length ≤ 4611686018427387904)) then ansOf (goesAll l (marksFrom fr es)) else ([], 1))
  | 0, 0, n, l, fr, es, _, _, _, _, _, _, hk, _, _ => absurd hk (by omega)
  | 0, k + 1, n, l, fr, es, hn, he, hl, h0, h1, hm, hk, hp, hq => by
    unfold scrivenerref19_Take.l0
    rw [if_neg (by omega), List.drop_of_length_le (by omega), Option.bind_some, if_pos (by simp; omega), List.nil_append]
    have hc : (decide (es = []) || decide (fr + es.length ≤ 4611686018427387904)) = true := by
      by_cases c : n = 0
      · have : es = [] := List.eq_nil_of_length_eq_zero (by omega)
        simp [this]
      · have := hq c
        rw [Bool.or_eq_true]
        exact .inr (decide_eq_true (by omega))
    rw [hc]
    simp only [List.all_nil, Bool.and_self, if_true]
    rw [List.take_of_length_le (by omega)] at hp
    by_cases c : es = []
    · subst c
      obtain ⟨k, rfl⟩ : ∃ j, k = j + 1 := ⟨k - 1, by simp at hk; omega⟩
      unfold scrivenerref19_Take.l1
      rfl
    · have hf : fr + es.length ≤ 4611686018427387904 := by
        have := hq (fun e => c (List.eq_nil_of_length_eq_zero (by omega)))
        omega
      refine (refTake_l1 es.length k 0 fr es l (by omega) (by omega) h0 hf hp hm (by omega)).trans ?_
      rw [List.drop_zero, show fr + ((0 : Nat) : Int) = fr by omega]
  | d + 1, 0, n, l, fr, es, _, _, _, _, _, _, hk, _, _ => absurd hk (by omega)
  | d + 1, k + 1, n, l, fr, es, hn, he, hl, h0, h1, hm, hk, hp, hq => by
    unfold scrivenerref19_Take.l0
    have hne : es ≠ [] := fun e => by rw [e] at hn; simp at hn
    have hmem : rd_T30 es (n : Int) ∈ es := by
      rw [rd30_nat es n (by omega)]
      exact List.getElem_mem _
    rw [if_pos (by omega), if_pos (by omega), w64_succ n (by omega), wrapU (n : Int) (by omega) (by omega), refEntryMay_eq, Option.bind_some, rd30_drop es n (by omega), List.all_cons]
    cases hE : mayE (rd_T30 es (n : Int)) with
    | false =>
      simp
    | true =>
      rw [if_pos rfl]
      by_cases c1 : fr > 4611686018427387903
      · rw [if_pos c1]
        have : ¬ (fr + es.length ≤ 4611686018427387904) := by omega
        simp [hne, this]
      · rw [if_neg c1, wrapU (4611686018427387903 - fr) (by omega) (by omega)]
        by_cases c2 : (n : Int) > 4611686018427387903 - fr
        · rw [if_pos c2]
          have : ¬ (fr + es.length ≤ 4611686018427387904) := by omega
          simp [hne, this]
        · rw [if_neg c2, refTake_l0 d k (n + 1) l fr es (by omega) he hl h0 h1 hm (by omega) (fun e hx => by
            rw [List.take_succ_eq_append_getElem (by omega : n < es.length)] at hx
            rcases List.mem_append.1 hx with hx | hx
            · exact hp e hx
            · rw [rd30_nat es n (by omega)] at hE
              rw [List.mem_singleton.1 hx]
              exact hE) (fun _ => by omega)]
          simp
theorem refTake_eq (k : Nat) (l : List S38) (fr : Int) (es : List S30) (he : es.length ≤ 1000) (hl : l.length ≤ 1000) (h0 : 0 ≤ fr) (h1 : fr < 18446744073709551616) (hk : 2100 ≤ k) : scrivenerref19_Take.f k l fr es = some (takeA l fr es) := by
  unfold scrivenerref19_Take.f takeA
  rw [refMay_eq k l (by omega) (by omega), Option.bind_some]
  cases h : mayRow l with
  | false => rfl
  | true =>
    rw [if_pos rfl]
    refine (refTake_l0 es.length k 0 l fr es (by omega) he hl h0 h1 h (by omega) (by simp) (by simp)).trans ?_
    rw [List.drop_zero]
    by_cases c : es = []
    · subst c
      rfl
    · cases es.all mayE with
      | false => rfl
      | true =>
        by_cases c2 : fr + es.length ≤ 4611686018427387904
        · simp [c, c2]
        · simp [c, c2]

/-! long -/
theorem long_at : ∀ (d k n x3 : Nat) (x0 : List S30), n ≤ x3 → x3 + d = 1000 → d < k → (∀ e ∈ x0, e.f2.length ≤ 9223372036854775807) → ∃ b, scrivenerlaw19_long.l0 k x0 (x3 : Int) (n : Int) = some b ∧ (b = false → x0.length ≤ 1000)
  | d, 0, n, x3, x0, _, _, hk, _ => absurd hk (by omega)
  | d, k + 1, n, x3, x0, hn, hd, hk, hb => by
    unfold scrivenerlaw19_long.l0
    by_cases c : (n : Int) < (x0.length : Int)
    · have hmem : rd_T30 x0 (n : Int) ∈ x0 := by
        rw [rd30_nat x0 n (by omega)]
        exact List.getElem_mem _
      have hlen := hb _ hmem
      have e1 : wrap64 (1 + wrap64 (((rd_T30 x0 (n : Int)).f2.length : Int) / 64)) = 1 + ((rd_T30 x0 (n : Int)).f2.length : Int) / 64 := by
        unfold wrap64
        omega
      have e2 : wrap64 ((x3 : Int) + (1 + ((rd_T30 x0 (n : Int)).f2.length : Int) / 64)) = ((x3 + 1 + (rd_T30 x0 (n : Int)).f2.length / 64 : Nat) : Int) := by
        unfold wrap64
        omega
      rw [if_pos c, if_pos (by omega), e1, e2, w64_succ n (by omega)]
      by_cases c2 : ((x3 + 1 + (rd_T30 x0 (n : Int)).f2.length / 64 : Nat) : Int) > 1000
      · rw [if_pos c2]
        exact ⟨true, rfl, fun h => by cases h⟩
      · rw [if_neg c2]
        exact long_at (1000 - (x3 + 1 + (rd_T30 x0 (n : Int)).f2.length / 64)) k (n + 1) _ x0 (by omega) (by omega) (by omega) hb
    · rw [if_neg c]
      exact ⟨false, rfl, fun _ => by omega⟩
theorem long_eq (k : Nat) (x0 : List S30) (hk : 1001 ≤ k) (hb : ∀ e ∈ x0, e.f2.length ≤ 9223372036854775807) : ∃ b, scrivenerlaw19_long.f k x0 = some b ∧ (b = false → x0.length ≤ 1000) :=
  long_at 1000 k 0 0 x0 (by omega) (by omega) (by omega) hb

/-! lengths of answers -/
theorem goesAll_len : ∀ {m l r : List S38}, RowUp l → l.length ≤ 1000 → goesAll l m = some r → r.length ≤ 1000 ∧ RowUp r
  | [], l, r, hu, hl, h => by
    cases h
    exact ⟨hl, hu⟩
  | x :: m, l, r, hu, hl, h => by
    unfold goesAll at h
    cases h1 : goesOne l x with
    | none => rw [h1] at h; cases h
    | some l' =>
      rw [h1] at h
      refine goesAll_len (m := m) ?_ ?_ h
      · rw [goesOne_eq hu] at h1
        cases hg : getM l x.f0 with
        | some y =>
          rw [hg] at h1
          dsimp only at h1
          split at h1 <;> cases h1
          · exact insR_up hu
          · exact hu
        | none =>
          rw [hg] at h1
          dsimp only at h1
          split at h1 <;> cases h1
          exact insR_up hu
      · have hlen := insR_length (m := x) hu
        rw [goesOne_eq hu] at h1
        cases hg : getM l x.f0 with
        | some y =>
          rw [hg] at h1 hlen
          dsimp only at h1
          split at h1 <;> cases h1
          · simp at hlen; omega
          · exact hl
        | none =>
          rw [hg] at h1 hlen
          dsimp only at h1
          split at h1 <;> cases h1
          simp at hlen; omega
theorem ansOf_len {l m : List S38} (hu : RowUp l) (hl : l.length ≤ 1000) : (ansOf (goesAll l m)).1.length ≤ 1000 := by
  cases h : goesAll l m with
  | none => simp [ansOf]
  | some r => exact (goesAll_len hu hl h).1
theorem addA_len (l : List S38) (m : S38) : (addA l m).1.length ≤ 1000 := by
  unfold addA
  cases h : mayRow l with
  | false => simp
  | true =>
    obtain ⟨h1, h2, h3⟩ := (mayRow_iff l).1 h
    rw [← goesAll_one]
    split
    · exact ansOf_len h3 (by omega)
    · simp
theorem joinA_len (a b : List S38) : (joinA a b).1.length ≤ 1000 := by
  unfold joinA
  cases h : mayRow a with
  | false => simp
  | true =>
    obtain ⟨h1, h2, h3⟩ := (mayRow_iff a).1 h
    split
    · exact ansOf_len h3 (by omega)
    · simp
theorem takeA_len (l : List S38) (fr : Int) (es : List S30) : (takeA l fr es).1.length ≤ 1000 := by
  unfold takeA
  cases h : mayRow l with
  | false => simp
  | true =>
    obtain ⟨h1, h2, h3⟩ := (mayRow_iff l).1 h
    split
    · split
      · exact Nat.le_trans h1 (by omega)
      · split
        · exact ansOf_len h3 (by omega)
        · simp
    · simp

theorem bodies {w : World} {A : Option Addr} {l : List S30} (h : Kd.C k30 w A l.length l) : ∀ e ∈ l, e.f2.length ≤ 9223372036854775807 := by
  intro e he
  have hpos : 0 < l.length := List.length_pos_of_mem he
  obtain ⟨ad, _, hc⟩ := h.2.2 hpos
  obtain ⟨j, hj⟩ := List.getElem?_of_mem he
  obtain ⟨c, _, hK, _⟩ := hc j e hj
  obtain ⟨A2, c2, _, _, hC⟩ := k30_open hK
  exact hC.2.1

end Go.Proofs.Ytokhckbjdpgkfaa.P
