/- Plain laws: what the document's Last, Ask, May, Same, Cut, and the law's own 'is', come to, in the words of the plain functions; no program in sight. -/
import Derived.Test.YtokhckbjdpgkfaaM
import Derived.Test.YtokhckbjdpgkfaaPx2
import Derived.Test.YtokhckbjdpgkfaaPx3
import Derived.Test.YtokhckbjdpgkfaaPx4
import Derived.Test.YtokhckbjdpgkfaaPx6
import Derived.Test.YtokhckbjdpgkfaaPx9
import Derived.Test.YtokhckbjdpgkfaaPx10
import Derived.Test.YtokhckbjdpgkfaaPx13
namespace Go.Proofs.Ytokhckbjdpgkfaa.P
set_option linter.unusedVariables false
set_option linter.unusedSimpArgs false
open Go.RowKit

theorem w64_succ (n : Nat) (h : n < 4611686018427387904) : wrap64 ((n : Int) + 1) = ((n + 1 : Nat) : Int) := by
  unfold wrap64; omega
theorem w64_pred (n : Nat) (h : n < 4611686018427387904) : wrap64 ((n : Int) - 1) = (n : Int) - 1 := by
  unfold wrap64; omega
theorem rd38_nat (xs : List S38) (n : Nat) (h : n < xs.length) : rd_T38 xs (n : Int) = xs[n] := by
  unfold rd_T38
  rw [Int.toNat_natCast, List.getD_eq_getElem?_getD, List.getElem?_eq_getElem h]
  rfl
theorem rd38_drop (xs : List S38) (n : Nat) (h : n < xs.length) : xs.drop n = rd_T38 xs (n : Int) :: xs.drop (n + 1) := by
  rw [rd38_nat xs n h]
  exact List.drop_eq_getElem_cons h
theorem rd38_take (xs : List S38) (n : Nat) (h : n < xs.length) : xs.take (n + 1) = xs.take n ++ [rd_T38 xs (n : Int)] := by
  rw [rd38_nat xs n h]
  exact List.take_succ_eq_append_getElem h

/-! Last, Ask -/
theorem refLast_at : ∀ (n k : Nat) (x0 : List S38) (p : Int), n ≤ x0.length → x0.length < 4611686018427387904 → n < k → scrivenerref19_Last.l0 k x0 p ((n : Int) - 1) = seen_Last.f (x0.take n) p
  | 0, 0, x0, p, _, _, hk => absurd hk (by omega)
  | 0, k + 1, x0, p, _, _, _ => by
    unfold scrivenerref19_Last.l0
    rw [if_neg (by omega)]
    rfl
  | n + 1, 0, x0, p, _, _, hk => absurd hk (by omega)
  | n + 1, k + 1, x0, p, hn, hl, hk => by
    unfold scrivenerref19_Last.l0
    have e : ((n + 1 : Nat) : Int) - 1 = (n : Int) := by omega
    rw [e, if_pos (by omega), if_pos (by omega), if_pos (by omega), w64_pred n (by omega), refLast_at n k x0 p (by omega) hl (by omega), rd38_take x0 n (by omega)]
    unfold seen_Last.f lastM
    rw [List.reverse_append]
    by_cases c : (rd_T38 x0 (n : Int)).f0 = p
    · rw [if_pos c]
      simp [c]
    · rw [if_neg c]
      simp [c]
theorem refLast_eq (k : Nat) (x0 : List S38) (p : Int) (hl : x0.length < 4611686018427387904) (hk : x0.length < k) : scrivenerref19_Last.f k x0 p = seen_Last.f x0 p := by
  unfold scrivenerref19_Last.f
  rw [w64_pred _ hl, refLast_at x0.length k x0 p (Nat.le_refl _) hl hk, List.take_length]

/-- What a row says of a message. -/
def askM (l : List S38) (p s : Int) : Int × Int :=
  match lastM l p with
  | some m => if m.f1 = s then (1, m.f2) else if m.f1 > s then (2, 0) else (0, 0)
  | none => if (l.length : Int) ≥ 6 then (3, 0) else (0, 0)
theorem refAsk_eq (k : Nat) (x0 : List S38) (p s : Int) (hl : x0.length < 4611686018427387904) (hk : x0.length < k) : scrivenerref19_Ask.f k x0 p s = some (askM x0 p s) := by
  unfold scrivenerref19_Ask.f askM
  rw [refLast_eq k x0 p hl hk]
  unfold seen_Last.f
  cases lastM x0 p with
  | some m =>
    simp only [Option.bind_some, if_true]
    split
    · rfl
    · split <;> rfl
  | none =>
    simp only [Option.bind_some, Bool.false_eq_true, if_false]
    split <;> rfl
theorem seenAsk_eq (k : Nat) (x0 : List S38) (p s : Int) (hk : 2 ≤ k) : seen_Ask.f k x0 p s = some (askM x0 p s) := by
  obtain ⟨k, rfl⟩ : ∃ j, k = j + 2 := ⟨k - 2, by omega⟩
  unfold seen_Ask.f askM seen_Last.f
  cases lastM x0 p with
  | some m =>
    simp only [Option.bind_some, if_true, seen_Ask.j0, seen_Ask.j1, beq_iff_eq, decide_eq_true_eq]
    split
    · rfl
    · split <;> rfl
  | none =>
    simp only [Option.bind_some, Bool.false_eq_true, if_false, seen_Ask.j0, seen_Ask.j1]
    split <;> rfl

/-! May -/
theorem refMayMark_eq (a b c : Int) : scrivenerref19_MayMark.f a b c = some (mayM ⟨a, b, c⟩) := by
  unfold scrivenerref19_MayMark.f scrivenerref11_Count.f mayM
  by_cases h1 : 1 ≤ a <;> by_cases h2 : a ≤ 15 <;> by_cases h3 : 1 ≤ b <;> by_cases h4 : b ≤ 4611686018427387903 <;> simp [h1, h2, h3, h4]
theorem seen_may_eq (a b c : Int) : seen_may.f a b c = some (mayM ⟨a, b, c⟩) := by
  unfold seen_may.f mayM
  by_cases h1 : 1 ≤ a <;> by_cases h2 : a ≤ 15 <;> by_cases h3 : 1 ≤ b <;> by_cases h4 : b ≤ 4611686018427387903 <;> simp [h1, h2, h3, h4]
/-- From a place on each mark may be, and is above the one ahead of it. -/
def upFrom : Option Int → List S38 → Bool
  | _, [] => true
  | pr, m :: r => mayM m && ((match pr with | some a => decide (a < m.f0) | none => true) && upFrom (some m.f0) r)
theorem upFrom_cons (pr : Option Int) (m : S38) (r : List S38) : upFrom pr (m :: r) = (mayM m && ((match pr with | some a => decide (a < m.f0) | none => true) && upFrom (some m.f0) r)) := rfl
theorem upFrom_some : ∀ (l : List S38) (a : S38), upFrom (some a.f0) l = (l.all mayM && strictUp (a :: l))
  | [], a => rfl
  | m :: r, a => by
    unfold upFrom
    rw [upFrom_some r m]
    simp only [List.all_cons, strictUp]
    cases mayM m <;> cases decide (a.f0 < m.f0) <;> simp
theorem upFrom_none (l : List S38) : upFrom none l = (l.all mayM && strictUp l) := by
  cases l with
  | nil => rfl
  | cons m r =>
    unfold upFrom
    rw [upFrom_some r m]
    simp only [List.all_cons, Bool.and_assoc, Bool.true_and]
theorem refMay_at : ∀ (d k n : Nat) (x0 : List S38), x0.length = n + d → x0.length < 4611686018427387904 → d < k →
    scrivenerref19_May.l0 k x0 (n : Int) = some (upFrom (if n = 0 then none else some (rd_T38 x0 ((n : Int) - 1)).f0) (x0.drop n) && decide ((x0.length : Int) ≤ 6))
  | 0, 0, n, x0, _, _, hk => absurd hk (by omega)
  | 0, k + 1, n, x0, hn, hl, hk => by
    unfold scrivenerref19_May.l0
    rw [if_neg (by omega), List.drop_of_length_le (by omega)]
    rfl
  | d + 1, 0, n, x0, _, _, hk => absurd hk (by omega)
  | d + 1, k + 1, n, x0, hn, hl, hk => by
    unfold scrivenerref19_May.l0
    have hnl : n < x0.length := by omega
    have e1 : ((n + 1 : Nat) : Int) - 1 = (n : Int) := by omega
    rw [if_pos (by omega), if_pos (by omega), w64_succ n (by omega), w64_pred n (by omega), refMay_at d k (n + 1) x0 (by omega) hl (by omega), rd38_drop x0 n hnl, refMayMark_eq, if_neg (Nat.succ_ne_zero n), e1]
    show ((some (mayM (rd_T38 x0 (n : Int)))).bind fun t => _) = some (upFrom _ (rd_T38 x0 (n : Int) :: _) && _)
    rw [Option.bind_some, upFrom_cons]
    cases mayM (rd_T38 x0 (n : Int)) with
    | false => rfl
    | true =>
      rw [if_pos rfl]
      by_cases h0 : n = 0
      · subst h0
        rw [if_neg (by omega), if_pos rfl]
        simp
      · rw [if_pos (by omega), if_pos (by omega), if_pos (by omega), if_neg h0]
        by_cases c : (rd_T38 x0 ((n : Int) - 1)).f0 ≥ (rd_T38 x0 (n : Int)).f0
        · rw [if_pos c]
          have : ¬ (rd_T38 x0 ((n : Int) - 1)).f0 < (rd_T38 x0 (n : Int)).f0 := by omega
          simp [this]
        · rw [if_neg c]
          have : (rd_T38 x0 ((n : Int) - 1)).f0 < (rd_T38 x0 (n : Int)).f0 := by omega
          simp [this]
theorem refMay_eq (k : Nat) (x0 : List S38) (hl : x0.length < 4611686018427387904) (hk : x0.length < k) : scrivenerref19_May.f k x0 = some (mayRow x0) := by
  unfold scrivenerref19_May.f
  refine (refMay_at x0.length k 0 x0 (by omega) hl hk).trans ?_
  rw [if_pos rfl, upFrom_none, List.drop_zero]
  unfold mayRow
  rw [Bool.and_comm]
  congr 2
  exact decide_eq_decide.2 (by omega)
theorem seenMay_eq (x0 : List S38) (hl : x0.length ≤ 5864062014805) : seen_May.f x0 = some (mayRow x0) := by
  unfold seen_May.f
  rw [if_pos hl]

/-! Same -/
theorem S38_ext (a b : S38) (h0 : a.f0 = b.f0) (h1 : a.f1 = b.f1) (h2 : a.f2 = b.f2) : a = b := by
  cases a; cases b; cases h0; cases h1; cases h2; rfl
instance : DecidableEq S38 := fun a b =>
  if h : a.f0 = b.f0 ∧ a.f1 = b.f1 ∧ a.f2 = b.f2 then isTrue (S38_ext a b h.1 h.2.1 h.2.2) else isFalse (fun e => h (by subst e; exact ⟨rfl, rfl, rfl⟩))
theorem differ_iff (a b : S38) : (!(a.f0 == b.f0) || (!(a.f1 == b.f1) || (!(a.f2 == b.f2)))) = true ↔ a ≠ b := by
  constructor
  · rintro h rfl
    simp at h
  · intro h
    by_cases h0 : a.f0 = b.f0
    · by_cases h1 : a.f1 = b.f1
      · by_cases h2 : a.f2 = b.f2
        · exact absurd (S38_ext a b h0 h1 h2) h
        · simp [h2]
      · simp [h1]
    · simp [h0]
theorem refSame_at : ∀ (d k n : Nat) (x0 x1 : List S38), x0.length = n + d → x1.length = x0.length → x0.length < 4611686018427387904 → d < k →
    scrivenerref19_Same.l0 k x0 x1 (n : Int) = some (decide (x0.drop n = x1.drop n))
  | 0, 0, n, x0, x1, _, _, _, hk => absurd hk (by omega)
  | 0, k + 1, n, x0, x1, hn, h1, hl, hk => by
    unfold scrivenerref19_Same.l0
    rw [if_neg (by omega), List.drop_of_length_le (by omega), List.drop_of_length_le (by omega)]
    simp
  | d + 1, 0, n, x0, x1, _, _, _, hk => absurd hk (by omega)
  | d + 1, k + 1, n, x0, x1, hn, h1, hl, hk => by
    unfold scrivenerref19_Same.l0
    rw [if_pos (by omega), if_pos (by omega), if_pos (by omega), w64_succ n (by omega), refSame_at d k (n + 1) x0 x1 (by omega) h1 hl (by omega), rd38_drop x0 n (by omega), rd38_drop x1 n (by omega)]
    by_cases c : rd_T38 x0 (n : Int) = rd_T38 x1 (n : Int)
    · rw [if_neg (fun h => (differ_iff _ _).1 h c)]
      congr 1
      apply decide_eq_decide.2
      rw [c]
      exact ⟨fun h => by rw [h], fun h => (List.cons.inj h).2⟩
    · rw [if_pos ((differ_iff _ _).2 c)]
      congr 1
      exact (decide_eq_false (fun h => c (List.cons.inj h).1)).symm
theorem refSame_eq (k : Nat) (x0 x1 : List S38) (hl : x0.length < 4611686018427387904) (hk : x0.length < k) : scrivenerref19_Same.f k x0 x1 = some (decide (x0 = x1)) := by
  unfold scrivenerref19_Same.f
  by_cases h : (x0.length : Int) = (x1.length : Int)
  · rw [if_pos h]
    exact refSame_at x0.length k 0 x0 x1 (by omega) (by omega) hl hk
  · rw [if_neg h]
    congr 1
    exact (decide_eq_false (fun e => h (by rw [e]))).symm
theorem seenSame_at : ∀ (d k n : Nat) (x0 x1 : List S38), x0.length = n + d → x1.length = x0.length → x0.length < 4611686018427387904 → d < k →
    api_Mark_49.l0 k x0 x1 (x0.length : Int) (n : Int) = some (decide (x0.drop n = x1.drop n))
  | 0, 0, n, x0, x1, _, _, _, hk => absurd hk (by omega)
  | 0, k + 1, n, x0, x1, hn, h1, hl, hk => by
    unfold api_Mark_49.l0
    rw [if_neg (by omega), List.drop_of_length_le (by omega), List.drop_of_length_le (by omega)]
    simp
  | d + 1, 0, n, x0, x1, _, _, _, hk => absurd hk (by omega)
  | d + 1, k + 1, n, x0, x1, hn, h1, hl, hk => by
    unfold api_Mark_49.l0
    rw [if_pos (by omega), if_pos (by omega), if_pos (by omega), if_pos (by omega), w64_succ n (by omega), seenSame_at d k (n + 1) x0 x1 (by omega) h1 hl (by omega), rd38_drop x0 n (by omega), rd38_drop x1 n (by omega)]
    by_cases c : rd_T38 x0 (n : Int) = rd_T38 x1 (n : Int)
    · rw [if_neg (fun h => (differ_iff _ _).1 h c)]
      congr 1
      apply decide_eq_decide.2
      rw [c]
      exact ⟨fun h => by rw [h], fun h => (List.cons.inj h).2⟩
    · rw [if_pos ((differ_iff _ _).2 c)]
      congr 1
      exact (decide_eq_false (fun h => c (List.cons.inj h).1)).symm
theorem seenSame_eq (k : Nat) (x0 x1 : List S38) (hl : x0.length < 4611686018427387904) (hk : x0.length < k) : seen_Same.f k x0 x1 = some (decide (x0 = x1)) := by
  unfold seen_Same.f api_Mark_49.f
  by_cases h : (x0.length : Int) = (x1.length : Int)
  · rw [if_pos h, show ((0 : Int) = ((0 : Nat) : Int)) from rfl, seenSame_at x0.length k 0 x0 x1 (by omega) (by omega) hl hk]
    rfl
  · rw [if_neg h, decide_eq_false (fun e => h (by rw [e]))]
    rfl

/-! Cut -/
theorem refCut_at : ∀ (d k n : Nat) (x0 : List S38) (a : Int) (out : List S38), x0.length = n + d → out.length + d < 5864062014805 → x0.length < 4611686018427387904 → d < k →
    scrivenerref19_Cut.l0 k x0 a out (n : Int) = some (out ++ (x0.drop n).filter fun m => decide (m.f2 < a))
  | 0, 0, n, x0, a, out, _, _, _, hk => absurd hk (by omega)
  | 0, k + 1, n, x0, a, out, hn, _, hl, hk => by
    unfold scrivenerref19_Cut.l0
    rw [if_neg (by omega), List.drop_of_length_le (by omega)]
    simp
  | d + 1, 0, n, x0, a, out, _, _, _, hk => absurd hk (by omega)
  | d + 1, k + 1, n, x0, a, out, hn, ho, hl, hk => by
    unfold scrivenerref19_Cut.l0
    rw [if_pos (by omega), if_pos (by omega), w64_succ n (by omega), rd38_drop x0 n (by omega), if_pos (show out.length < 5864062014805 by omega)]
    by_cases c : (rd_T38 x0 (n : Int)).f2 < a
    · rw [if_pos c, refCut_at d k (n + 1) x0 a _ (by omega) (by simp; omega) hl (by omega), List.filter_cons_of_pos (by simpa using c)]
      simp
    · rw [if_neg c, refCut_at d k (n + 1) x0 a _ (by omega) (by omega) hl (by omega), List.filter_cons_of_neg (by simpa using c)]
theorem refCut_eq (k : Nat) (x0 : List S38) (a : Int) (hl : x0.length < 5864062014805) (hk : x0.length < k) : scrivenerref19_Cut.f k x0 a = some (x0.filter fun m => decide (m.f2 < a)) := by
  unfold scrivenerref19_Cut.f
  refine (refCut_at x0.length k 0 x0 a [] (by omega) (by simpa using hl) (by omega) hk).trans ?_
  rw [List.drop_zero]
  rfl
theorem seenCut_eq (x0 : List S38) (a : Int) (hl : x0.length ≤ 5864062014805) : seen_Cut.f x0 a = some (x0.filter fun m => decide (m.f2 < a)) := by
  unfold seen_Cut.f
  rw [if_pos hl]

/-! is -/
theorem spoil_at : ∀ (d k n : Nat) (x0 : List S38), x0.length = n + d → x0.length < 4611686018427387904 → d < k → ∃ y, scrivenerlaw19_spoil.l0 k x0 (n : Int) = some y
  | 0, 0, n, x0, _, _, hk => absurd hk (by omega)
  | 0, k + 1, n, x0, hn, hl, hk => by
    unfold scrivenerlaw19_spoil.l0
    rw [if_neg (by omega)]
    exact ⟨_, rfl⟩
  | d + 1, 0, n, x0, _, _, hk => absurd hk (by omega)
  | d + 1, k + 1, n, x0, hn, hl, hk => by
    unfold scrivenerlaw19_spoil.l0
    rw [if_pos (by omega), if_pos (by omega), w64_succ n (by omega)]
    exact spoil_at d k (n + 1) _ (by simp; omega) (by simp; omega) (by omega)
theorem spoil_eq (k : Nat) (x0 : List S38) (hl : x0.length < 4611686018427387904) (hk : x0.length < k) : ∃ y, scrivenerlaw19_spoil.f k x0 = some y :=
  spoil_at x0.length k 0 x0 (by omega) hl hk
theorem is_eq (k : Nat) (x0 x1 : List S38) (e f : Int) (hl : x0.length < 4611686018427387904) (hk : x0.length < k) (he : e = f) (hx : x0 = x1) : ∃ y, scrivenerlaw19_is.f k x0 e x1 f = some (true, y) := by
  subst he
  subst hx
  obtain ⟨y, hy⟩ := spoil_eq k x0 hl hk
  refine ⟨y, ?_⟩
  unfold scrivenerlaw19_is.f
  rw [if_pos rfl, refSame_eq k x0 x0 hl hk, hy]
  simp

end Go.Proofs.Ytokhckbjdpgkfaa.P
