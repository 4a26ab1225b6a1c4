/- SeenFolds's plain law: the document's fold is the calls' fold, for all rows and offsets. -/
import Derived.Test.YtokhckbjdpgkfaaQ1
import Derived.Test.YtokhckbjdpgkfaaGf
import Derived.Test.YtokhckbjdpgkfaaPx12
import Derived.Test.YtokhckbjdpgkfaaPx17
namespace Go.Proofs.Ytokhckbjdpgkfaa.P
set_option linter.unusedVariables false
set_option linter.unusedSimpArgs false
open Go.RowKit Go.Proofs.YtokhckbjdpgkfaaW.PrintWords Go.Proofs.YtokhckbjdpgkfaaW.PrintLast

/-! a producer's last mark -/
theorem lastM_nil (p : Int) : lastM [] p = none := rfl
theorem lastM_snoc (l : List S38) (x : S38) (p : Int) : lastM (l ++ [x]) p = if x.f0 = p then some x else lastM l p := by
  unfold lastM
  rw [List.reverse_append]
  show List.find? _ (x :: l.reverse) = _
  rw [List.find?_cons]
  by_cases c : x.f0 = p
  · simp [c]
  · have e : (x.f0 == p) = false := beq_eq_false_iff_ne.2 c
    rw [e, if_neg c]
theorem lastM_mem {l : List S38} {p : Int} {m : S38} (h : lastM l p = some m) : m ∈ l ∧ m.f0 = p :=
  ⟨List.mem_reverse.1 (List.mem_of_find?_eq_some h), by simpa using List.find?_some h⟩
/-- The last one of its producer is its last mark. -/
theorem lastM_at : ∀ (d : Nat) (l : List S38) (q : Nat), l.length = q + 1 + d → (∀ j, q < j → j < l.length → (rd_T38 l (j : Int)).f0 ≠ (rd_T38 l (q : Int)).f0) → lastM l (rd_T38 l (q : Int)).f0 = some (rd_T38 l (q : Int))
  | d, l, q, hl, h => by
    have hq : q < l.length := by omega
    have e : l = l.take q ++ rd_T38 l (q : Int) :: l.drop (q + 1) := by
      rw [← rd38_drop l q hq, List.take_append_drop]
    unfold lastM
    have e2 : l.reverse = (l.drop (q + 1)).reverse ++ (rd_T38 l (q : Int) :: (l.take q).reverse) := by
      conv => lhs; rw [e]
      simp
    rw [e2, List.find?_append]
    have e3 : (l.drop (q + 1)).reverse.find? (fun m => m.f0 == (rd_T38 l (q : Int)).f0) = none := by
      rw [List.find?_eq_none]
      intro x hx
      obtain ⟨j, hj, rfl⟩ := List.mem_iff_getElem.1 (List.mem_reverse.1 hx)
      rw [List.getElem_drop]
      have hj' : q + 1 + j < l.length := by simp at hj; omega
      have := h (q + 1 + j) (by omega) hj'
      rw [rd38_nat l _ hj'] at this
      simpa using this
    rw [e3]
    simp

/-! the calls' fold -/
theorem fold_mem (a : Int) : ∀ (r P F : List S38), (∀ m, m ∈ F ↔ lastM P m.f0 = some m) → ∀ m, m ∈ r.foldl (foldOne a) F ↔ lastM (P ++ r.filter fun x => decide (x.f2 < a)) m.f0 = some m
  | [], P, F, h, m => by simpa using h m
  | x :: r, P, F, h, m => by
    show m ∈ List.foldl (foldOne a) (foldOne a F x) r ↔ _
    by_cases c : x.f2 < a
    · rw [List.filter_cons_of_pos (by simpa using c)]
      have e : P ++ x :: (r.filter fun x => decide (x.f2 < a)) = (P ++ [x]) ++ (r.filter fun x => decide (x.f2 < a)) := by simp
      rw [e]
      refine fold_mem a r (P ++ [x]) _ (fun y => ?_) m
      unfold foldOne
      rw [if_neg (by omega), lastM_snoc, List.mem_append, List.mem_singleton, List.mem_filter, h y]
      by_cases c2 : x.f0 = y.f0
      · rw [if_pos c2]
        constructor
        · rintro (⟨_, h2⟩ | rfl)
          · simp [c2] at h2
          · rfl
        · intro h2
          exact .inr (Option.some.inj h2).symm
      · rw [if_neg c2]
        constructor
        · rintro (⟨h1, _⟩ | rfl)
          · exact h1
          · exact absurd rfl c2
        · intro h1
          exact .inl ⟨h1, by simpa using fun e => c2 e.symm⟩
    · rw [List.filter_cons_of_neg (by simpa using c)]
      have e : foldOne a F x = F := by
        unfold foldOne
        rw [if_pos (by omega)]
      rw [e]
      exact fold_mem a r P F h m

/-! the document's fold -/
/-- A producer is behind those that were taken. -/
def Bh (out : List S38) (p : Int) : Prop := out = [] ∨ (rd_T38 out ((out.length : Int) - 1)).f0 < p
/-- What is chosen of the first marks: the last one of the least producer that is behind. -/
def Sel (L out : List S38) (i : Nat) (x9 : Int) : Prop :=
  (x9 = -1 ∧ ∀ j : Nat, j < i → ¬ Bh out (rd_T38 L (j : Int)).f0) ∨
  (∃ q : Nat, x9 = (q : Int) ∧ q < i ∧ Bh out (rd_T38 L (q : Int)).f0 ∧ ∀ j : Nat, j < i → Bh out (rd_T38 L (j : Int)).f0 → (rd_T38 L (q : Int)).f0 ≤ (rd_T38 L (j : Int)).f0 ∧ ((rd_T38 L (j : Int)).f0 = (rd_T38 L (q : Int)).f0 → j ≤ q))
theorem sel_take {L out : List S38} {i : Nat} {x9 : Int} (h : Sel L out i x9) (hb : Bh out (rd_T38 L (i : Int)).f0) (ht : x9 < 0 ∨ (rd_T38 L (i : Int)).f0 ≤ (rd_T38 L x9).f0) : Sel L out (i + 1) (i : Int) := by
  refine .inr ⟨i, rfl, by omega, hb, fun j hj hbj => ?_⟩
  by_cases e : j = i
  · subst e
    exact ⟨Int.le_refl _, fun _ => Nat.le_refl _⟩
  · rcases h with ⟨_, h⟩ | ⟨q, rfl, hq, hbq, h⟩
    · exact absurd hbj (h j (by omega))
    · have h1 := h j (by omega) hbj
      have h2 : (rd_T38 L (i : Int)).f0 ≤ (rd_T38 L (q : Int)).f0 := by
        rcases ht with ht | ht
        · omega
        · exact ht
      exact ⟨by omega, fun _ => by omega⟩
theorem sel_skip {L out : List S38} {i : Nat} {x9 : Int} (h : Sel L out i x9) (hs : ¬ (Bh out (rd_T38 L (i : Int)).f0 ∧ (x9 < 0 ∨ (rd_T38 L (i : Int)).f0 ≤ (rd_T38 L x9).f0))) : Sel L out (i + 1) x9 := by
  rcases h with ⟨rfl, h⟩ | ⟨q, rfl, hq, hbq, h⟩
  · refine .inl ⟨rfl, fun j hj hb => ?_⟩
    by_cases e : j = i
    · subst e
      exact hs ⟨hb, .inl (by omega)⟩
    · exact h j (by omega) hb
  · refine .inr ⟨q, rfl, by omega, hbq, fun j hj hb => ?_⟩
    by_cases e : j = i
    · subst e
      have : ¬ (rd_T38 L (j : Int)).f0 ≤ (rd_T38 L (q : Int)).f0 := fun h2 => hs ⟨hb, .inr h2⟩
      exact ⟨by omega, fun e2 => by omega⟩
    · exact h j (by omega) hb
theorem l1_take (k i : Nat) (L out : List S38) (x9 : Int) (hi : i < L.length) (hL : L.length ≤ 2000) (ho : out.length ≤ 2000) (h9 : x9 = -1 ∨ ∃ q : Nat, x9 = (q : Int) ∧ q < L.length)
    (hb : Bh out (rd_T38 L (i : Int)).f0) (ht : x9 < 0 ∨ (rd_T38 L (i : Int)).f0 ≤ (rd_T38 L x9).f0) :
    scrivenerref19_Fold.l1 (k + 1) L out x9 (i : Int) = scrivenerref19_Fold.l1 k L out (i : Int) ((i + 1 : Nat) : Int) := by
  conv => lhs; unfold scrivenerref19_Fold.l1
  have hw := w64_succ i (by omega)
  have hp := w64_pred out.length (by omega)
  have inner : (if x9 < 0 then (scrivenerref19_Fold.l1 k L out (i : Int) (wrap64 ((i : Int) + 1))) else (if 0 ≤ (i : Int) then (if 0 ≤ x9 then (if x9 < (L.length : Int) then (if ((rd_T38 L (i : Int)).f0) ≤ ((rd_T38 L x9).f0) then (scrivenerref19_Fold.l1 k L out (i : Int) (wrap64 ((i : Int) + 1))) else (scrivenerref19_Fold.l1 k L out x9 (wrap64 ((i : Int) + 1)))) else (none)) else (none)) else (none))) = scrivenerref19_Fold.l1 k L out (i : Int) ((i + 1 : Nat) : Int) := by
    rw [hw]
    by_cases c : x9 < 0
    · rw [if_pos c]
    · have : ∃ q : Nat, x9 = (q : Int) ∧ q < L.length := by
        rcases h9 with h9 | h9
        · omega
        · exact h9
      obtain ⟨q, rfl, hq⟩ := this
      have ht' : (rd_T38 L (i : Int)).f0 ≤ (rd_T38 L (q : Int)).f0 := by
        rcases ht with ht | ht
        · omega
        · exact ht
      rw [if_neg c, if_pos (by omega), if_pos (by omega), if_pos (by omega), if_pos ht']
  rw [if_pos (by omega)]
  by_cases c0 : (out.length : Int) = 0
  · rw [if_pos c0]
    exact inner
  · have hb' : (rd_T38 out ((out.length : Int) - 1)).f0 < (rd_T38 L (i : Int)).f0 := by
      rcases hb with hb | hb
      · rw [hb] at c0
        exact absurd rfl c0
      · exact hb
    rw [if_neg c0, if_pos (by omega), hp, if_pos (by omega), if_pos (by omega), if_pos hb']
    by_cases c : x9 < 0
    · rw [if_pos c]
      rw [if_pos c] at inner
      exact inner
    · rw [if_neg c]
      rw [if_neg c, if_pos (show 0 ≤ (i : Int) by omega)] at inner
      exact inner
theorem l1_skip (k i : Nat) (L out : List S38) (x9 : Int) (hi : i < L.length) (hL : L.length ≤ 2000) (ho : out.length ≤ 2000) (h9 : x9 = -1 ∨ ∃ q : Nat, x9 = (q : Int) ∧ q < L.length)
    (hs : ¬ (Bh out (rd_T38 L (i : Int)).f0 ∧ (x9 < 0 ∨ (rd_T38 L (i : Int)).f0 ≤ (rd_T38 L x9).f0))) :
    scrivenerref19_Fold.l1 (k + 1) L out x9 (i : Int) = scrivenerref19_Fold.l1 k L out x9 ((i + 1 : Nat) : Int) := by
  conv => lhs; unfold scrivenerref19_Fold.l1
  have hw := w64_succ i (by omega)
  have hp := w64_pred out.length (by omega)
  rw [if_pos (by omega)]
  have mid : Bh out (rd_T38 L (i : Int)).f0 → ∃ q : Nat, x9 = (q : Int) ∧ q < L.length ∧ ¬ (rd_T38 L (i : Int)).f0 ≤ (rd_T38 L x9).f0 := fun hb => by
    rcases h9 with h9 | ⟨q, h9, hq⟩
    · exact absurd ⟨hb, .inl (by omega)⟩ hs
    · exact ⟨q, h9, hq, fun h => hs ⟨hb, .inr h⟩⟩
  by_cases c0 : (out.length : Int) = 0
  · obtain ⟨q, rfl, hq, hn⟩ := mid (.inl (List.eq_nil_of_length_eq_zero (by omega)))
    rw [if_pos c0, if_neg (by omega), if_pos (by omega), if_pos (by omega), if_pos (by omega), if_neg hn, hw]
  · rw [if_neg c0, if_pos (by omega), hp, if_pos (by omega), if_pos (by omega)]
    by_cases hb : (rd_T38 L (i : Int)).f0 > (rd_T38 out ((out.length : Int) - 1)).f0
    · obtain ⟨q, rfl, hq, hn⟩ := mid (.inr hb)
      rw [if_pos hb, if_neg (by omega), if_pos (by omega), if_pos (by omega), if_neg hn, hw]
    · rw [if_neg hb, hw]
/-- What is done once all marks are gone through. -/
def foldTail (k : Nat) (L out : List S38) (x9 : Int) : Option (List S38) :=
  if x9 < 0 then (some out) else (if 0 ≤ x9 then (if x9 < (L.length : Int) then (if out.length < 5864062014805 then (scrivenerref19_Fold.l0 k L (out ++ [(⟨(rd_T38 L x9).f0, (rd_T38 L x9).f1, (rd_T38 L x9).f2⟩ : S38)])) else (none)) else (none)) else (none))
theorem fold_l1 : ∀ (d k i : Nat) (L out : List S38) (x9 : Int), L.length = i + d → L.length ≤ 2000 → out.length ≤ 2000 → Sel L out i x9 → ∃ z, Sel L out L.length z ∧ scrivenerref19_Fold.l1 (k + d + 1) L out x9 (i : Int) = foldTail k L out z
  | 0, k, i, L, out, x9, hi, hL, ho, h => by
    have : i = L.length := by omega
    subst this
    refine ⟨x9, h, ?_⟩
    show scrivenerref19_Fold.l1 (k + 1) L out x9 (L.length : Int) = _
    unfold scrivenerref19_Fold.l1
    rw [if_neg (by omega)]
    rfl
  | d + 1, k, i, L, out, x9, hi, hL, ho, h => by
    have h9 : x9 = -1 ∨ ∃ q : Nat, x9 = (q : Int) ∧ q < L.length := by
      rcases h with ⟨h, _⟩ | ⟨q, h, hq, _⟩
      · exact .inl h
      · exact .inr ⟨q, h, by omega⟩
    show ∃ z, _ ∧ scrivenerref19_Fold.l1 ((k + d + 1) + 1) L out x9 (i : Int) = _
    by_cases c : Bh out (rd_T38 L (i : Int)).f0 ∧ (x9 < 0 ∨ (rd_T38 L (i : Int)).f0 ≤ (rd_T38 L x9).f0)
    · rw [l1_take (k + d + 1) i L out x9 (by omega) hL ho h9 c.1 c.2]
      exact fold_l1 d k (i + 1) L out _ (by omega) hL ho (sel_take h c.1 c.2)
    · rw [l1_skip (k + d + 1) i L out x9 (by omega) hL ho h9 c]
      exact fold_l1 d k (i + 1) L out _ (by omega) hL ho (sel_skip h c)

theorem rowUp_nil' : RowUp [] := List.Pairwise.nil
/-- The marks that were taken: the last ones of the lesser producers. -/
structure OutInv (L out : List S38) : Prop where
  up : RowUp out
  last : ∀ y ∈ out, lastM L y.f0 = some y
  all : ∀ x ∈ L, ¬ Bh out x.f0 → ∃ y ∈ out, y.f0 = x.f0
theorem bh_iff {out : List S38} (h : RowUp out) (p : Int) : Bh out p ↔ ∀ y ∈ out, y.f0 < p := by
  unfold Bh
  by_cases c : out = []
  · subst c
    simp
  · have hlen : 0 < out.length := List.length_pos_iff.2 c
    have e : ((out.length : Int) - 1) = ((out.length - 1 : Nat) : Int) := by omega
    rw [e, rd38_nat out _ (by omega)]
    constructor
    · rintro (h1 | h1)
      · exact absurd h1 c
      · intro y hy
        obtain ⟨j, hj, rfl⟩ := List.mem_iff_getElem.1 hy
        by_cases e2 : j = out.length - 1
        · subst e2
          exact h1
        · have := List.pairwise_iff_getElem.1 h j (out.length - 1) hj (by omega) (by omega)
          omega
    · intro h1
      exact .inr (h1 _ (List.getElem_mem _))
set_option maxRecDepth 100000 in
theorem fold_l0 : ∀ (d k : Nat) (L out : List S38), L.length ≤ 2000 → OutInv L out → L.length < out.length + d → (∃ n, out.length ≤ n ∧ n ≤ L.length) → d * 2010 + 5 ≤ k →
    ∃ o, scrivenerref19_Fold.l0 k L out = some o ∧ RowUp o ∧ ∀ m, m ∈ o ↔ lastM L m.f0 = some m := by
  intro d
  induction d with
  | zero =>
    intro k L out hL hi hd hn hk
    obtain ⟨n, h1, h2⟩ := hn
    omega
  | succ d ih =>
    intro k L out hL hi hd hn hk
    obtain ⟨n, hn1, hn2⟩ := hn
    obtain ⟨k2, rfl⟩ : ∃ k2, k = k2 + L.length + 1 + 1 := ⟨k - L.length - 2, by omega⟩
    obtain ⟨z, hz, hr⟩ := fold_l1 L.length k2 0 L out (-1) (by omega) hL (by omega) (.inl ⟨rfl, fun j hj => by omega⟩)
    have e0 : scrivenerref19_Fold.l0 (k2 + L.length + 1 + 1) L out = scrivenerref19_Fold.l1 (k2 + L.length + 1) L out (-1) 0 := by
      conv => lhs; unfold scrivenerref19_Fold.l0
    rw [e0]
    have hr' : scrivenerref19_Fold.l1 (k2 + L.length + 1) L out (-1) 0 = foldTail k2 L out z := hr
    rw [hr']
    unfold foldTail
    rcases hz with ⟨rfl, hz⟩ | ⟨q, rfl, hq, hbq, hz⟩
    · rw [if_pos (by omega)]
      refine ⟨out, rfl, hi.up, fun m => ⟨hi.last m, fun hm => ?_⟩⟩
      obtain ⟨hmem, _⟩ := lastM_mem hm
      obtain ⟨j, hj, hje⟩ := List.mem_iff_getElem.1 hmem
      have hnb := hz j hj
      rw [rd38_nat L j hj, hje] at hnb
      obtain ⟨y, hy, hye⟩ := hi.all m hmem hnb
      have := hi.last y hy
      rw [hye, hm] at this
      cases this
      exact hy
    · rw [if_neg (by omega), if_pos (by omega), if_pos (by omega), if_pos (by omega)]
      have hzmem : rd_T38 L (q : Int) ∈ L := by
        rw [rd38_nat L q hq]
        exact List.getElem_mem _
      have hb := (bh_iff hi.up _).1 hbq
      have hlast : lastM L (rd_T38 L (q : Int)).f0 = some (rd_T38 L (q : Int)) := by
        refine lastM_at (L.length - q - 1) L q (by omega) (fun j hqj hj e => ?_)
        have hbj : Bh out (rd_T38 L (j : Int)).f0 := by rw [e]; exact hbq
        have := (hz j hj hbj).2 e
        omega
      have hup : RowUp (out ++ [rd_T38 L (q : Int)]) := List.pairwise_append.2 ⟨hi.up, List.pairwise_singleton _ _, fun x hx y hy => by rw [List.mem_singleton.1 hy]; exact hb x hx⟩
      refine ih k2 L (out ++ [rd_T38 L (q : Int)]) hL ⟨hup, fun y hy => ?_, fun x hx hnb => ?_⟩ (by simp; omega) ?_ (by omega)
      · rcases List.mem_append.1 hy with hy | hy
        · exact hi.last y hy
        · rw [List.mem_singleton.1 hy]
          exact hlast
      · by_cases c : Bh out x.f0
        · refine ⟨rd_T38 L (q : Int), by simp, ?_⟩
          obtain ⟨j, hj, hje⟩ := List.mem_iff_getElem.1 hx
          have hrd : rd_T38 L (j : Int) = x := by rw [rd38_nat L j hj, hje]
          have h1 := (hz j hj (by rw [hrd]; exact c)).1
          rw [hrd] at h1
          rw [bh_iff hup] at hnb
          have h2 : ¬ (rd_T38 L (q : Int)).f0 < x.f0 := fun h2 => hnb (fun y hy => by
            rcases List.mem_append.1 hy with hy | hy
            · have := hb y hy
              omega
            · rw [List.mem_singleton.1 hy]
              exact h2)
          omega
        · obtain ⟨y, hy, hye⟩ := hi.all x hx c
          exact ⟨y, List.mem_append_left _ hy, hye⟩
      · -- no more marks are taken than there are
        refine ⟨L.length, ?_, Nat.le_refl _⟩
        have hsub : (out ++ [rd_T38 L (q : Int)]).Nodup := hup.imp (fun h e => by subst e; omega)
        refine List.Nodup.length_le_of_subset hsub (fun y hy => ?_)
        rcases List.mem_append.1 hy with hy | hy
        · exact (lastM_mem (hi.last y hy)).1
        · rw [List.mem_singleton.1 hy]
          exact hzmem

theorem refFold_eq (k : Nat) (l0 l1 : List S38) (a : Int) (h : l0.length + l1.length ≤ 2000) (hk : 4030000 ≤ k) : scrivenerref19_Fold.f k l0 l1 a = some (sortBy ((l0 ++ l1).foldl (foldOne a) [])) := by
  unfold scrivenerref19_Fold.f
  have c0 : ([] : List S38).length + l0.length < 5864062014805 := by simp; omega
  have c1 : ([] ++ l0 : List S38).length + l1.length < 5864062014805 := by simp; omega
  rw [Option.bind_some, if_pos c0, Option.bind_some, if_pos c1, List.nil_append, refCut_eq k (l0 ++ l1) a (by rw [List.length_append]; omega) (by rw [List.length_append]; omega), Option.bind_some]
  have hlen : ((l0 ++ l1).filter fun m => decide (m.f2 < a)).length ≤ 2000 := by
    have := List.length_filter_le (fun m : S38 => decide (m.f2 < a)) (l0 ++ l1)
    rw [List.length_append] at this
    omega
  obtain ⟨o, h1, h2, h3⟩ := fold_l0 2001 k _ [] hlen ⟨rowUp_nil', fun y hy => (by cases hy), fun x hx hb => absurd (.inl rfl) hb⟩ (by rw [List.length_nil]; omega) ⟨0, Nat.le_refl _, Nat.zero_le _⟩ (by omega)
  rw [h1]
  congr 1
  refine rowUp_mem_ext h2 (sortBy_up (fold_apart a (l0 ++ l1) [] List.Pairwise.nil)) (fun m => ?_)
  rw [h3 m, sortBy_mem, fold_mem a (l0 ++ l1) [] [] (fun m => by simp [lastM_nil]) m, List.nil_append]

theorem SeenFolds_true (l0 l1 : List S38) (a2 : Int) : scrivenerlaw19_SeenFolds.f 5000000 l0 l1 a2 = some true := by
  unfold scrivenerlaw19_SeenFolds.f
  obtain ⟨k, hk, hk2⟩ : ∃ k, 5000000 = k + 1 ∧ 4030000 ≤ k := ⟨4999999, rfl, by omega⟩
  rw [hk]
  clear hk
  by_cases h0 : (l0.length : Int) > 1000
  · rw [if_pos h0]
    unfold scrivenerlaw19_SeenFolds.j0
    rfl
  rw [if_neg h0]
  by_cases h1 : (l1.length : Int) > 1000
  · rw [decide_eq_true h1]
    unfold scrivenerlaw19_SeenFolds.j0
    rfl
  rw [decide_eq_false h1]
  have e1 := refFold_eq k l0 l1 a2 (by omega) hk2
  have hl := fold_len a2 (l0 ++ l1) []
  rw [List.length_append, List.length_nil] at hl
  have e2 : seen_Fold.f l0 l1 a2 = some (sortBy ((l0 ++ l1).foldl (foldOne a2) [])) := by
    unfold seen_Fold.f
    rw [if_pos (by omega)]
  have e3 := refSame_eq k l0 l0 (by omega) (by omega)
  have e4 := refSame_eq k l1 l1 (by omega) (by omega)
  have hlen : (sortBy ((l0 ++ l1).foldl (foldOne a2) [])).length ≤ 2000 := by rw [sortBy_length]; omega
  obtain ⟨y, hy⟩ := is_eq k (sortBy ((l0 ++ l1).foldl (foldOne a2) [])) _ 0 0 (by omega) (by omega) rfl rfl
  have hlim0 : 0 + l0.length < 5864062014805 := by omega
  have hlim1 : 0 + l1.length < 5864062014805 := by omega
  unfold scrivenerlaw19_SeenFolds.j0 scrivenerlaw19_awake.f
  simp only [Bool.false_eq_true, if_false, Option.bind_some, List.length_nil, List.nil_append, if_pos hlim0, if_pos hlim1, e1, e2, e3, e4, hy, if_true, decide_true]

theorem scrivenerlaw19_SeenFolds.calls_true (A0 : Option Addr) (c0 : Nat) (l0 : List (S38)) (A1 : Option Addr) (c1 : Nat) (l1 : List (S38)) (a2 : Int) (w : World) (hr0 : Kd.C k38 w A0 l0.length l0) (hc0 : l0.length ≤ c0) (hr1 : Kd.C k38 w A1 l1.length l1) (hc1 : l1.length ≤ c1) :
    Calls Try.prog 8 #[.slice A0 l0.length c0, .slice A1 l1.length c1, .int .u64 a2] w fun e w' => e = .returned (.bool true) ∧ Below w.heap.size w w' :=
  scrivenerlaw19_SeenFolds.calls 5000000 A0 c0 l0 A1 c1 l1 a2 true w hr0 hc0 hr1 hc1 (SeenFolds_true l0 l1 a2)

end Go.Proofs.Ytokhckbjdpgkfaa.P
