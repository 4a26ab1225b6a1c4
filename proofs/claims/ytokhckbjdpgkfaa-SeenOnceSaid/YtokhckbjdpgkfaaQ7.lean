/- SeenOnce's plain law: what the walked statement comes to is true for all entries. -/
import Derived.Test.YtokhckbjdpgkfaaQ2
import Derived.Test.YtokhckbjdpgkfaaOw
namespace Go.Proofs.Ytokhckbjdpgkfaa.P
set_option linter.unusedVariables false
set_option linter.unusedSimpArgs false
open Go.RowKit Go.Proofs.YtokhckbjdpgkfaaW.PrintWords Go.Proofs.YtokhckbjdpgkfaaW.PrintLast

/-- What is done with a message once the log is gone through. -/
def onceTail (k : Nat) (x0 : List S30) (x3 : List S38) (x4 : List S30) (x5 x6 x7 : Int) (x8 : Bool) : Option Bool := (if x6 = 0 then (if 0 ≤ x5 then (if x5 < (x0.length : Int) then ((seen_Take.f x3 (IntKind.u64.wrap ((x4.length : Int))) [rd_T30 x0 x5]).bind fun bt139 => (if x8 = true then (some false) else (if bt139.2 = 0 then ((seen_May.f bt139.1).bind fun t143 => (if t143 = true then (if x4.length < 3518437208883 then (scrivenerlaw19_SeenOnceP.l0 k x0 bt139.1 (x4 ++ [rd_T30 x0 x5]) (wrap64 (x5 + 1))) else (none)) else (some false))) else (some false)))) else (none)) else (none)) else (if x6 = 1 then (if x7 ≥ (IntKind.u64.wrap ((x4.length : Int))) then (some false) else (if 0 ≤ x7 then (if x7 < (x4.length : Int) then (if 0 ≤ x5 then (if x5 < (x0.length : Int) then (if ((rd_T30 x4 x7).f0) = ((rd_T30 x0 x5).f0) then (if ((rd_T30 x4 x7).f1) = ((rd_T30 x0 x5).f1) then (scrivenerlaw19_SeenOnceP.l0 k x0 x3 x4 (wrap64 (x5 + 1))) else (some false)) else (some false)) else (none)) else (none)) else (none)) else (none))) else (if x6 = 2 then (if x8 = true then (scrivenerlaw19_SeenOnceP.l0 k x0 x3 x4 (wrap64 (x5 + 1))) else (some false)) else (if (x3.length : Int) = 6 then (if x8 = true then (some false) else (scrivenerlaw19_SeenOnceP.l0 k x0 x3 x4 (wrap64 (x5 + 1)))) else (some false)))))
/-- An entry of the same producer with a later number. -/
def isLater (e x : S30) : Bool := decide (x.f0 = e.f0) && decide (x.f1 > e.f1)
theorem once_l1 : ∀ (d k j n : Nat) (x0 : List S30) (M : List S38) (Lg : List S30) (what at_ : Int) (later : Bool), Lg.length = j + d → n < x0.length → x0.length ≤ 1000 → Lg.length ≤ 1000 →
    (what = 0 → ∀ x ∈ Lg, x.f0 = (rd_T30 x0 (n : Int)).f0 → x.f1 ≠ (rd_T30 x0 (n : Int)).f1) →
    scrivenerlaw19_SeenOnceP.l1 (k + d + 1) x0 M Lg (n : Int) what at_ later (j : Int) = onceTail k x0 M Lg (n : Int) what at_ (later || (Lg.drop j).any (isLater (rd_T30 x0 (n : Int))))
  | 0, k, j, n, x0, M, Lg, what, at_, later, hj, hn, h0, hl, hw => by
    show scrivenerlaw19_SeenOnceP.l1 (k + 1) x0 M Lg (n : Int) what at_ later (j : Int) = _
    unfold scrivenerlaw19_SeenOnceP.l1
    rw [if_neg (by omega), List.drop_of_length_le (by omega), List.any_nil, Bool.or_false]
    rfl
  | d + 1, k, j, n, x0, M, Lg, what, at_, later, hj, hn, h0, hl, hw => by
    show scrivenerlaw19_SeenOnceP.l1 ((k + d + 1) + 1) x0 M Lg (n : Int) what at_ later (j : Int) = _
    unfold scrivenerlaw19_SeenOnceP.l1
    have hmem : rd_T30 Lg (j : Int) ∈ Lg := by
      rw [rd30_nat Lg j (by omega)]
      exact List.getElem_mem _
    rw [if_pos (by omega), if_pos (by omega), if_pos (by omega), if_pos (by omega), w64_succ j (by omega), rd30_drop Lg j (by omega), List.any_cons]
    have ih := fun (later : Bool) => once_l1 d k (j + 1) n x0 M Lg what at_ later (by omega) hn h0 hl hw
    by_cases c1 : (rd_T30 Lg (j : Int)).f0 = (rd_T30 x0 (n : Int)).f0
    · rw [if_pos c1]
      have e1 : isLater (rd_T30 x0 (n : Int)) (rd_T30 Lg (j : Int)) = decide ((rd_T30 Lg (j : Int)).f1 > (rd_T30 x0 (n : Int)).f1) := by
        unfold isLater
        rw [decide_eq_true c1, Bool.true_and]
      have key : (if later = true then scrivenerlaw19_SeenOnceP.l1 (k + d + 1) x0 M Lg (n : Int) what at_ true ((j + 1 : Nat) : Int) else scrivenerlaw19_SeenOnceP.l1 (k + d + 1) x0 M Lg (n : Int) what at_ (decide ((rd_T30 Lg (j : Int)).f1 > (rd_T30 x0 (n : Int)).f1)) ((j + 1 : Nat) : Int)) = onceTail k x0 M Lg (n : Int) what at_ (later || (isLater (rd_T30 x0 (n : Int)) (rd_T30 Lg (j : Int)) || (Lg.drop (j + 1)).any (isLater (rd_T30 x0 (n : Int))))) := by
        cases later with
        | true => rw [if_pos rfl, ih true, Bool.true_or, Bool.true_or]
        | false => rw [if_neg (by decide), ih, e1, Bool.false_or]
      by_cases c2 : (rd_T30 Lg (j : Int)).f1 = (rd_T30 x0 (n : Int)).f1
      · rw [if_pos c2, if_neg (fun e => hw e _ hmem c1 c2)]
        exact key
      · rw [if_neg c2]
        exact key
    · rw [if_neg c1, ih later]
      have e1 : isLater (rd_T30 x0 (n : Int)) (rd_T30 Lg (j : Int)) = false := by
        unfold isLater
        rw [decide_eq_false c1, Bool.false_and]
      rw [e1, Bool.false_or]

/-- What holds between the marks and the log. -/
structure OnceInv (M : List S38) (Lg : List S30) : Prop where
  may : mayRow M = true
  pt : ∀ m ∈ M, ∃ i : Nat, i < Lg.length ∧ m.f2 = (i : Int) ∧ (rd_T30 Lg (i : Int)).f0 = m.f0 ∧ (rd_T30 Lg (i : Int)).f1 = m.f1
  cov : ∀ x ∈ Lg, ∃ m, getM M x.f0 = some m ∧ x.f1 ≤ m.f1
theorem onceInv_nil : OnceInv [] [] := ⟨by decide, fun m hm => (by cases hm), fun x hx => (by cases hx)⟩
theorem rd30_app (Lg : List S30) (e : S30) (i : Nat) (h : i < Lg.length) : rd_T30 (Lg ++ [e]) (i : Int) = rd_T30 Lg (i : Int) := by
  rw [rd30_nat _ i (by simp; omega), rd30_nat Lg i h, List.getElem_append_left h]
theorem rd30_last (Lg : List S30) (e : S30) : rd_T30 (Lg ++ [e]) ((Lg.length : Nat) : Int) = e := by
  rw [rd30_nat _ _ (by simp)]
  simp
/-- A new message's mark. -/
theorem onceInv_new {M : List S38} {Lg : List S30} {e : S30} (h : OnceInv M Lg) (hn : Lg.length ≤ 1000) (he : mayE e = true) (hnew : ∀ m, getM M e.f0 = some m → m.f1 < e.f1) (hroom : getM M e.f0 = none → M.length < 6) :
    ∃ r, takeA M (Lg.length : Int) [e] = (r, 0) ∧ mayRow r = true ∧ OnceInv r (Lg ++ [e]) := by
  obtain ⟨a1, a2, a3⟩ := (mayRow_iff M).1 h.may
  have hgo : goesOne M ⟨e.f0, e.f1, (Lg.length : Int)⟩ = some (insR ⟨e.f0, e.f1, (Lg.length : Int)⟩ M) := by
    rw [goesOne_eq a3]
    cases hg : getM M e.f0 with
    | some m =>
      have := hnew m hg
      simp only [hg, if_pos this]
    | none =>
      have := hroom hg
      simp only [hg]
      rw [if_neg (by omega)]
  have hmay := goesOne_may h.may (mayE_mark he (show (Lg.length : Int) ≤ 4611686018427387903 by omega)) hgo
  refine ⟨_, ?_, hmay, hmay, ?_, ?_⟩
  · unfold takeA
    have e1 : ([e] : List S30).all mayE = true := by simp [he]
    rw [h.may, e1, Bool.and_self, if_pos rfl, if_neg (by simp), if_pos (by simp; omega)]
    show ansOf (goesAll M [⟨e.f0, e.f1, (Lg.length : Int)⟩]) = _
    rw [goesAll_one, hgo]
    rfl
  · intro m hm
    rcases insR_mem hm with rfl | hm
    · exact ⟨Lg.length, by simp, rfl, by rw [rd30_last], by rw [rd30_last]⟩
    · obtain ⟨i, i1, i2, i3, i4⟩ := h.pt m hm
      exact ⟨i, by simp; omega, i2, by rw [rd30_app _ _ _ i1]; exact i3, by rw [rd30_app _ _ _ i1]; exact i4⟩
  · intro x hx
    rw [getM_insR _ a3]
    rcases List.mem_append.1 hx with hx | hx
    · obtain ⟨m, m1, m2⟩ := h.cov x hx
      by_cases c : x.f0 = e.f0
      · rw [if_pos c]
        rw [c] at m1
        have := hnew m m1
        exact ⟨_, rfl, by show x.f1 ≤ e.f1; omega⟩
      · rw [if_neg c]
        exact ⟨m, m1, m2⟩
    · rw [List.mem_singleton.1 hx, if_pos rfl]
      exact ⟨_, rfl, Int.le_refl _⟩

set_option maxRecDepth 100000 in
theorem once_l0 : ∀ (d k n : Nat) (x0 : List S30) (M : List S38) (Lg : List S30), x0.length = n + d → x0.length ≤ 1000 → Lg.length ≤ n → OnceInv M Lg → d * 1010 + 5 ≤ k →
    scrivenerlaw19_SeenOnceP.l0 k x0 M Lg (n : Int) = some true := by
  intro d
  induction d with
  | zero =>
    intro k n x0 M Lg hn h0 hl hi hk
    obtain ⟨k, rfl⟩ : ∃ j, k = j + 1 := ⟨k - 1, by omega⟩
    unfold scrivenerlaw19_SeenOnceP.l0
    rw [if_neg (by omega)]
    rfl
  | succ d ih =>
    intro k n x0 M Lg hn h0 hl hi hk
    obtain ⟨k, rfl⟩ : ∃ j, k = j + 1 := ⟨k - 1, by omega⟩
    unfold scrivenerlaw19_SeenOnceP.l0
    rw [if_pos (by omega), if_pos (by omega), refEntryMay_eq, Option.bind_some]
    cases hE : mayE (rd_T30 x0 (n : Int)) with
    | false =>
      rw [if_neg (by decide), w64_succ n (by omega)]
      exact ih k (n + 1) x0 M Lg (by omega) h0 (by omega) hi (by omega)
    | true =>
      rw [if_pos rfl, seenAsk_eq k M _ _ (by omega), Option.bind_some]
      obtain ⟨a1, a2, a3⟩ := (mayRow_iff M).1 hi.may
      obtain ⟨k2, rfl⟩ : ∃ k2, k = k2 + Lg.length + 1 := ⟨k - Lg.length - 1, by omega⟩
      have hnext := fun (M' : List S38) (Lg' : List S30) (h1 : Lg'.length ≤ n + 1) (h2 : OnceInv M' Lg') => ih k2 (n + 1) x0 M' Lg' (by omega) h0 h1 h2 (by omega)
      have hwrap : IntKind.u64.wrap (Lg.length : Int) = (Lg.length : Int) := wrapU _ (by omega) (by omega)
      -- an entry of this producer has a mark, no lesser one
      have hcov : ∀ x ∈ Lg, x.f0 = (rd_T30 x0 (n : Int)).f0 → ∃ m, getM M (rd_T30 x0 (n : Int)).f0 = some m ∧ x.f1 ≤ m.f1 := fun x hx hp => by
        obtain ⟨m, m1, m2⟩ := hi.cov x hx
        rw [hp] at m1
        exact ⟨m, m1, m2⟩
      -- a new message
      have hnewcase : (∀ m, getM M (rd_T30 x0 (n : Int)).f0 = some m → m.f1 < (rd_T30 x0 (n : Int)).f1) → (getM M (rd_T30 x0 (n : Int)).f0 = none → M.length < 6) →
          scrivenerlaw19_SeenOnceP.l1 (k2 + Lg.length + 1) x0 M Lg (n : Int) 0 0 false 0 = some true := fun hnew hroom => by
        have hlt : ∀ x ∈ Lg, x.f0 = (rd_T30 x0 (n : Int)).f0 → x.f1 < (rd_T30 x0 (n : Int)).f1 := fun x hx hp => by
          obtain ⟨m, m1, m2⟩ := hcov x hx hp
          have := hnew m m1
          omega
        refine (once_l1 Lg.length k2 0 n x0 M Lg 0 0 false (by omega) (by omega) h0 (by omega) (fun _ x hx hp => by have := hlt x hx hp; omega)).trans ?_
        have hlat : (Lg.drop 0).any (isLater (rd_T30 x0 (n : Int))) = false := by
          rw [List.drop_zero, List.any_eq_false]
          intro x hx h
          unfold isLater at h
          simp only [Bool.and_eq_true, decide_eq_true_eq] at h
          have := hlt x hx h.1
          omega
        rw [hlat, Bool.or_false]
        obtain ⟨r, t1, t2, t3⟩ := onceInv_new hi (by omega) hE hnew hroom
        obtain ⟨r1, _, _⟩ := (mayRow_iff r).1 t2
        unfold onceTail
        rw [if_pos rfl, if_pos (by omega), if_pos (by omega), hwrap, seenTake_eq M _ _ (by omega) (by simp) (by omega), Option.bind_some, t1, if_neg (by decide), if_pos rfl, seenMay_eq r (by omega), Option.bind_some, t2, if_pos rfl, if_pos (by omega), w64_succ n (by omega)]
        exact hnext r (Lg ++ [rd_T30 x0 (n : Int)]) (by simp; omega) t3
      unfold askM
      rw [lastM_eq a3]
      cases hg : getM M (rd_T30 x0 (n : Int)).f0 with
      | none =>
        by_cases c6 : (M.length : Int) ≥ 6
        · simp only [if_pos c6]
          refine (once_l1 Lg.length k2 0 n x0 M Lg 3 0 false (by omega) (by omega) h0 (by omega) (fun e => by omega)).trans ?_
          have hlat : (Lg.drop 0).any (isLater (rd_T30 x0 (n : Int))) = false := by
            rw [List.drop_zero, List.any_eq_false]
            intro x hx h
            unfold isLater at h
            simp only [Bool.and_eq_true, decide_eq_true_eq] at h
            obtain ⟨m, m1, _⟩ := hcov x hx h.1
            rw [hg] at m1
            cases m1
          rw [hlat, Bool.or_false]
          unfold onceTail
          rw [if_neg (by decide), if_neg (by decide), if_neg (by decide), if_pos (by omega), if_neg (by decide), w64_succ n (by omega)]
          exact hnext M Lg (by omega) hi
        · simp only [if_neg c6]
          exact hnewcase (fun m hm => by rw [hg] at hm; cases hm) (fun _ => by omega)
      | some m =>
        obtain ⟨hmem, hmp⟩ := getM_some hg
        obtain ⟨i, i1, i2, i3, i4⟩ := hi.pt m hmem
        by_cases c1 : m.f1 = (rd_T30 x0 (n : Int)).f1
        · simp only [if_pos c1]
          refine (once_l1 Lg.length k2 0 n x0 M Lg 1 m.f2 false (by omega) (by omega) h0 (by omega) (fun e => by omega)).trans ?_
          unfold onceTail
          rw [if_neg (by decide), if_pos rfl, hwrap, i2, if_neg (by omega), if_pos (by omega), if_pos (by omega), if_pos (by omega), if_pos (by omega), if_pos (by rw [i3, hmp]), if_pos (by rw [i4, c1]), w64_succ n (by omega)]
          exact hnext M Lg (by omega) hi
        · by_cases c2 : m.f1 > (rd_T30 x0 (n : Int)).f1
          · simp only [if_neg c1, if_pos c2]
            refine (once_l1 Lg.length k2 0 n x0 M Lg 2 0 false (by omega) (by omega) h0 (by omega) (fun e => by omega)).trans ?_
            have hlat : (Lg.drop 0).any (isLater (rd_T30 x0 (n : Int))) = true := by
              rw [List.drop_zero, List.any_eq_true]
              refine ⟨rd_T30 Lg (i : Int), ?_, ?_⟩
              · rw [rd30_nat Lg i i1]
                exact List.getElem_mem _
              · unfold isLater
                rw [Bool.and_eq_true, decide_eq_true_eq, decide_eq_true_eq]
                exact ⟨by rw [i3, hmp], by rw [i4]; exact c2⟩
            rw [hlat, Bool.or_true]
            unfold onceTail
            rw [if_neg (by decide), if_neg (by decide), if_pos rfl, if_pos rfl, w64_succ n (by omega)]
            exact hnext M Lg (by omega) hi
          · simp only [if_neg c1, if_neg c2]
            exact hnewcase (fun m' hm' => by rw [hg] at hm'; cases hm'; omega) (fun h => by rw [hg] at h; cases h)

theorem SeenOnce_true (l0 : List S30) (hb : ∀ e ∈ l0, e.f2.length ≤ 9223372036854775807) : scrivenerlaw19_SeenOnceP.f 1100000 l0 = some true := by
  unfold scrivenerlaw19_SeenOnceP.f
  obtain ⟨b, e, g⟩ := long_eq 1100000 l0 (by omega) hb
  rw [e, Option.bind_some]
  cases b with
  | true => rfl
  | false =>
    rw [if_neg (by decide)]
    have := g rfl
    exact once_l0 l0.length 1100000 0 l0 [] [] (by omega) this (by simp) onceInv_nil (by omega)

theorem scrivenerlaw19_SeenOnce.calls_true (A0 : Option Addr) (c0 : Nat) (l0 : List (S30)) (w : World) (hr0 : Kd.C k30 w A0 l0.length l0) (hc0 : l0.length ≤ c0) :
    Calls Try.prog 3 #[.slice A0 l0.length c0] w fun e w' => e = .returned (.bool true) ∧ Below w.heap.size w w' :=
  scrivenerlaw19_SeenOnceP.calls 1100000 A0 c0 l0 w hr0 hc0 (SeenOnce_true l0 (bodies hr0))

end Go.Proofs.Ytokhckbjdpgkfaa.P
