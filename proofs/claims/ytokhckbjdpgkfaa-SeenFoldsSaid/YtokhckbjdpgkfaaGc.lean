/- seen.Take: what the call answers of any row, any offset and any entries. -/
import Derived.Test.YtokhckbjdpgkfaaGa
import Derived.Test.YtokhckbjdpgkfaaGb
namespace Go.Proofs.Ytokhckbjdpgkfaa.P
set_option linter.unusedVariables false
set_option linter.unusedSimpArgs false
open Go.RowKit Go.Proofs.YtokhckbjdpgkfaaW.PrintWords Go.Proofs.YtokhckbjdpgkfaaW.PrintLast Go.Proofs.YtokhckbjdpgkfaaW.PrintMore

theorem marksFrom_append (es : List S30) : ∀ (fr : Int) (e : S30), marksFrom fr (es ++ [e]) = marksFrom fr es ++ [⟨e.f0, e.f1, fr + es.length⟩] := by
  induction es with
  | nil => intro fr e; simp [marksFrom]
  | cons x r ih =>
    intro fr e
    simp only [List.cons_append, marksFrom, ih, List.length_cons]
    congr 4
    omega
theorem marksFrom_length (es : List S30) : ∀ fr, (marksFrom fr es).length = es.length := by
  induction es with
  | nil => intro fr; rfl
  | cons x r ih => intro fr; simp [marksFrom, ih]

/-- What Take answers where its arguments may be. -/
def TakeBack (w : World) (l : List S38) (ms : List S38) (e : Ending) (w' : World) : Prop := RowBack w (goesRes l ms).1 (goesRes l ms).2 e w'

theorem idx_ge {α : Type} (p : α → Bool) (l : List α) : decide (idxOf p l ≥ 0) = !(l.all (fun x => !p x)) := by
  rw [← idx_neg]
  by_cases h : idxOf p l < 0
  · rw [decide_eq_true h]; exact decide_eq_false (by omega)
  · rw [decide_eq_false h]; exact decide_eq_true (by omega)

set_option maxHeartbeats 2000000 in
set_option maxRecDepth 100000 in
theorem take13_bad (A0 : Option Addr) (c0 : Nat) (l0 : List S38) (fr : Int) (A2 : Option Addr) (c2 : Nat) (l2 : List S30) (w : World) (hr0 : Kd.C k38 w A0 l0.length l0) (hc0 : l0.length ≤ c0) (hr2 : Kd.C k30 w A2 l2.length l2)
    (hlim : l0.length ≤ 5864062014805) (hbad : (mayRow l0 && l2.all mayE) = false) :
    Calls Try.prog 13 #[.slice A0 l0.length c0, .int .u64 fr, .slice A2 l2.length c2] w (RowBack w [] 1) := by
  have hm := seen_May.calls A0 c0 l0 (mayRow l0) w hr0 hc0 (by unfold seen_May.f; rw [if_pos hlim])
  have HM := Aside0.mk hm
  have HR2 := Aside0.mk hr2
  clear hr0 hc0 hr2 hlim hm
  cases hmr : mayRow l0 with
  | false =>
    have HMR := Aside0.mk hmr
    clear hmr hbad
    go_enter Try.func13, Try.ntmps13
    go_wp2_with (go_at_call 14; refine HM.out.mono ?_; rw [HMR.out]; rintro e w1 ⟨rfl, hb⟩; have HB := Aside0.mk hb; clear hb)
    refine bodyPost_ret (v := .tuple #[.slice none 0 0, .int .i64 1]) (by simp [results, Try.results13, go_sem]) rfl ?_
    exact ⟨_, rfl, Kd.R_nil _ _ _ _ _, HB.out⟩
  | true =>
    rw [hmr, Bool.true_and] at hbad
    have hge : Aside0 (decide (idxOf (fun e => !mayE e) l2 ≥ 0) = true) := ⟨by rw [idx_ge]; simp only [Bool.not_not]; rw [hbad]; rfl⟩
    have HMR := Aside0.mk hmr
    clear hmr hbad
    go_enter Try.func13, Try.ntmps13
    go_wp2_with (first | (go_at_call 14; refine HM.out.mono ?_; rw [HMR.out]; rintro e w1 ⟨rfl, hb⟩; have HB := Aside0.mk hb; clear hb) | (go_at_call 33; refine (first33 34 #[] (fun e => !mayE e) eg34 _ _ l2 _ (pred34 _) (Kd.C_below HR2.out HB.out)).mono ?_; rintro e w2 ⟨rfl, hb⟩; have HB2 := Aside0.mk (below_then HB.out HB.out.size hb); clear hb; have hge' := hge.out))
    refine bodyPost_ret (v := .tuple #[.slice none 0 0, .int .i64 1]) (by simp [results, Try.results13, go_sem]) rfl ?_
    exact ⟨_, rfl, Kd.R_nil _ _ _ _ _, HB2.out⟩

set_option maxHeartbeats 2000000 in
set_option maxRecDepth 100000 in
theorem take13_far (A0 : Option Addr) (c0 : Nat) (l0 : List S38) (fr : Int) (A2 : Option Addr) (c2 : Nat) (l2 : List S30) (w : World) (hr0 : Kd.C k38 w A0 l0.length l0) (hc0 : l0.length ≤ c0) (hr2 : Kd.C k30 w A2 l2.length l2)
    (hlim : l0.length ≤ 5864062014805) (hl2 : l2.length ≤ 1000000000000) (h0 : 0 ≤ fr) (hne : 1 ≤ l2.length) (hgood : (mayRow l0 && l2.all mayE) = true) (hfar : 4611686018427387904 < fr + l2.length) :
    Calls Try.prog 13 #[.slice A0 l0.length c0, .int .u64 fr, .slice A2 l2.length c2] w (RowBack w [] 1) := by
  have hm := seen_May.calls A0 c0 l0 (mayRow l0) w hr0 hc0 (by unfold seen_May.f; rw [if_pos hlim])
  have HM := Aside0.mk hm
  have HR2 := Aside0.mk hr2
  clear hr0 hc0 hr2 hlim hm
  rw [Bool.and_eq_true] at hgood
  have HMR := Aside0.mk hgood.1
  have hge : Aside0 (decide (idxOf (fun e => !mayE e) l2 ≥ 0) = false) := ⟨by rw [idx_ge]; simp only [Bool.not_not]; rw [hgood.2]; rfl⟩
  clear hgood
  have hz : (1 : Int) ≤ (l2.length : Int) := by omega
  have hz2 : (l2.length : Int) ≤ 1000000000000 := by omega
  clear hne hl2
  by_cases hx : 4611686018427387903 < fr
  · clear hfar
    go_enter Try.func13, Try.ntmps13
    go_wp2_with (first | (go_at_call 14; refine HM.out.mono ?_; rw [HMR.out]; rintro e w1 ⟨rfl, hb⟩; have HB := Aside0.mk hb; clear hb) | (go_at_call 33; refine (first33 34 #[] (fun e => !mayE e) eg34 _ _ l2 _ (pred34 _) (Kd.C_below HR2.out HB.out)).mono ?_; rintro e w2 ⟨rfl, hb⟩; have HB2 := Aside0.mk (below_then HB.out HB.out.size hb); clear hb; have hge' := hge.out))
    refine bodyPost_ret (v := .tuple #[.slice none 0 0, .int .i64 1]) (by simp [results, Try.results13, go_sem]) rfl ?_
    exact ⟨_, rfl, Kd.R_nil _ _ _ _ _, HB2.out⟩
  · have hx1 : fr ≤ 4611686018427387903 := by omega
    have hx2 : 4611686018427387903 - fr < (l2.length : Int) - 1 := by omega
    clear hx hfar
    go_enter Try.func13, Try.ntmps13
    go_wp2_with (first | (go_at_call 14; refine HM.out.mono ?_; rw [HMR.out]; rintro e w1 ⟨rfl, hb⟩; have HB := Aside0.mk hb; clear hb) | (go_at_call 33; refine (first33 34 #[] (fun e => !mayE e) eg34 _ _ l2 _ (pred34 _) (Kd.C_below HR2.out HB.out)).mono ?_; rintro e w2 ⟨rfl, hb⟩; have HB2 := Aside0.mk (below_then HB.out HB.out.size hb); clear hb; have hge' := hge.out))
    refine bodyPost_ret (v := .tuple #[.slice none 0 0, .int .i64 1]) (by simp [results, Try.results13, go_sem]) rfl ?_
    exact ⟨_, rfl, Kd.R_nil _ _ _ _ _, HB2.out⟩

theorem rowBack_lower {w wr : World} {r1 : List S38} {r2 : Int} (hB : Below w.heap.size w wr) {e : Ending} {w' : World} (h : RowBack wr r1 r2 e w') : RowBack w r1 r2 e w' := by
  obtain ⟨v, rfl, ho, hb⟩ := h
  exact ⟨v, rfl, Kd.R_lower ho hB.size, below_then hB hB.size hb⟩

set_option maxHeartbeats 4000000 in
set_option maxRecDepth 100000 in
theorem take13_good (A0 : Option Addr) (c0 : Nat) (l0 : List S38) (fr : Int) (A2 : Option Addr) (c2 : Nat) (l2 : List S30) (w : World) (hr0 : Kd.C k38 w A0 l0.length l0) (hc0 : l0.length ≤ c0) (hr2 : Kd.C k30 w A2 l2.length l2)
    (hlim : l0.length ≤ 5864062014000) (hl2 : l2.length ≤ 1000000000000) (h0 : 0 ≤ fr) (hgood : (mayRow l0 && l2.all mayE) = true) (hfit : l2 = [] ∨ fr + l2.length ≤ 4611686018427387904) :
    Calls Try.prog 13 #[.slice A0 l0.length c0, .int .u64 fr, .slice A2 l2.length c2] w (TakeBack w l0 (marksFrom fr l2)) := by
  have hu30 := Try.underlying30
  have hu38 := Try.underlying38
  have hm := seen_May.calls A0 c0 l0 (mayRow l0) w hr0 hc0 (by unfold seen_May.f; rw [if_pos (by omega)])
  have HM := Aside0.mk hm
  have HR2 := Aside0.mk hr2
  have HR0 := Aside0.mk hr0
  have LM := Aside0.mk hlim
  have LM2 := Aside0.mk hl2
  clear hr0 hc0 hr2 hlim hm
  rw [Bool.and_eq_true] at hgood
  have HMR := Aside0.mk hgood.1
  have hge : Aside0 (decide (idxOf (fun e => !mayE e) l2 ≥ 0) = false) := ⟨by rw [idx_ge]; simp only [Bool.not_not]; rw [hgood.2]; rfl⟩
  clear hgood
  rcases Nat.eq_zero_or_pos l2.length with hz | hz
  · obtain rfl : l2 = [] := List.eq_nil_of_length_eq_zero hz
    clear hz hfit hl2 h0
    go_enter Try.func13, Try.ntmps13
    go_wp2_with (first | (go_at_call 14; refine HM.out.mono ?_; rw [HMR.out]; rintro e w1 ⟨rfl, hb⟩; have HB := Aside0.mk hb; clear hb) | (go_at_call 33; refine (first33 34 #[] (fun e => !mayE e) eg34 _ _ ([] : List S30) _ (pred34 _) (Kd.C_below HR2.out HB.out)).mono ?_; rintro e w2 ⟨rfl, hb⟩; have HB2 := Aside0.mk (below_then HB.out HB.out.size hb); clear hb; have hge' := hge.out))
    go_loopg [9, 38] 1 (fun gg s9 s38 wr => s9 = .slice none 0 0 ∧ s38 = .int .i64 0 ∧ Aside0 (Below w.heap.size w wr))
    case atStart => exact ⟨rfl, rfl, HB2⟩
    case round =>
      clear HB HB2
      obtain ⟨rfl, rfl, HB⟩ := hrel
      go_wp2_with (go_at_call 36; refine (goes36 A0 c0 l0 none 0 [] wr (Kd.C_below HR0.out HB.out) (Kd.C_nil _ _) LM.out).mono ?_; rintro e w3 hrb; obtain ⟨v, rfl, ho, hb⟩ := rowBack_lower HB.out hrb; have HO3 := Aside0.mk ho; have HB3 := Aside0.mk hb; clear ho hb hrb)
      refine bodyPost_ret (v := .tuple #[v, .int .i64 (goesRes l0 []).2]) (by simp [results, Try.results13, go_sem]) rfl ?_
      exact ⟨_, rfl, HO3.out, HB3.out⟩
  · have hz1 : (1 : Int) ≤ (l2.length : Int) := by omega
    have hz2 : (l2.length : Int) ≤ 1000000000000 := by omega
    have hf1 : fr ≤ 4611686018427387903 := by rcases hfit with h | h; (· subst h; simp at hz); omega
    have hf2 : (l2.length : Int) - 1 ≤ 4611686018427387903 - fr := by rcases hfit with h | h; (· subst h; simp at hz); omega
    clear hfit hl2 hz
    go_enter Try.func13, Try.ntmps13
    go_wp2_with (first | (go_at_call 14; refine HM.out.mono ?_; rw [HMR.out]; rintro e w1 ⟨rfl, hb⟩; have HB := Aside0.mk hb; clear hb) | (go_at_call 33; refine (first33 34 #[] (fun e => !mayE e) eg34 _ _ l2 _ (pred34 _) (Kd.C_below HR2.out HB.out)).mono ?_; rintro e w2 ⟨rfl, hb⟩; have HB2 := Aside0.mk (below_then HB.out HB.out.size hb); clear hb; have hge' := hge.out))
    go_loopg [9, 38] l2.length (fun gg s9 s38 wr => ∃ i : Nat, s38 = .int .i64 i ∧ i ≤ l2.length ∧ l2.length - i ≤ gg ∧ Aside0 (Kd.R k38 38 wr w.heap.size (fun _ => True) s9 (marksFrom fr (l2.take i))) ∧ Aside0 (Below w.heap.size w wr))
    case atStart => exact ⟨0, rfl, Nat.zero_le _, by omega, ⟨Kd.R_nil _ _ _ _ _⟩, HB2⟩
    case round =>
      clear HB HB2
      obtain ⟨i, rfl, hi, hgg, HO, HB⟩ := hrel
      by_cases hlt : i < l2.length
      · have hltz : (i : Int) < (l2.length : Int) := by omega
        obtain ⟨ad, A3, c3, rfl, hx0, hx1, hx2, _, _⟩ := at_T30 HR2.out (i : Int) (by omega) hltz
        replace hx0 := (HB.out.cell (World.block_lt_of_cell? w _ hx0)).trans hx0
        replace hx1 := (HB.out.cell (World.block_lt_of_cell? w _ hx1)).trans hx1
        replace hx2 := (HB.out.cell (World.block_lt_of_cell? w _ hx2)).trans hx2
        simp only [Int.toNat_natCast] at hx0 hx1 hx2
        obtain ⟨x, hx⟩ : ∃ x, x = rd_T30 l2 (i : Int) := ⟨_, rfl⟩
        rw [← hx] at hx0 hx1 hx2
        have HX : Aside0 (l2.take (i + 1) = l2.take i ++ [x]) := ⟨by
          rw [List.take_succ_eq_append_getElem hlt, hx]
          unfold rd_T30
          rw [Int.toNat_natCast]
          simp [List.getD_eq_getElem?_getD, hlt]⟩
        clear hx
        have hs1 : 0 ≤ fr + (i : Int) := by omega
        have hs2 : fr + (i : Int) ≤ 4611686018427387903 := by omega
        have HNL : Aside0 ((marksFrom fr (l2.take i)).length ≤ 1000000000000) := ⟨by rw [marksFrom_length, List.length_take]; have := LM2.out; omega⟩
        go_wp2_with ((with_reducible refine gate_builtin (b := .append) (xs := #[.tmp 43, .tmp 53]) rfl ?_); at_builtin; refine Kd.R_append k38 (w0 := w) w.heap.size rfl (.tmp 43) (.tmp 53) 25 38 (.agg #[(.int .i64 0), (.int .u64 0), (.int .u64 0)]) 24 rfl Try.underlying25 info38 rfl (by decide) (by omega) u9 (marksFrom fr (l2.take i)) (⟨x.f0, x.f1, fr + (i : Int)⟩ : S38) [.int .i64 x.f0, .int .u64 x.f1, .int .u64 (fr + (i : Int))] (fun _ => True) (fun _ => False) rfl ?hx ?aP (fun _ hk => hk.elim) ?aF ?aO ?aB ?aS ?aL ?_; (case hx => show Value.slice (some ⟨wr.heap.size + 1, 0, none⟩) 1 1 = _; rw [World.size_alloc]); (case aP => exact k38_mkM _ _ _ (⟨x.f0, x.f1, fr + (i : Int)⟩ : S38)); (case aB => exact below_alloc HB.out _); (case aF => exact (fun _ _ => trivial)); (case aO => exact Kd.R_alloc HO.out _); (case aS => exact (below_alloc HB.out _).size); (case aL => have := HNL.out; omega); intro v1 w7 ho hb hg hat; have HO1 := Aside0.mk ho; have HB1 := Aside0.mk hb; clear ho hb hg hat)
        go_roundg (l2.length - (i + 1))
        case measure => omega
        case rel => exact ⟨i + 1, by go_num, by omega, by omega, ⟨by rw [HX.out, marksFrom_append, List.length_take, Nat.min_eq_left (by omega)]; exact HO1.out⟩, HB1⟩
      · obtain rfl : i = l2.length := by omega
        have HO1 : Aside0 (Kd.R k38 38 wr w.heap.size (fun _ => True) u9 (marksFrom fr l2)) := ⟨by have := HO.out; rwa [List.take_length] at this⟩
        obtain ⟨A9, c9, rfl⟩ := Kd.R_slice HO1.out
        have HC9 := Aside0.mk (Kd.R_reads' HO1.out).2.2
        go_wp2_with (go_at_call 36; refine (goes36 A0 c0 l0 A9 c9 (marksFrom fr l2) wr (Kd.C_below HR0.out HB.out) HC9.out LM.out).mono ?_; rintro e w3 hrb; obtain ⟨v, rfl, ho, hb⟩ := rowBack_lower HB.out hrb; have HO3 := Aside0.mk ho; have HB3 := Aside0.mk hb; clear ho hb hrb)
        refine bodyPost_ret (v := .tuple #[v, .int .i64 (goesRes l0 (marksFrom fr l2)).2]) (by simp [results, Try.results13, go_sem]) rfl ?_
        exact ⟨_, rfl, HO3.out, HB3.out⟩

theorem seen_Take.calls (A0 : Option Addr) (c0 : Nat) (l0 : List (S38)) (a1 : Int) (A2 : Option Addr) (c2 : Nat) (l2 : List (S30)) (r1 : List (S38)) (r2 : Int) (w : World) (hr0 : Kd.C k38 w A0 l0.length l0) (hc0 : l0.length ≤ c0) (hr2 : Kd.C k30 w A2 l2.length l2) (hc2 : l2.length ≤ c2) (h : seen_Take.f l0 a1 l2 = some (r1, r2)) :
    Calls Try.prog 13 #[.slice A0 l0.length c0, .int .u64 a1, .slice A2 l2.length c2] w fun e w' => ∃ v0_ : Value, e = .returned (.tuple #[v0_, .int .i64 r2]) ∧ Kd.R k38 38 w' w.heap.size (fun _ => True) v0_ r1 ∧ Below w.heap.size w w' := by
  show Calls Try.prog 13 _ w (RowBack w r1 r2)
  unfold seen_Take.f at h
  split at h
  · rename_i hl
    obtain ⟨h1, h2, h3⟩ := hl
    split at h
    · rename_i hgood
      split at h
      · rename_i hnil
        obtain ⟨rfl, rfl⟩ : l0 = r1 ∧ 0 = r2 := by simpa using h
        have := take13_good A0 c0 l0 a1 A2 c2 l2 w hr0 hc0 hr2 h1 h2 h3 hgood (.inl hnil)
        subst hnil
        exact this
      · rename_i hnil
        split at h
        · rename_i hfit
          have e : goesRes l0 (marksFrom a1 l2) = (r1, r2) := by
            unfold goesRes
            cases hg : goesAll l0 (marksFrom a1 l2) <;> rw [hg] at h <;> simpa using h
          have := take13_good A0 c0 l0 a1 A2 c2 l2 w hr0 hc0 hr2 h1 h2 h3 hgood (.inr hfit)
          unfold TakeBack at this
          rw [e] at this
          exact this
        · rename_i hfit
          obtain ⟨rfl, rfl⟩ : [] = r1 ∧ 1 = r2 := by simpa using h
          exact take13_far A0 c0 l0 a1 A2 c2 l2 w hr0 hc0 hr2 (by omega) h2 h3 (by cases l2 with | nil => exact absurd rfl hnil | cons x r => simp) hgood (by omega)
    · rename_i hgood
      obtain ⟨rfl, rfl⟩ : [] = r1 ∧ 1 = r2 := by simpa using h
      exact take13_bad A0 c0 l0 a1 A2 c2 l2 w hr0 hc0 hr2 (by omega) (by simpa using hgood)
  · cases h

end Go.Proofs.Ytokhckbjdpgkfaa.P
