/- WaysAnyOrder, the plain law: a sort by a total order answers alike for every order of its list. No condition. -/
import Derived.Test.YtckhbdeejnephaaMWaysA
namespace Go.Proofs.Ytckhbdeejnephaa.T
open Go.RowKit Go.Proofs.YtckhbdeejnephaaW.PrintWords Go.Proofs.YtckhbdeejnephaaW.PrintLast Go.Proofs.YtckhbdeejnephaaW.PrintMore Go.Proofs.Ytckhbdeejnephaa.Num
set_option linter.unusedVariables false
set_option linter.unusedSimpArgs false

/-! ### the sort -/
theorem swap_s (q r : List S35) (y x : S35) (j : Nat) (hj : j = q.length) : ((q ++ y :: x :: r).set (j + 1) y).set j x = q ++ x :: y :: r := by
  subst hj
  simp [List.set_append]

theorem l0_end (k : Nat) (xs : List S35) (n i f0 f1 f2 f3 f4 : Int) (h : ¬ i < n) : slices_insertionSortCmpFunc_api_Next_at_ways_Rank_1.l0 (k + 1) xs 0 n i f0 f1 f2 f3 f4 = some xs := by
  rw [slices_insertionSortCmpFunc_api_Next_at_ways_Rank_1.l0, if_neg h]
theorem l0_go (k : Nat) (xs : List S35) (n i f0 f1 f2 f3 f4 : Int) (h : i < n) : slices_insertionSortCmpFunc_api_Next_at_ways_Rank_1.l0 (k + 1) xs 0 n i f0 f1 f2 f3 f4 = slices_insertionSortCmpFunc_api_Next_at_ways_Rank_1.l1 k xs 0 n i i f0 f1 f2 f3 f4 := by
  rw [slices_insertionSortCmpFunc_api_Next_at_ways_Rank_1.l0, if_pos h]
theorem l1_end (k : Nat) (xs : List S35) (n i j f0 f1 f2 f3 f4 : Int) (h : ¬ j > 0) : slices_insertionSortCmpFunc_api_Next_at_ways_Rank_1.l1 (k + 1) xs 0 n i j f0 f1 f2 f3 f4 = slices_insertionSortCmpFunc_api_Next_at_ways_Rank_1.l0 k xs 0 n (wrap64 (i + 1)) f0 f1 f2 f3 f4 := by
  rw [slices_insertionSortCmpFunc_api_Next_at_ways_Rank_1.l1, if_neg h]
theorem l1_go (k : Nat) (xs : List S35) (n i f0 f1 f2 f3 f4 : Int) (j : Nat) (hj : j + 1 < xs.length) (hx : xs.length ≤ 100) (x y : S35) (g1 : rd_T35 xs ((j : Int) + 1) = x) (g0 : rd_T35 xs (j : Int) = y) (hk : 8 ≤ k) :
    slices_insertionSortCmpFunc_api_Next_at_ways_Rank_1.l1 (k + 1) xs 0 n i ((j : Int) + 1) f0 f1 f2 f3 f4 = if cv f0 f1 f2 f3 f4 x y < 0 then slices_insertionSortCmpFunc_api_Next_at_ways_Rank_1.l1 k ((xs.set (j + 1) y).set j x) 0 n i (j : Int) f0 f1 f2 f3 f4 else slices_insertionSortCmpFunc_api_Next_at_ways_Rank_1.l0 k xs 0 n (wrap64 (i + 1)) f0 f1 f2 f3 f4 := by
  rw [slices_insertionSortCmpFunc_api_Next_at_ways_Rank_1.l1]
  have e : (j : Int) + 1 - 1 = (j : Int) := by omega
  rw [wrap64_id (x := (j : Int) + 1 - 1) (by omega) (by omega), e]
  rw [if_pos (by omega), if_pos (by omega), if_pos (by omega), if_pos (by omega), if_pos (by omega), g1, g0, rank1_f k hk]
  have hn1 : ((j : Int) + 1).toNat = j + 1 := by omega
  rw [hn1, Int.toNat_natCast, Option.bind_some]

theorem ins_s (n : Nat) (hn : n ≤ 12) (f0 f1 f2 f3 f4 : Int) : ∀ (m : Nat) (s : List S35), s.length = m →
    (∀ (p : List S35), (p ++ s).length = n → p.Pairwise (le f0 f1 f2 f3 f4) →
      ∃ k out, slices_insertionSortCmpFunc_api_Next_at_ways_Rank_1.l0 k (p ++ s) 0 (n : Int) (p.length : Int) f0 f1 f2 f3 f4 = some out ∧ out.Perm (p ++ s) ∧ out.Pairwise (le f0 f1 f2 f3 f4)) := by
  intro m
  induction m with
  | zero =>
    intro s hs p hl hp
    have : s = [] := List.eq_nil_of_length_eq_zero hs
    subst this
    simp only [List.append_nil] at hl ⊢
    refine ⟨1, p, ?_, List.Perm.refl _, hp⟩
    rw [l0_end _ _ _ _ _ _ _ _ _ (by omega)]
  | succ m ih =>
    intro s hs p hl hp
    obtain ⟨x, s, rfl⟩ : ∃ x s', s = x :: s' := by
      cases s with
      | nil => simp at hs
      | cons x s => exact ⟨x, s, rfl⟩
    have hs2 : s.length = m := by simpa using hs
    have hl2 : p.length + s.length + 1 = n := by simp at hl; omega
    -- the inner loop, from any place
    have inner : ∀ (c : Nat) (q r : List S35), q.length = c → (q ++ r).length = p.length → (q ++ r).Pairwise (le f0 f1 f2 f3 f4) → (∀ y, y ∈ r → le f0 f1 f2 f3 f4 x y) → (q ++ r).Perm p →
        ∃ k out, slices_insertionSortCmpFunc_api_Next_at_ways_Rank_1.l1 k (q ++ x :: r ++ s) 0 (n : Int) (p.length : Int) (q.length : Int) f0 f1 f2 f3 f4 = some out ∧ out.Perm (p ++ x :: s) ∧ out.Pairwise (le f0 f1 f2 f3 f4) := by
      have fin : ∀ (q r : List S35), (q ++ r).length = p.length → (q ++ x :: r).Pairwise (le f0 f1 f2 f3 f4) → (q ++ r).Perm p →
          ∃ k out, slices_insertionSortCmpFunc_api_Next_at_ways_Rank_1.l0 k (q ++ x :: r ++ s) 0 (n : Int) (wrap64 ((p.length : Int) + 1)) f0 f1 f2 f3 f4 = some out ∧ out.Perm (p ++ x :: s) ∧ out.Pairwise (le f0 f1 f2 f3 f4) := by
        intro q r hl3 hpw hpm
        have hl4 : (q ++ x :: r).length = p.length + 1 := by simp at hl3 ⊢; omega
        obtain ⟨k, out, h1, h2, h3⟩ := ih s hs2 (q ++ x :: r) (by simp at hl4 ⊢; omega) hpw
        refine ⟨k, out, ?_, ?_, h3⟩
        · rw [wrap64_id (by omega) (by omega)]
          rw [hl4] at h1
          exact h1
        · refine h2.trans ?_
          rw [show p ++ x :: s = p ++ [x] ++ s from by simp]
          refine List.Perm.append_right s ?_
          refine (List.perm_middle).trans ?_
          refine (List.Perm.cons x hpm).trans ?_
          exact (List.perm_append_singleton x p).symm
      intro c
      induction c with
      | zero =>
        intro q r hq hl3 hpw hx hpm
        have : q = [] := List.eq_nil_of_length_eq_zero hq
        subst this
        obtain ⟨k, out, h1, h2, h3⟩ := fin [] r hl3 (by
          simp only [List.nil_append, List.pairwise_cons]
          exact ⟨hx, by simpa using hpw⟩) hpm
        refine ⟨k + 1, out, ?_, h2, h3⟩
        rw [l1_end _ _ _ _ _ _ _ _ _ _ (by simp)]
        exact h1
      | succ c ihc =>
        intro q r hq hl3 hpw hx hpm
        obtain ⟨q, y, rfl⟩ : ∃ q' y, q = q' ++ [y] := ⟨q.dropLast, q.getLast (by intro e; subst e; simp at hq), (List.dropLast_concat_getLast _).symm⟩
        have hqc : q.length = c := by simpa using hq
        have hap : (q ++ [y]) ++ x :: r ++ s = q ++ y :: x :: (r ++ s) := by simp
        have hle : (((q ++ [y]).length : Nat) : Int) = (q.length : Int) + 1 := by simp
        have hlt : q.length + r.length + 1 = p.length := by simp at hl3; omega
        have hlen : (q ++ y :: x :: (r ++ s)).length = n := by simp; omega
        have g1 : rd_T35 (q ++ y :: x :: (r ++ s)) ((q.length : Int) + 1) = x := by
          have := rdp (q ++ [y]) (r ++ s) x
          simpa using this
        have g0 : rd_T35 (q ++ y :: x :: (r ++ s)) (q.length : Int) = y := rdp q (x :: (r ++ s)) y
        rw [hap, hle]
        by_cases hc : cv f0 f1 f2 f3 f4 x y < 0
        · obtain ⟨k, out, h1, h2, h3⟩ := ihc q (y :: r) hqc (by simp; omega) (by simpa using hpw) (by
            intro z hz
            simp only [List.mem_cons] at hz
            rcases hz with rfl | hz
            · exact le_of_lt _ _ _ _ _ _ _ hc
            · exact hx z hz) (by simpa using hpm)
          refine ⟨k + 10 + 1, out, ?_, h2, h3⟩
          rw [l1_go (k + 10) _ (n : Int) (p.length : Int) f0 f1 f2 f3 f4 q.length (by rw [hlen]; omega) (by rw [hlen]; omega) x y g1 g0 (by omega), if_pos hc, swap_s q (r ++ s) y x q.length rfl]
          have h4 : q ++ x :: (y :: r) ++ s = q ++ x :: y :: (r ++ s) := by simp
          rw [h4] at h1
          exact monoT (f := fun k => slices_insertionSortCmpFunc_api_Next_at_ways_Rank_1.l1 k (q ++ x :: y :: (r ++ s)) 0 (n : Int) (p.length : Int) (q.length : Int) f0 f1 f2 f3 f4) (fun k => (slices_insertionSortCmpFunc_api_Next_at_ways_Rank_1.mono_l k).2 _ _ _ _ _ _ _ _ _ _) h1 (by omega)
        · obtain ⟨k, out, h1, h2, h3⟩ := fin (q ++ [y]) r hl3 (by
            rw [List.pairwise_append] at hpw ⊢
            refine ⟨hpw.1, ?_, ?_⟩
            · rw [List.pairwise_cons]; exact ⟨hx, hpw.2.1⟩
            · intro a ha b hb
              have hyx : le f0 f1 f2 f3 f4 y x := hc
              have hay : le f0 f1 f2 f3 f4 a x := by
                simp only [List.mem_append, List.mem_singleton] at ha
                rcases ha with ha | rfl
                · have := hpw.1
                  rw [List.pairwise_append] at this
                  exact le_trans _ _ _ _ _ _ _ _ (this.2.2 a ha y (by simp)) hyx
                · exact hyx
              simp only [List.mem_cons] at hb
              rcases hb with rfl | hb
              · exact hay
              · exact hpw.2.2 a ha b hb) hpm
          refine ⟨k + 10 + 1, out, ?_, h2, h3⟩
          rw [l1_go (k + 10) _ (n : Int) (p.length : Int) f0 f1 f2 f3 f4 q.length (by rw [hlen]; omega) (by rw [hlen]; omega) x y g1 g0 (by omega), if_neg hc]
          rw [hap] at h1
          exact monoT (f := fun k => slices_insertionSortCmpFunc_api_Next_at_ways_Rank_1.l0 k (q ++ y :: x :: (r ++ s)) 0 (n : Int) (wrap64 ((p.length : Int) + 1)) f0 f1 f2 f3 f4) (fun k => (slices_insertionSortCmpFunc_api_Next_at_ways_Rank_1.mono_l k).1 _ _ _ _ _ _ _ _ _) h1 (by omega)
    obtain ⟨k, out, h1, h2, h3⟩ := inner p.length p [] rfl (by simp) (by simpa using hp) (by simp) (by simp)
    refine ⟨k + 1, out, ?_, h2, h3⟩
    rw [l0_go _ _ _ _ _ _ _ _ _ (by omega)]
    have h4 : p ++ [x] ++ s = p ++ x :: s := by simp
    rw [h4] at h1
    exact h1

theorem sort_s (l : List S35) (hl : l.length ≤ 12) (f0 f1 f2 f3 f4 : Int) :
    ∃ k out, slices_SortFunc_api_Next_api_Next_at_ways_Rank_1.f k l f0 f1 f2 f3 f4 = some out ∧ out.Perm l ∧ out.Pairwise (le f0 f1 f2 f3 f4) := by
  unfold slices_SortFunc_api_Next_api_Next_at_ways_Rank_1.f bits_Len.f
  have hu : IntKind.u64.wrap (l.length : Int) = (l.length : Int) := by rw [wrap_u64]; omega
  rw [hu, if_pos (by omega), if_pos (by omega)]
  simp only [Option.bind_some]
  have fin : ∃ k out, slices_insertionSortCmpFunc_api_Next_at_ways_Rank_1.f k l 0 (l.length : Int) f0 f1 f2 f3 f4 = some out ∧ out.Perm l ∧ out.Pairwise (le f0 f1 f2 f3 f4) := by
    unfold slices_insertionSortCmpFunc_api_Next_at_ways_Rank_1.f
    rw [wrap64_id (by omega) (by omega)]
    cases l with
    | nil =>
      refine ⟨1, [], ?_, List.Perm.refl _, by simp⟩
      simp [slices_insertionSortCmpFunc_api_Next_at_ways_Rank_1.l0]
    | cons x s =>
      have := ins_s (s.length + 1) (by simpa using hl) f0 f1 f2 f3 f4 s.length s rfl [x] (by simp) (by simp)
      simpa using this
  obtain ⟨k, out, h1, h2, h3⟩ := fin
  refine ⟨k + 1, out, ?_, h2, h3⟩
  unfold slices_pdqsortCmpFunc_api_Next_at_ways_Rank_1.f
  rw [slices_pdqsortCmpFunc_api_Next_at_ways_Rank_1.l0, wrap64_id (by omega) (by omega), if_pos (by omega), h1]
  rfl

theorem rank_s (l : List S35) (hl : l.length ≤ 12) (hg : Good l) (f0 f1 f2 f3 f4 : Int) (hf : FlowOk f2 f3 f4) :
    ∃ k out, ways_Rank.f k l f0 f1 f2 f3 f4 = some (out, 0) ∧ out.Perm l ∧ out.Pairwise (le f0 f1 f2 f3 f4) := by
  obtain ⟨k, out, h1, h2, h3⟩ := sort_s l hl f0 f1 f2 f3 f4
  refine ⟨k + 40, out, ?_, h2, h3⟩
  unfold ways_Rank.f
  rw [wrong_s (k + 40) l (by omega) hg (by omega) f0 f1 f2 f3 f4 hf]
  simp only [Option.bind_some, if_true]
  rw [clone_s l (by omega)]
  simp only [Option.bind_some]
  have h4 := monoT (f := fun k => slices_SortFunc_api_Next_api_Next_at_ways_Rank_1.f k l f0 f1 f2 f3 f4) (fun k => slices_SortFunc_api_Next_api_Next_at_ways_Rank_1.mono _ _ _ _ _ _ _) h1 (b := k + 40) (by omega)
  rw [h4]
  rfl

/-! ### the mix -/
theorem mix_s (ks : List Int) : ∀ (d : Nat) (l : List S35) (i k : Nat), l.length ≤ 16 → l.length = i + d → d < k →
    ∃ out, patchbaykeep2_mixed_api_Next.l0 k ks l (l.length : Int) (i : Int) = some out ∧ out.Perm l := by
  intro d
  induction d with
  | zero =>
    intro l i k hl hi hk
    obtain ⟨k, rfl⟩ : ∃ m, k = m + 1 := ⟨k - 1, by omega⟩
    rw [patchbaykeep2_mixed_api_Next.l0, if_neg (by omega)]
    exact ⟨l, rfl, List.Perm.refl _⟩
  | succ d ih =>
    intro l i k hl hi hk
    obtain ⟨k, rfl⟩ : ∃ m, k = m + 1 := ⟨k - 1, by omega⟩
    rw [patchbaykeep2_mixed_api_Next.l0, if_pos (by omega)]
    rw [wrap64_id (x := (i : Int) + 1) (by omega) (by omega)]
    have hi1 : ((i : Int) + 1) = ((i + 1 : Nat) : Int) := by omega
    by_cases hc : (i : Int) < (ks.length : Int)
    · rw [if_pos hc, if_pos (by omega)]
      rw [wrap64_id (x := (l.length : Int) - i) (by omega) (by omega)]
      have hu : IntKind.u64.wrap ((l.length : Int) - i) = (d : Int) + 1 := by rw [wrap_u64]; omega
      rw [hu, if_neg (by omega)]
      have hy : 0 ≤ IntKind.u64.wrap (rd ks (i : Int)) := by rw [wrap_u64]; omega
      generalize IntKind.u64.wrap (rd ks (i : Int)) = y at *
      have ht : 0 ≤ Int.tmod y ((d : Int) + 1) ∧ Int.tmod y ((d : Int) + 1) < (d : Int) + 1 := ⟨Int.tmod_nonneg _ hy, Int.tmod_lt_of_pos _ (by omega)⟩
      generalize Int.tmod y ((d : Int) + 1) = t at *
      rw [wrap64_id (x := t) (by omega) (by omega), wrap64_id (x := (i : Int) + t) (by omega) (by omega)]
      rw [if_pos (by omega), if_pos (by omega), if_pos (by omega)]
      rw [S35eta, S35eta]
      have hj : ((i : Int) + t).toNat < l.length := by omega
      have r1 : rd_T35 l ((i : Int) + t) = l[((i : Int) + t).toNat] := by simp [rd_T35, List.getD_eq_getElem?_getD, hj]
      have r2 : rd_T35 l (i : Int) = l[i]'(by omega) := by
        have : i < l.length := by omega
        simp [rd_T35, List.getD_eq_getElem?_getD, this]
      rw [r1, r2, Int.toNat_natCast]
      have hp := @List.set_set_perm _ l i ((i : Int) + t).toNat (by omega) hj
      generalize hm : (l.set i l[((i : Int) + t).toNat]).set ((i : Int) + t).toNat (l[i]'(by omega)) = l2 at *
      have hlen : l2.length = l.length := hp.length_eq
      obtain ⟨out, h1, h2⟩ := ih l2 (i + 1) k (by omega) (by omega) (by omega)
      rw [hlen] at h1
      rw [hi1]
      exact ⟨out, h1, h2.trans hp⟩
    · rw [if_neg hc, hi1]
      exact ih l (i + 1) k hl (by omega) (by omega)

theorem mixed_s (l : List S35) (ks : List Int) (k : Nat) (hl : l.length ≤ 16) (hk : 40 ≤ k) : ∃ out, patchbaykeep2_mixed_api_Next.f k l ks = some out ∧ out.Perm l := by
  unfold patchbaykeep2_mixed_api_Next.f
  rw [clone_s l (by omega)]
  simp only [Option.bind_some]
  have := mix_s ks l.length l 0 k hl (by omega) (by omega)
  simpa using this

theorem eq_s (l : List S35) (hl : l.length ≤ 16) : ∀ (d i k : Nat), l.length = i + d → d < k → slices_Equal_api_Next_api_Next.l0 k l l (l.length : Int) (i : Int) = some true := by
  intro d
  induction d with
  | zero =>
    intro i k hi hk
    obtain ⟨k, rfl⟩ : ∃ m, k = m + 1 := ⟨k - 1, by omega⟩
    rw [slices_Equal_api_Next_api_Next.l0, if_neg (by omega)]
  | succ d ih =>
    intro i k hi hk
    obtain ⟨k, rfl⟩ : ∃ m, k = m + 1 := ⟨k - 1, by omega⟩
    rw [slices_Equal_api_Next_api_Next.l0, if_pos (by omega), if_pos (by omega), if_pos (by omega), if_pos (by omega), wrap64_id (x := (i : Int) + 1) (by omega) (by omega)]
    simp only [beq_self_eq_true, Bool.not_true, Bool.or_self, Bool.false_eq_true, if_false]
    have := ih (i + 1) k (by omega) (by omega)
    rwa [show ((i + 1 : Nat) : Int) = (i : Int) + 1 from by omega] at this

theorem all_s (m : List S35) (hm : m.length ≤ 16) (n : Nat) (hn : n ≤ 16) : ∀ (s p : List S35) (k : Nat), (p ++ s).length = n → s.length + 20 < k → (∀ x, x ∈ s → x ∈ m) →
    slices_IndexFunc_api_Next_api_Next_at_patchbaykeep2_WaysAnyOrder_1.l0 k (p ++ s) (n : Int) (p.length : Int) m = some (-1) := by
  intro s
  induction s with
  | nil =>
    intro p k hl hk hg
    obtain ⟨k, rfl⟩ : ∃ m, k = m + 1 := ⟨k - 1, by omega⟩
    simp only [List.append_nil] at hl
    rw [slices_IndexFunc_api_Next_api_Next_at_patchbaykeep2_WaysAnyOrder_1.l0, if_neg (by omega)]
  | cons x s ih =>
    intro p k hl hk hg
    obtain ⟨k, rfl⟩ : ∃ m, k = m + 1 := ⟨k - 1, by omega⟩
    have hl2 : p.length + s.length + 1 = n := by simp at hl; omega
    rw [slices_IndexFunc_api_Next_api_Next_at_patchbaykeep2_WaysAnyOrder_1.l0]
    rw [if_pos (by omega), if_pos (by omega), if_pos (by rw [hl]; omega), rdp, wrap64_id (x := (p.length : Int) + 1) (by omega) (by omega)]
    unfold patchbaykeep2_WaysAnyOrder_1.f
    rw [contains_s k m _ _ (by omega) (by omega)]
    have hx : (⟨x.f0, x.f1⟩ : S35) ∈ m := hg x (by simp)
    simp only [Option.bind_some, hx, decide_true, Bool.not_true, Bool.false_eq_true, if_false]
    have hap : p ++ x :: s = (p ++ [x]) ++ s := by simp
    have hle : ((p.length : Int) + 1) = ((p ++ [x]).length : Int) := by simp
    rw [hap, hle]
    exact ih (p ++ [x]) k (by simp; omega) (by simp at hk; omega) (fun z hz => hg z (by simp [hz]))

theorem lives_s : patchbaykeep2_waysLives.f 60 = some true := by decide +kernel

theorem law_s (l : List S35) (f0 f1 f2 f3 f4 : Int) (ks : List Int) : ∃ k, patchbaykeep2_WaysAnyOrder.f k l f0 f1 f2 f3 f4 ks = some true := by
  have hf : FlowOk (Go.bits .and .i64 f2 255) (Go.bits .and .i64 f3 65535) (Go.bits .and .i64 f4 65535) := by
    have a := and_rng f2 255 (by omega)
    have b := and_rng f3 65535 (by omega)
    have c := and_rng f4 65535 (by omega)
    exact ⟨a.1, a.2, b.1, b.2, c.1, c.2⟩
  obtain ⟨h, h1, hg, hl⟩ := hops_f 40 l (by omega)
  obtain ⟨m, m1, m2⟩ := mixed_s h ks 40 (by omega) (by omega)
  obtain ⟨ka, oa, a1, a2, a3⟩ := rank_s h (by omega) hg f0 f1 _ _ _ hf
  have hgm : Good m := ⟨m2.symm.nodup hg.1, fun x hx => hg.2 x (m2.subset hx)⟩
  obtain ⟨kb, ob, b1, b2, b3⟩ := rank_s m (by rw [m2.length_eq]; omega) hgm f0 f1 _ _ _ hf
  have hab : ob = oa := List.Perm.eq_of_pairwise (fun x y _ _ => le_anti _ _ _ _ _ x y) b3 a3 ((b2.trans m2).trans a2.symm)
  subst hab
  have hlen : ob.length = h.length := a2.length_eq
  refine ⟨ka + kb + 60, ?_⟩
  generalize hK : ka + kb + 60 = K
  unfold patchbaykeep2_WaysAnyOrder.f
  have e0 := monoT (f := fun k => patchbaykeep2_waysLives.f k) (fun k => patchbaykeep2_waysLives.mono _) lives_s (b := K) (by omega)
  have e1 := monoT (f := fun k => patchbaykeep2_hops.f k l 5) (fun k => patchbaykeep2_hops.mono _ _ _) h1 (b := K) (by omega)
  have e2 := monoT (f := fun k => patchbaykeep2_mixed_api_Next.f k h ks) (fun k => patchbaykeep2_mixed_api_Next.mono _ _ _) m1 (b := K) (by omega)
  have e3 := monoT (f := fun k => ways_Rank.f k h f0 f1 (Go.bits .and .i64 f2 255) (Go.bits .and .i64 f3 65535) (Go.bits .and .i64 f4 65535)) (fun k => ways_Rank.mono _ _ _ _ _ _ _) a1 (b := K) (by omega)
  have e4 := monoT (f := fun k => ways_Rank.f k m f0 f1 (Go.bits .and .i64 f2 255) (Go.bits .and .i64 f3 65535) (Go.bits .and .i64 f4 65535)) (fun k => ways_Rank.mono _ _ _ _ _ _ _) b1 (b := K) (by omega)
  rw [e0]
  simp only [Option.bind_some, if_true]
  rw [e1]
  simp only [Option.bind_some, patchbaykeep2_flow.f]
  rw [e3]
  simp only [Option.bind_some]
  rw [e2]
  simp only [Option.bind_some]
  rw [e4]
  simp only [Option.bind_some, if_true]
  unfold slices_Equal_api_Next_api_Next.f
  have e5 := eq_s ob (by omega) ob.length 0 K (by omega) (by omega)
  rw [show ((0 : Nat) : Int) = 0 from rfl] at e5
  rw [if_pos rfl, e5]
  simp only [Option.bind_some, if_true]
  rw [if_pos (by omega)]
  unfold slices_ContainsFunc_api_Next_api_Next_at_patchbaykeep2_WaysAnyOrder_1.f slices_IndexFunc_api_Next_api_Next_at_patchbaykeep2_WaysAnyOrder_1.f
  have e6 := all_s ob (by omega) h.length (by omega) h [] K (by simp) (by omega) (fun x hx => a2.symm.subset hx)
  simp only [List.nil_append, List.length_nil] at e6
  rw [show ((0 : Nat) : Int) = 0 from rfl] at e6
  rw [e6]
  rfl
end Go.Proofs.Ytckhbdeejnephaa.T
