/- WaysStay, the plain law (not built yet): taking one next hop out of a list takes it out of the sorted list. No condition. -/
import Derived.Test.YtckhbdeejnephaaMWaysBTS
namespace Go.Proofs.Ytckhbdeejnephaa.TS
open Go.RowKit Go.Proofs.YtckhbdeejnephaaW.PrintWords Go.Proofs.YtckhbdeejnephaaW.PrintLast Go.Proofs.YtckhbdeejnephaaW.PrintMore Go.Proofs.Ytckhbdeejnephaa.Num
set_option linter.unusedVariables false
set_option linter.unusedSimpArgs false

theorem cl_s (k : Nat) (x : S35) (a b : Int) : patchbaykeep2_WaysStay_1.f x.f0 x.f1 a b = some (decide (x = ⟨a, b⟩)) := by
  unfold patchbaykeep2_WaysStay_1.f
  congr 1
  obtain ⟨x0, x1⟩ := x
  by_cases h0 : x0 = a <;> by_cases h1 : x1 = b <;> simp [h0, h1]

/-- the index of the first equal one -/
theorem ixd_s (n : Nat) (hn : n < 4611686018427387904) (a b : Int) : ∀ (s p : List S35) (k : Nat), (p ++ s).length = n → s.length < k → (⟨a, b⟩ : S35) ∈ s →
    ∃ q r, s = q ++ ⟨a, b⟩ :: r ∧ (⟨a, b⟩ : S35) ∉ q ∧ slices_IndexFunc_api_Next_api_Next_at_patchbaykeep2_WaysStay_1.l0 k (p ++ s) (n : Int) (p.length : Int) a b = some ((p.length + q.length : Nat) : Int) := by
  intro s
  induction s with
  | nil => intro p k _ _ h; simp at h
  | cons x s ih =>
    intro p k hl hk hm
    obtain ⟨k, rfl⟩ : ∃ m, k = m + 1 := ⟨k - 1, by simp at hk; omega⟩
    have hl2 : p.length + s.length + 1 = n := by simp at hl; omega
    rw [slices_IndexFunc_api_Next_api_Next_at_patchbaykeep2_WaysStay_1.l0]
    rw [if_pos (by omega), if_pos (by omega), if_pos (by rw [hl]; omega), rdp, wrap64_id (x := (p.length : Int) + 1) (by omega) (by omega), cl_s k]
    by_cases hx : x = ⟨a, b⟩
    · subst hx
      refine ⟨[], s, rfl, by simp, ?_⟩
      simp
    · have hm2 : (⟨a, b⟩ : S35) ∈ s := by
        simp only [List.mem_cons] at hm
        rcases hm with h | h
        · exact absurd h.symm hx
        · exact h
      obtain ⟨q, r, h1, h2, h3⟩ := ih (p ++ [x]) k (by simp; omega) (by simp at hk; omega) hm2
      refine ⟨x :: q, r, by rw [h1]; rfl, ?_, ?_⟩
      · simp only [List.mem_cons, not_or]
        exact ⟨fun e => hx e.symm, h2⟩
      · simp only [Option.bind_some, hx, decide_false, Bool.false_eq_true, if_false]
        have hap : p ++ x :: s = (p ++ [x]) ++ s := by simp
        have hle : ((p.length : Int) + 1) = ((p ++ [x]).length : Int) := by simp
        rw [hap, hle, h3]
        congr 1
        simp
        omega

theorem set_s (w t : List S35) (z x : S35) : (w ++ z :: x :: t).set w.length x = (w ++ [x]) ++ x :: t := by
  simp

theorem del_s (a b : Int) : ∀ (t w : List S35) (z : S35) (k : Nat), t.length + 2 < k → (∀ x, x ∈ t → x ≠ ⟨a, b⟩) → (w ++ z :: t).length ≤ 100 →
    slices_DeleteFunc_api_Next_api_Next_at_patchbaykeep2_WaysStay_1.l0 k (w ++ z :: t) (w.length : Int) ((w.length : Int) + 1) a b = some (w ++ t) := by
  intro t
  induction t with
  | nil =>
    intro w z k hk _ hl
    obtain ⟨k, rfl⟩ : ∃ m, k = m + 1 := ⟨k - 1, by omega⟩
    rw [slices_DeleteFunc_api_Next_api_Next_at_patchbaykeep2_WaysStay_1.l0]
    rw [if_neg (by simp), if_pos (by omega), if_pos (by simp; omega)]
    simp only [Option.bind_some]
    rw [if_pos (by simp; omega)]
    simp
  | cons x t ih =>
    intro w z k hk hx hl
    obtain ⟨k, rfl⟩ : ∃ m, k = m + 1 := ⟨k - 1, by omega⟩
    have hl2 : w.length + t.length + 2 ≤ 100 := by simp at hl; omega
    have g : rd_T35 (w ++ z :: x :: t) ((w.length : Int) + 1) = x := by
      have := rdp (w ++ [z]) t x
      simpa using this
    rw [slices_DeleteFunc_api_Next_api_Next_at_patchbaykeep2_WaysStay_1.l0]
    rw [if_pos (by simp; omega), if_pos (by omega), g, cl_s k, Option.bind_some]
    have hne : x ≠ ⟨a, b⟩ := hx x (by simp)
    rw [if_neg (by simp [hne]), if_pos (by omega), if_pos (by simp; omega)]
    rw [Int.toNat_natCast, S35eta, set_s, wrap64_id (x := (w.length : Int) + 1) (by omega) (by omega), wrap64_id (x := (w.length : Int) + 1 + 1) (by omega) (by omega)]
    have h := ih (w ++ [x]) x k (by simp at hk; omega) (fun y hy => hx y (by simp [hy])) (by simp; omega)
    have hle : (((w ++ [x]).length : Nat) : Int) = (w.length : Int) + 1 := by simp
    rw [hle] at h
    rw [h]
    simp

theorem delete_f (l : List S35) (x : S35) (hm : x ∈ l) (hn : l.Nodup) (hl : l.length ≤ 50) (k : Nat) (hk : 100 ≤ k) :
    ∃ q r, l = q ++ x :: r ∧ slices_DeleteFunc_api_Next_api_Next_at_patchbaykeep2_WaysStay_1.f k l x.f0 x.f1 = some (q ++ r) := by
  obtain ⟨q, r, h1, h2, h3⟩ := ixd_s l.length (by omega) x.f0 x.f1 l [] k (by simp) (by omega) hm
  refine ⟨q, r, h1, ?_⟩
  unfold slices_DeleteFunc_api_Next_api_Next_at_patchbaykeep2_WaysStay_1.f slices_IndexFunc_api_Next_api_Next_at_patchbaykeep2_WaysStay_1.f
  simp only [List.nil_append, List.length_nil, Nat.zero_add] at h3
  rw [show ((0 : Nat) : Int) = 0 from rfl] at h3
  have hql : q.length ≤ 50 := by rw [h1] at hl; simp at hl; omega
  rw [h3, Option.bind_some, if_neg (by omega), wrap64_id (x := (q.length : Int) + 1) (by omega) (by omega)]
  have hr : ∀ y, y ∈ r → y ≠ (⟨x.f0, x.f1⟩ : S35) := by
    rw [h1, List.nodup_append, List.nodup_cons] at hn
    intro y hy e
    subst e
    exact hn.2.1.1 hy
  have h4 := del_s x.f0 x.f1 r q ⟨x.f0, x.f1⟩ k (by rw [h1] at hl; simp at hl; omega) hr (by rw [← h1]; omega)
  rw [← h1] at h4
  exact h4

/-- the first of the sorted rest -/
theorem rest_s (l q r out u v : List S35) (x : S35) (f0 f1 f2 f3 f4 : Int) (out2 : List S35) (hl : l = q ++ x :: r) (ho : out = u ++ x :: v) (hp : out.Perm l) (hs : out.Pairwise (le f0 f1 f2 f3 f4))
    (hp2 : out2.Perm (q ++ r)) (hs2 : out2.Pairwise (le f0 f1 f2 f3 f4)) : out2 = u ++ v := by
  subst hl; subst ho
  refine List.Perm.eq_of_pairwise (fun a b _ _ => le_anti _ _ _ _ _ a b) hs2 ?_ ?_
  · exact hs.sublist (by simp)
  · refine hp2.trans ?_
    have h1 : (x :: (q ++ r)).Perm (x :: (u ++ v)) := (List.perm_middle.symm.trans hp.symm).trans List.perm_middle
    exact h1.cons_inv

theorem rd_head (x : S35) (s : List S35) : rd_T35 (x :: s) 0 = x := by simp [rd_T35]
theorem rd_second (x y : S35) (s : List S35) : rd_T35 (x :: y :: s) 1 = y := by simp [rd_T35]

theorem pick_of (k : Nat) (l : List S35) (f0 f1 f2 f3 f4 : Int) (x : S35) (s : List S35) (h : ways_Rank.f k l f0 f1 f2 f3 f4 = some (x :: s, 0)) (hk : 1 ≤ k) : ways_Pick.f k l f0 f1 f2 f3 f4 = some (x.f0, x.f1, 0) := by
  obtain ⟨k, rfl⟩ : ∃ m, k = m + 1 := ⟨k - 1, by omega⟩
  unfold ways_Pick.f
  rw [h, Option.bind_some, if_pos rfl]
  have hb : (((x :: s).length : Int) == 0) = false := beq_eq_false_iff_ne.mpr (by simp; omega)
  simp only [hb, ways_Pick.j0]
  rw [if_neg (by decide)]
  simp [rd_T35]

theorem stay_j (l out : List S35) (hl : l.length ≤ 5) (h2 : 2 ≤ l.length) (hg : Good l) (at_ f0 f1 f2 f3 f4 : Int) (hf : FlowOk f2 f3 f4) (hp : out.Perm l) (hs : out.Pairwise (le f0 f1 f2 f3 f4)) :
    ∃ k, patchbaykeep2_WaysStay.j0 k l at_ out false f0 f1 f2 f3 f4 = some true := by
  have hlen := hp.length_eq
  have hu : IntKind.u64.wrap (l.length : Int) = (l.length : Int) := by rw [wrap_u64]; omega
  have hy : 0 ≤ IntKind.u64.wrap at_ := by rw [wrap_u64]; omega
  have ht : 0 ≤ Int.tmod (IntKind.u64.wrap at_) (l.length : Int) ∧ Int.tmod (IntKind.u64.wrap at_) (l.length : Int) < (l.length : Int) := ⟨Int.tmod_nonneg _ hy, Int.tmod_lt_of_pos _ (by omega)⟩
  obtain ⟨t, ht2⟩ : ∃ t : Nat, Int.tmod (IntKind.u64.wrap at_) (l.length : Int) = (t : Int) := ⟨(Int.tmod (IntKind.u64.wrap at_) (l.length : Int)).toNat, by omega⟩
  rw [ht2] at ht
  have htl : t < out.length := by omega
  obtain ⟨u, x, v, ho, hul⟩ : ∃ u x v, out = u ++ x :: v ∧ u.length = t := ⟨out.take t, out[t], out.drop (t + 1), by simp, by simp; omega⟩
  have hxl : x ∈ l := hp.subset (by rw [ho]; simp)
  have hnd : out.Nodup := hp.symm.nodup hg.1
  obtain ⟨q, r, hqr, hd⟩ := delete_f l x hxl hg.1 (by omega) 200 (by omega)
  have hg2 : Good (q ++ r) := by
    refine ⟨hg.1.sublist (by rw [hqr]; simp), fun y hy => hg.2 y (by rw [hqr]; simp at hy ⊢; rcases hy with h | h <;> simp [h])⟩
  have hqrl : (q ++ r).length + 1 = l.length := by rw [hqr]; simp; omega
  obtain ⟨k, out2, e1, e2, e3⟩ := rank_s (q ++ r) (by omega) hg2 f0 f1 f2 f3 f4 hf
  have hout2 : out2 = u ++ v := rest_s l q r out u v x f0 f1 f2 f3 f4 out2 hqr ho hp hs e2 e3
  refine ⟨k + 200 + 1, ?_⟩
  rw [patchbaykeep2_WaysStay.j0, if_neg (by decide), hu, if_neg (by omega), ht2, wrap64_id (x := (t : Int)) (by omega) (by omega), if_pos (by omega), if_pos (by omega)]
  rw [clone_s l (by omega), Option.bind_some]
  have hx : rd_T35 out (t : Int) = x := by rw [ho, ← hul]; exact rdp u v x
  rw [hx]
  have hd2 := monoT (f := fun k => slices_DeleteFunc_api_Next_api_Next_at_patchbaykeep2_WaysStay_1.f k l x.f0 x.f1) (fun k => slices_DeleteFunc_api_Next_api_Next_at_patchbaykeep2_WaysStay_1.mono _ _ _ _) hd (b := k + 200) (by omega)
  rw [hd2, Option.bind_some]
  have e4 := monoT (f := fun k => ways_Rank.f k (q ++ r) f0 f1 f2 f3 f4) (fun k => ways_Rank.mono _ _ _ _ _ _ _) e1 (b := k + 200) (by omega)
  subst hout2
  cases u with
  | nil =>
    simp only [List.nil_append] at ho e4
    obtain ⟨y, v, rfl⟩ : ∃ y v', v = y :: v' := by
      cases v with
      | nil => rw [ho] at hlen; simp at hlen; omega
      | cons y v => exact ⟨y, v, rfl⟩
    rw [pick_of (k + 200) _ f0 f1 f2 f3 f4 y v e4 (by omega), Option.bind_some]
    subst ho
    rw [if_pos (by simp; omega), rd_head, if_pos (by simp), if_pos (by simp; omega), if_pos rfl, rd_second]
    simp
  | cons h u =>
    simp only [List.cons_append] at ho e4
    rw [pick_of (k + 200) _ f0 f1 f2 f3 f4 h (u ++ v) e4 (by omega), Option.bind_some]
    subst ho
    have hne : ¬ (x.f0 = h.f0 ∧ x.f1 = h.f1) := by
      rintro ⟨a, b⟩
      have : x = h := by
        obtain ⟨x0, x1⟩ := x
        obtain ⟨h0, h1⟩ := h
        simp only at a b
        rw [a, b]
      subst this
      simp at hnd
    rw [if_pos (by simp; omega), rd_head]
    rw [if_neg (by simpa using hne), if_pos rfl]
    simp

theorem law_s (l0 : List S35) (f0 f1 f2 f3 f4 at_ : Int) : ∃ k, patchbaykeep2_WaysStay.f k l0 f0 f1 f2 f3 f4 at_ = some true := by
  have hf : FlowOk (Go.bits .and .i64 f2 255) (Go.bits .and .i64 f3 65535) (Go.bits .and .i64 f4 65535) := by
    have a := and_rng f2 255 (by omega)
    have b := and_rng f3 65535 (by omega)
    have c := and_rng f4 65535 (by omega)
    exact ⟨a.1, a.2, b.1, b.2, c.1, c.2⟩
  obtain ⟨l, h1, hg, hl⟩ := hops_f 40 l0 (by omega)
  have fin : ∃ k, (if (l.length : Int) < 2 then (some true) else ((ways_Rank.f k l f0 f1 (Go.bits .and .i64 f2 255) (Go.bits .and .i64 f3 65535) (Go.bits .and .i64 f4 65535)).bind fun bt315 => (if bt315.2 = 0 then (patchbaykeep2_WaysStay.j0 k l at_ bt315.1 ((bt315.1.length : Int) != (l.length : Int)) f0 f1 (Go.bits .and .i64 f2 255) (Go.bits .and .i64 f3 65535) (Go.bits .and .i64 f4 65535)) else (patchbaykeep2_WaysStay.j0 k l at_ bt315.1 true f0 f1 (Go.bits .and .i64 f2 255) (Go.bits .and .i64 f3 65535) (Go.bits .and .i64 f4 65535))))) = some true ∧ 60 ≤ k := by
    by_cases h2 : (l.length : Int) < 2
    · exact ⟨60, by rw [if_pos h2], by omega⟩
    · obtain ⟨ka, out, a1, a2, a3⟩ := rank_s l (by omega) hg f0 f1 _ _ _ hf
      obtain ⟨kb, b1⟩ := stay_j l out hl (by omega) hg at_ f0 f1 _ _ _ hf a2 a3
      refine ⟨ka + kb + 60, ?_, by omega⟩
      have e1 := monoT (f := fun k => ways_Rank.f k l f0 f1 (Go.bits .and .i64 f2 255) (Go.bits .and .i64 f3 65535) (Go.bits .and .i64 f4 65535)) (fun k => ways_Rank.mono _ _ _ _ _ _ _) a1 (b := ka + kb + 60) (by omega)
      rw [if_neg h2, e1, Option.bind_some, if_pos rfl]
      have hb : ((out.length : Int) != (l.length : Int)) = false := by rw [a2.length_eq]; simp
      rw [hb]
      exact monoT (f := fun k => patchbaykeep2_WaysStay.j0 k l at_ out false f0 f1 (Go.bits .and .i64 f2 255) (Go.bits .and .i64 f3 65535) (Go.bits .and .i64 f4 65535)) (fun k => patchbaykeep2_WaysStay.mono_l k _ _ _ _ _ _ _ _ _) b1 (by omega)
  obtain ⟨k, e, hk⟩ := fin
  refine ⟨k, ?_⟩
  unfold patchbaykeep2_WaysStay.f
  have e0 := monoT (f := fun k => patchbaykeep2_waysLives.f k) (fun k => patchbaykeep2_waysLives.mono _) lives_s (b := k) (by omega)
  have e1 := monoT (f := fun k => patchbaykeep2_hops.f k l0 5) (fun k => patchbaykeep2_hops.mono _ _ _) h1 (b := k) (by omega)
  rw [e0, Option.bind_some, if_pos rfl, e1, Option.bind_some]
  exact e
end Go.Proofs.Ytckhbdeejnephaa.TS
