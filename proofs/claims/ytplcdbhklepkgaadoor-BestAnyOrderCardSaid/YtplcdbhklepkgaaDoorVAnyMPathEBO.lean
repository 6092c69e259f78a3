/- BestAnyOrder, the plain law: those that are left are alike, whatever order the list has. No condition. -/
import Derived.Test.YtplcdbhklepkgaaDoorVAnyMPathCBO
namespace Go.Proofs.YtplcdbhklepkgaaDoor.BO
open Go.RowKit Go.Proofs.YtplcdbhklepkgaaDoorW.PrintWords Go.Proofs.YtplcdbhklepkgaaDoorW.PrintLast Go.Proofs.YtplcdbhklepkgaaDoorW.PrintMore Go.Proofs.YtplcdbhklepkgaaDoor.Num Go.Proofs.YtplcdbhklepkgaaDoor.PathM
set_option linter.unusedVariables false
set_option linter.unusedSimpArgs false

theorem wrap_u64 (x : Int) : IntKind.u64.wrap x = x % 18446744073709551616 := rfl
theorem S31eta (x : S31) : (⟨⟨x.f0.f0, x.f0.f1⟩, x.f1, x.f2, x.f3, x.f4⟩ : S31) = x := rfl

/-! ### the mix -/
theorem mix_s (ks : List Int) : ∀ (d : Nat) (l : List S31) (i k : Nat), l.length ≤ 16 → l.length = i + d → d < k →
    ∃ out, g1_.l0 k ks l (l.length : Int) (i : Int) = some out ∧ out.Perm l := by
  intro d
  induction d with
  | zero =>
    intro l i k hl hi hk
    obtain ⟨k, rfl⟩ : ∃ m, k = m + 1 := ⟨k - 1, by omega⟩
    rw [g1_.l0, if_neg (by omega)]
    exact ⟨l, rfl, List.Perm.refl _⟩
  | succ d ih =>
    intro l i k hl hi hk
    obtain ⟨k, rfl⟩ : ∃ m, k = m + 1 := ⟨k - 1, by omega⟩
    rw [g1_.l0, if_pos (by omega)]
    rw [wrap64_id (x := (i : Int) + 1) (by omega) (by omega)]
    have hi1 : ((i : Int) + 1) = ((i + 1 : Nat) : Int) := by omega
    by_cases hc : (i : Int) < (ks.length : Int)
    · rw [if_pos hc, if_pos (by omega)]
      rw [wrap64_id (x := (l.length : Int) - i) (by omega) (by omega)]
      have hu : IntKind.u64.wrap ((l.length : Int) - i) = (d : Int) + 1 := by rw [wrap_u64]; omega
      rw [hu, if_neg (by omega)]
      have hy : 0 ≤ IntKind.u64.wrap (rd ks (i : Int)) := by rw [wrap_u64]; omega
      generalize IntKind.u64.wrap (rd ks (i : Int)) = y at *
      have ht : 0 ≤ Int.tmod y ((d : Int) + 1) ∧ Int.tmod y ((d : Int) + 1) < (d : Int) + 1 := ⟨Int.tmod_nonneg _ hy, Int.tmod_lt_of_pos _ (by omega)⟩
      generalize Int.tmod y ((d : Int) + 1) = t at *
      rw [wrap64_id (x := t) (by omega) (by omega), wrap64_id (x := (i : Int) + t) (by omega) (by omega)]
      rw [if_pos (by omega), if_pos (by omega), if_pos (by omega)]
      rw [S31eta, S31eta]
      have hj : ((i : Int) + t).toNat < l.length := by omega
      have r1 : rd_T31 l ((i : Int) + t) = l[((i : Int) + t).toNat] := by simp [rd_T31, List.getD_eq_getElem?_getD, hj]
      have r2 : rd_T31 l (i : Int) = l[i]'(by omega) := by
        have : i < l.length := by omega
        simp [rd_T31, List.getD_eq_getElem?_getD, this]
      rw [r1, r2, Int.toNat_natCast]
      have hp := @List.set_set_perm _ l i ((i : Int) + t).toNat (by omega) hj
      generalize hm : (l.set i l[((i : Int) + t).toNat]).set ((i : Int) + t).toNat (l[i]'(by omega)) = l2 at *
      have hlen : l2.length = l.length := hp.length_eq
      obtain ⟨out, h1, h2⟩ := ih l2 (i + 1) k (by omega) (by omega) (by omega)
      rw [hlen] at h1
      rw [hi1]
      exact ⟨out, h1, h2.trans hp⟩
    · rw [if_neg hc, hi1]
      exact ih l (i + 1) k hl (by omega) (by omega)

theorem mixed_s (l : List S31) (ks : List Int) (k : Nat) (hl : l.length ≤ 16) (hk : 40 ≤ k) : ∃ out, g1_.f k l ks = some out ∧ out.Perm l := by
  unfold g1_.f g27_.f
  simp only [Option.bind_some, List.length_nil, List.nil_append]
  rw [if_pos (by omega)]
  simp only [Option.bind_some]
  have := mix_s ks l.length l 0 k hl (by omega) (by omega)
  simpa using this

theorem equal_s (l : List Int) (hl : l.length ≤ 100) (k : Nat) (hk : 200 ≤ k) : g11_.f k l l = some true := by
  have h : ∀ (d i k : Nat), l.length = i + d → d < k → g11_.l0 k l l (l.length : Int) (i : Int) = some true := by
    intro d
    induction d with
    | zero =>
      intro i k hi hk
      obtain ⟨k, rfl⟩ : ∃ m, k = m + 1 := ⟨k - 1, by omega⟩
      rw [g11_.l0, if_neg (by omega)]
    | succ d ih =>
      intro i k hi hk
      obtain ⟨k, rfl⟩ : ∃ m, k = m + 1 := ⟨k - 1, by omega⟩
      rw [g11_.l0, if_pos (by omega), if_pos (by omega), if_pos (by omega), if_pos (by omega), if_pos rfl, wrap64_id (x := (i : Int) + 1) (by omega) (by omega)]
      have := ih (i + 1) k (by omega) (by omega)
      rwa [show ((i + 1 : Nat) : Int) = (i : Int) + 1 from by omega] at this
  unfold g11_.f
  rw [if_pos rfl]
  exact h l.length 0 k (by omega) (by omega)

/-! ### those that are left -/
theorem V4_perm {l m : List S31} (h : l.Perm m) : (V4 l).Perm (V4 m) := Kv_perm c4 (Kv_perm c3 (Kv_perm c2 (Kv_perm c1 h)))
theorem V4_alike {L : List S31} {a b : S31} (ha : a ∈ V4 L) (hb : b ∈ V4 L) : a.f2 = b.f2 ∧ a.f3 = b.f3 ∧ a.f1 = b.f1 := by
  unfold V4 at ha hb
  obtain ⟨a3, ka4⟩ := Kv_mem.mp ha
  obtain ⟨b3, kb4⟩ := Kv_mem.mp hb
  obtain ⟨a2, ka3⟩ := Kv_mem.mp a3
  obtain ⟨b2, kb3⟩ := Kv_mem.mp b3
  obtain ⟨a1, ka2⟩ := Kv_mem.mp a2
  obtain ⟨b1, kb2⟩ := Kv_mem.mp b2
  obtain ⟨a0, ka1⟩ := Kv_mem.mp a1
  obtain ⟨b0, kb1⟩ := Kv_mem.mp b1
  have e1 : a.f1 = b.f1 := by
    have x := ka4 b b3
    have y := kb4 a a3
    unfold c4 at x y
    rw [lx_neg] at x
    exact (lx_zero b.f1 a.f1 (by omega)).symm
  have e2 : a.f2 = b.f2 := by
    have x := ka1 b b0
    have y := kb1 a a0
    unfold c1 at x y
    rw [cmp_pos] at x y
    omega
  have e3 : a.f3 = b.f3 := by
    have x := ka3 b b2
    have y := kb3 a a2
    have f : fst a = fst b := by unfold fst; rw [e1]
    unfold c3 at x y
    rw [if_pos f.symm, cmp_pos] at x
    rw [if_pos f, cmp_pos] at y
    omega
  exact ⟨e2, e3, e1⟩

theorem lives_200 : g14_.f 200 = some true := by kernel_rfl
theorem lives_k (k : Nat) (hk : 200 ≤ k) : g14_.f k = some true := at_rounds (g := fun k => g14_.f k) (fun k => g14_.mono _) hk lives_200

theorem law_any (l : List S31) (ks : List Int) : ∃ k, g13_.f k l ks = some true := by
  obtain ⟨k0, L, s1, hL, ok⟩ := same_s l
  have s2 := at_rounds (g := fun k => g9_.f k l 5) (fun k => g9_.mono _ _ _) (k' := k0 + 2000) (by omega) s1
  obtain ⟨M, m1, m2⟩ := mixed_s L ks (k0 + 2000) (by omega) (by omega)
  have hM : M.length = L.length := m2.length_eq
  refine ⟨k0 + 2000, ?_⟩
  unfold g13_.f
  rw [lives_k _ (by omega)]
  simp only [Option.bind_some, if_true]
  rw [s2]
  simp only [Option.bind_some]
  by_cases h2 : (L.length : Int) = 0
  · rw [if_pos h2]
  · rw [if_neg h2]
    have hne : L ≠ [] := by intro z; rw [z] at h2; simp at h2
    have hnm : M ≠ [] := by intro z; rw [z] at hM; simp at hM; omega
    obtain ⟨i, c1, c2, c3⟩ := Choose_s L ok (by omega) hne (k0 + 2000) (by omega)
    obtain ⟨j, d1, d2, d3⟩ := Choose_s M (fun p hp => ok p (m2.subset hp)) (by omega) hnm (k0 + 2000) (by omega)
    rw [m1]
    simp only [Option.bind_some]
    rw [c1]
    simp only [Option.bind_some]
    rw [d1]
    simp only [Option.bind_some, if_true]
    obtain ⟨e2, e3, e1⟩ := V4_alike c3 ((V4_perm m2).subset d3)
    have w := (ok _ (g_mem c2)).wl
    unfold g at e1 e2 e3 w
    rw [if_neg (by have := c2.1; omega), if_neg (by have := c2.2; omega), if_neg (by have := d2.1; omega), if_neg (by have := d2.2; omega)]
    rw [if_pos c2.1, if_pos c2.2, if_pos d2.1, if_pos d2.2, if_pos e2, if_pos e3, ← e1, equal_s _ (by omega) _ (by omega)]
    rfl
end Go.Proofs.YtplcdbhklepkgaaDoor.BO
