/- BestSettles, BestValley, the plain law: what 'ordered' makes of any network. No condition. -/
import Derived.Test.YtplcdbhklepkgaaVValleyMBestCBS
import Derived.Test.YtplcdbhklepkgaaVValleyBSx18
namespace Go.Proofs.Ytplcdbhklepkgaa.BS
open Go.RowKit Go.Proofs.YtplcdbhklepkgaaW.PrintWords Go.Proofs.YtplcdbhklepkgaaW.PrintLast Go.Proofs.YtplcdbhklepkgaaW.PrintMore Go.Proofs.Ytplcdbhklepkgaa.Num Go.Proofs.Ytplcdbhklepkgaa.BestM
set_option linter.unusedVariables false
set_option linter.unusedSimpArgs false

theorem ixo_l (a b c : Int) (n : Nat) (hn : n < 1000) : ∀ (s p : List S71) (k : Nat), (p ++ s).length = n → s.length < k →
    ∃ j, g3_.l0 k (p ++ s) (n : Int) (p.length : Int) a b c 0 0 = some j ∧ (0 ≤ j ↔ ∃ y, y ∈ s ∧ y.f0 = a ∧ y.f1 = b) := by
  intro s
  induction s with
  | nil =>
    intro p k hl hk
    obtain ⟨k, rfl⟩ : ∃ m, k = m + 1 := ⟨k - 1, by simp at hk; omega⟩
    simp only [List.append_nil] at hl
    rw [g3_.l0, if_neg (by omega)]
    exact ⟨-1, rfl, by simp⟩
  | cons y s ih =>
    intro p k hl hk
    obtain ⟨k, rfl⟩ : ∃ m, k = m + 1 := ⟨k - 1, by simp at hk; omega⟩
    have hl2 : p.length + s.length + 1 = n := by simp at hl; omega
    rw [g3_.l0, if_pos (by omega), if_pos (by omega), if_pos (by rw [hl]; omega), rd71, wrap64_id (x := (p.length : Int) + 1) (by omega) (by omega)]
    have e : g36_.f y.f0 y.f1 y.f2 y.f3 y.f4 a b c 0 0 = some (decide (y.f0 = a ∧ y.f1 = b)) := by
      unfold g36_.f
      by_cases c1 : y.f0 = a
      · rw [if_pos c1]
        congr 1
        rw [Bool.eq_iff_iff]
        simp [c1]
      · rw [if_neg c1]; simp [c1]
    rw [e]
    simp only [Option.bind_some, decide_eq_true_eq]
    by_cases c1 : y.f0 = a ∧ y.f1 = b
    · rw [if_pos c1]
      exact ⟨_, rfl, ⟨fun _ => ⟨y, by simp, c1⟩, fun _ => by omega⟩⟩
    · rw [if_neg c1]
      obtain ⟨j, j1, j2⟩ := ih (p ++ [y]) k (by simp; omega) (by simp at hk; omega)
      refine ⟨j, by simpa using j1, j2.trans ?_⟩
      constructor
      · rintro ⟨z, z1, z2⟩; exact ⟨z, by simp [z1], z2⟩
      · rintro ⟨z, z1, z2⟩
        rcases List.mem_cons.mp z1 with rfl | z1
        · exact absurd z2 c1
        · exact ⟨z, z1, z2⟩

theorem cfo_s (k : Nat) (l : List S71) (a b c : Int) (hl : l.length < 100) (hk : 100 ≤ k) : ∃ r, g10_.f k l a b c 0 0 = some r ∧ (r = true ↔ ∃ y, y ∈ l ∧ y.f0 = a ∧ y.f1 = b) := by
  obtain ⟨j, j1, j2⟩ := ixo_l a b c l.length (by omega) l [] k (by simp) (by omega)
  simp only [List.nil_append, List.length_nil] at j1
  unfold g10_.f g3_.f
  rw [show ((0 : Nat) : Int) = 0 from rfl] at j1
  rw [j1]
  exact ⟨_, rfl, by simp only [decide_eq_true_eq, ge_iff_le]; exact j2⟩

theorem tmod_rng (x : Int) (n : Nat) (h : 0 < n) (hn : n < 1000) : ∃ a : Int, wrap64 (Int.tmod (IntKind.u64.wrap x) (IntKind.u64.wrap (n : Int))) = a ∧ 0 ≤ a ∧ a < n := by
  have hu : IntKind.u64.wrap (n : Int) = (n : Int) := by rw [wrap_u64]; omega
  have hy : 0 ≤ IntKind.u64.wrap x := by rw [wrap_u64]; omega
  have h1 := Int.tmod_nonneg (n : Int) hy
  have h2 := Int.tmod_lt_of_pos (IntKind.u64.wrap x) (show (0 : Int) < n by omega)
  exact ⟨_, by rw [hu, wrap64_id (by omega) (by omega)], h1, h2⟩

theorem ordered_l (n : Nat) (h1 : 2 ≤ n) (hn : n ≤ 6) (c : Nat) (hc : c ≤ 7) : ∀ (s p acc : List S71) (k : Nat), (p ++ s).length = c → s.length + 200 ≤ k → Links n acc → acc.length ≤ p.length →
    ∃ L, g5_.l0 k (p ++ s) c p.length n acc = some ((n : Int), L) ∧ Links n L ∧ L.length ≤ c := by
  intro s
  induction s with
  | nil =>
    intro p acc k hl hk A ha
    obtain ⟨k, rfl⟩ : ∃ m, k = m + 1 := ⟨k - 1, by omega⟩
    simp only [List.append_nil] at hl ⊢
    rw [g5_.l0, if_neg (by omega)]
    exact ⟨acc, rfl, A, by omega⟩
  | cons x s ih =>
    intro p acc k hl hk A ha
    obtain ⟨k, rfl⟩ : ∃ m, k = m + 1 := ⟨k - 1, by omega⟩
    have hl2 : p.length + s.length + 1 = c := by simp at hl; omega
    have hu : IntKind.u64.wrap (n : Int) = (n : Int) := by rw [wrap_u64]; omega
    obtain ⟨a, ea, a0, a1⟩ := tmod_rng x.f0 n (by omega) (by omega)
    obtain ⟨b, eb, b0, b1⟩ := tmod_rng x.f1 n (by omega) (by omega)
    have wr : wrap64 ((p.length : Int) + 1) = ((p ++ [x]).length : Int) := by rw [wrap64_id (by omega) (by omega)]; simp
    have hap : p ++ x :: s = (p ++ [x]) ++ s := by simp
    have skip := ih (p ++ [x]) acc k (by simp; omega) (by simp at hk; omega) A (by simp; omega)
    rw [← hap] at skip
    rw [g5_.l0, if_pos (by omega), if_pos (by omega), if_pos (by rw [hl]; omega), rd71, ea, eb, wr, if_neg (by rw [hu]; omega)]
    by_cases e : a = b
    · rw [if_pos e]; exact skip
    · rw [if_neg e]
      have m : 0 ≤ mn a b ∧ mn a b < mx a b ∧ mx a b < n := by unfold mn mx; (repeat' split) <;> omega
      obtain ⟨g0, g1⟩ := and_rng x.f2 1 (by omega)
      have wk : wrap64 (1 + Go.bits .and .i64 x.f2 ((1 : Nat) : Int)) = 1 + Go.bits .and .i64 x.f2 ((1 : Nat) : Int) := wrap64_id (by omega) (by omega)
      rw [show ((1 : Nat) : Int) = 1 from rfl] at wk g0 g1
      rw [wk]
      generalize Go.bits .and .i64 x.f2 1 = y at g0 g1 ⊢
      generalize mn a b = q at m ⊢
      generalize mx a b = r at m ⊢
      obtain ⟨z, z1, z2⟩ := cfo_s k acc q r (1 + y) (by omega) (by omega)
      rw [z1]
      simp only [Option.bind_some]
      by_cases cz : z = true
      · rw [if_pos cz]; exact skip
      · rw [if_neg cz, if_pos (by omega)]
        have A2 : Links n (acc ++ [⟨q, r, 1 + y, 0, 0⟩]) := by
          refine ⟨?_, ?_⟩
          · intro u hu
            rcases List.mem_append.mp hu with hu | hu
            · exact A.ok u hu
            · rw [List.mem_singleton] at hu
              subst hu
              exact ⟨m.1, m.2.1, m.2.2, by show 1 ≤ 1 + y; omega, by show 1 + y ≤ 2; omega, rfl, rfl⟩
          · rw [List.pairwise_append]
            refine ⟨A.apart, by simp, ?_⟩
            intro u hu v hv
            rw [List.mem_singleton] at hv
            subst hv
            intro e2
            exact cz (z2.mpr ⟨u, hu, e2⟩)
        have next := ih (p ++ [x]) (acc ++ [⟨q, r, 1 + y, 0, 0⟩]) k (by simp; omega) (by simp at hk; omega) A2 (by simp; omega)
        rw [← hap] at next
        exact next

theorem some71 (l : List S71) (n : Nat) : g26_.f l (n : Int) = some (l.take n) := by
  unfold g26_.f
  have h : 0 ≤ mn (l.length : Int) (n : Int) ∧ mn (l.length : Int) n ≤ l.length ∧ mn (l.length : Int) n ≤ n ∧ (mn (l.length : Int) n = l.length ∨ mn (l.length : Int) n = n) := by
    unfold mn; split <;> omega
  rw [if_pos h.1, if_pos h.2.1]
  obtain ⟨_, h1, h2, h3⟩ := h
  rcases h3 with h3 | h3
  · rw [h3]
    simp only [Int.toNat_natCast, List.take_length, Option.some.injEq]
    rw [List.take_of_length_le (by omega)]
  · rw [h3]; simp

theorem ordered_s (k : Nat) (hk : 300 ≤ k) (a : Int) (l : List S71) : ∃ (n : Nat) (L : List S71), g5_.f k a l 7 = some ((n : Int), L) ∧ 2 ≤ n ∧ n ≤ 6 ∧ Links n L ∧ L.length ≤ 7 := by
  have h5 : 0 ≤ IntKind.u64.wrap a := by rw [wrap_u64]; omega
  have t0 := Int.tmod_nonneg 5 h5
  have t1 := Int.tmod_lt_of_pos (IntKind.u64.wrap a) (show (0 : Int) < 5 by omega)
  obtain ⟨n, hn⟩ : ∃ n : Nat, 2 + Int.tmod (IntKind.u64.wrap a) 5 = n := ⟨(2 + Int.tmod (IntKind.u64.wrap a) 5).toNat, by omega⟩
  have s7 := some71 l 7
  rw [show ((7 : Nat) : Int) = 7 from rfl] at s7
  have h7 : (l.take 7).length ≤ 7 := by simp; omega
  obtain ⟨L, L1, L2, L3⟩ := ordered_l n (by omega) (by omega) (l.take 7).length h7 (l.take 7) [] [] k (by simp) (by omega) ⟨by simp, List.Pairwise.nil⟩ (by simp)
  refine ⟨n, L, ?_, by omega, by omega, L2, by omega⟩
  unfold g5_.f
  rw [s7]
  simp only [Option.bind_some]
  rw [wrap64_id (x := Int.tmod (IntKind.u64.wrap a) 5) (by omega) (by omega), hn, wrap64_id (by omega) (by omega)]
  simpa using L1
end Go.Proofs.Ytplcdbhklepkgaa.BS
