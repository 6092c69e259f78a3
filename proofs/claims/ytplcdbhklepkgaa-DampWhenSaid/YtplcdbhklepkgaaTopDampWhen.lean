/- DampWhen: for every plan, penalty and two times the call returns true. No condition. -/
import Derived.Test.YtplcdbhklepkgaaPDampWhenx
import Derived.Test.YtplcdbhklepkgaaDampCoreDampWhen
namespace Go.Proofs.Ytplcdbhklepkgaa.TopDampWhen
open Go.RowKit Go.Proofs.YtplcdbhklepkgaaW.PrintWords Go.Proofs.YtplcdbhklepkgaaW.PrintLast Go.Proofs.YtplcdbhklepkgaaW.PrintMore Go.Proofs.Ytplcdbhklepkgaa.PDampWhen Go.Proofs.Ytplcdbhklepkgaa.Num Go.Proofs.Ytplcdbhklepkgaa.DampCoreDampWhen
set_option linter.unusedVariables false

/-- The penalty that the law makes of any number. -/
theorem pen {M : Int} (h0 : 1 ≤ M) (h1 : M ≤ 1535) (a : Int) : ∃ p, wrap64 (Int.tmod (IntKind.u64.wrap a) (IntKind.u64.wrap (wrap64 (M + 1)))) = p ∧ 0 ≤ p ∧ p ≤ M ∧ ¬ IntKind.u64.wrap (wrap64 (M + 1)) = 0 := by
  have e1 : IntKind.u64.wrap (wrap64 (M + 1)) = M + 1 := by rw [wrap64_id (by omega) (by omega), wrap_u64]; omega
  have e2 : 0 ≤ IntKind.u64.wrap a := by rw [wrap_u64]; omega
  rw [e1, Int.tmod_eq_emod_of_nonneg e2]
  have q0 := Int.emod_nonneg (IntKind.u64.wrap a) (show M + 1 ≠ 0 by omega)
  have q1 := Int.emod_lt_of_pos (IntKind.u64.wrap a) (show 0 < M + 1 by omega)
  exact ⟨_, wrap64_id (by omega) (by omega), q0, by omega, by omega⟩

/-- The search for the first time at which the route is not suppressed. -/
theorem search {H F Ho R M : Int} (h : Plan H F Ho R M) (p : Int) (hp : 0 ≤ p) (hp2 : p ≤ M) : ∀ (d k : Nat) (low high : Int), high - low ≤ d → d < k → 0 ≤ low → low ≤ high → high ≤ 40000 → ¬ R ≤ D H p high →
    ∃ r, damp_When.l0 k low high H F Ho R M p 0 true = some (r, 0) ∧ low ≤ r ∧ r ≤ high ∧ ¬ R ≤ D H p r ∧ (r = low ∨ R ≤ D H p (r - 1)) := by
  intro d
  induction d with
  | zero =>
    intro k low high h1 hk h2 h3 h4 h5
    obtain ⟨k, rfl⟩ : ∃ m, k = m + 1 := ⟨k - 1, by omega⟩
    obtain rfl : low = high := by omega
    refine ⟨low, ?_, by omega, by omega, h5, .inl rfl⟩
    simp only [damp_When.l0]
    rw [if_neg (by omega), wrap64_id (by omega) (by omega)]
    simp
  | succ d ih =>
    intro k low high h1 hk h2 h3 h4 h5
    obtain ⟨k, rfl⟩ : ∃ m, k = m + 1 := ⟨k - 1, by omega⟩
    simp only [damp_When.l0]
    by_cases hlt : low < high
    · rw [if_pos hlt, wrap64_id (x := high - low) (by omega) (by omega), Int.tdiv_eq_ediv_of_nonneg (by omega), wrap64_id (x := (high - low) / 2) (by omega) (by omega)]
      obtain ⟨m, hm⟩ : ∃ m, low + (high - low) / 2 = m := ⟨_, rfl⟩
      rw [hm, wrap64_id (x := m) (by omega) (by omega), held_f h p 0 m true hp hp2 (by omega) (by omega), wrap64_id (x := m + 1) (by omega) (by omega)]
      simp only [Option.bind_some, Bool.true_and, decide_eq_true_eq]
      by_cases hr : R ≤ D H p m
      · rw [if_pos hr]
        obtain ⟨r, g1, g2, g3, g4, g5⟩ := ih k (m + 1) high (by omega) (by omega) (by omega) (by omega) h4 h5
        refine ⟨r, g1, by omega, g3, g4, .inr ?_⟩
        rcases g5 with g5 | g5
        · rw [g5, Int.add_sub_cancel]; exact hr
        · exact g5
      · rw [if_neg hr]
        obtain ⟨r, g1, g2, g3, g4, g5⟩ := ih k low m (by omega) (by omega) h2 (by omega) (by omega) hr
        exact ⟨r, g1, g2, by omega, g4, g5⟩
    · obtain rfl : low = high := by omega
      refine ⟨low, ?_, by omega, by omega, h5, .inl rfl⟩
      rw [if_neg (by omega), wrap64_id (by omega) (by omega)]
      simp

theorem when_f {H F Ho R M : Int} (h : Plan H F Ho R M) (p now : Int) (hp : 0 ≤ p) (hp2 : p ≤ M) (hn : 0 ≤ now) (hn2 : now ≤ 4095) :
    ∃ r, damp_When.f 40001 H F Ho R M p 0 true now = some (r, 0) ∧ now ≤ r ∧ r ≤ 40000 ∧ ¬ R ≤ D H p r ∧ (r = now ∨ R ≤ D H p (r - 1)) := by
  have h1 := h.h1
  have h2 := h.h2
  have r1 := h.r1
  have m2 := h.m2
  unfold damp_When.f
  rw [wrong_f h 40000 p 0 now true hp hp2 (by omega) hn (by omega)]
  simp only [Option.bind_some, if_true]
  rw [Int.sub_zero, wrap64_id (x := now) (by omega) (by omega), wrap64_id (x := 31 * H) (by omega) (by omega), wrap64_id (x := now + 31 * H) (by omega) (by omega)]
  have he := D_end H p (now + 31 * H) h1 (by omega) (by omega)
  obtain ⟨r, g1, g2, g3, g4, g5⟩ := search h p hp hp2 40000 40001 now (now + 31 * H) (by omega) (by omega) hn (by omega) (by omega) (by rw [he]; omega)
  exact ⟨r, g1, g2, by omega, g4, g5⟩

theorem pure (a0 a1 a2 a3 a4 b m n : Int) : patchbaykeep2_DampWhen.f 40001 a0 a1 a2 a3 a4 b m n = some true := by
  unfold patchbaykeep2_DampWhen.f
  rw [lives_f 40000]
  obtain ⟨H, F, Ho, R, M, hp, h⟩ := planned_f a0 a1 a2 a3 a4
  simp only [Option.bind_some, if_true]
  rw [hp]
  simp only [Option.bind_some]
  obtain ⟨p, hp, hp0, hp1, hn⟩ := pen (M := M) (by have := h.r1; have := h.o1; have := h.m1; omega) h.m2 b
  rw [if_neg hn, hp]
  have m1 : 0 ≤ Go.bits .and .i64 m 4095 ∧ Go.bits .and .i64 m 4095 ≤ 4095 := and_rng m 4095 (by omega)
  have n1 : 0 ≤ Go.bits .and .i64 n 4095 ∧ Go.bits .and .i64 n 4095 ≤ 4095 := and_rng n 4095 (by omega)
  have h1 := h.h1
  have m2 := h.m2
  generalize Go.bits .and .i64 m 4095 = x at *
  generalize Go.bits .and .i64 n 4095 = y at *
  obtain ⟨r, g1, g2, g3, g4, g5⟩ := when_f h p x hp0 hp1 m1.1 m1.2
  rw [g1]
  simp only [Option.bind_some, if_true]
  rw [wrap64_id (x := r - 1) (by omega) (by omega), wrap64_id (x := r + y) (by omega) (by omega)]
  have e1 : mx x (r - 1) = if r = x then x else r - 1 := by unfold mx; split <;> split <;> omega
  have e2 : 0 ≤ mx x (r - 1) ∧ mx x (r - 1) ≤ 40000 := by rw [e1]; split <;> omega
  rw [look_f h 40000 p 0 (mx x (r - 1)) true hp0 hp1 (by omega) (by omega) (by omega), look_f h 40000 p 0 (r + y) true hp0 hp1 (by omega) (by omega) (by omega)]
  have d := D_mono H p r (r + y) h1 (by omega) (by omega)
  have is : decide (R ≤ D H p (r + y - 0)) = false := by rw [Int.sub_zero]; exact decide_eq_false (by omega)
  simp only [Option.bind_some, if_true, Bool.true_and]
  rw [is, if_pos (show r ≥ x from g2)]
  by_cases hx : r = x
  · rw [if_pos hx]
    simp
  · rw [if_neg hx]
    have was : R ≤ D H p (mx x (r - 1) - 0) := by
      rw [e1, if_neg hx, Int.sub_zero]
      rcases g5 with g5 | g5
      · exact absurd g5 hx
      · exact g5
    rw [Int.sub_zero] at was
    simp [was]

theorem walk (a0_0 : Int) (a0_1 : Int) (a0_2 : Int) (a0_3 : Int) (a0_4 : Int) (a1 : Int) (a2 : Int) (a3 : Int) (W : World)
    (w0_0 : (Lit.int .i64 a0_0).wf = true)
    (w0_1 : (Lit.int .i64 a0_1).wf = true)
    (w0_2 : (Lit.int .i64 a0_2).wf = true)
    (w0_3 : (Lit.int .i64 a0_3).wf = true)
    (w0_4 : (Lit.int .i64 a0_4).wf = true)
    (w1 : (Lit.int .i64 a1).wf = true)
    (w2 : (Lit.int .i64 a2).wf = true)
    (w3 : (Lit.int .i64 a3).wf = true) :
    Calls Try.prog 5 #[.agg #[.int .i64 a0_0, .int .i64 a0_1, .int .i64 a0_2, .int .i64 a0_3, .int .i64 a0_4], .int .i64 a1, .int .i64 a2, .int .i64 a3] W fun e W' => e = .returned (.bool true) ∧ Below W.heap.size W W' :=
  patchbaykeep2_DampWhen.calls 40001 _ _ _ _ _ _ _ _ true W (pure _ _ _ _ _ _ _ _)
end Go.Proofs.Ytplcdbhklepkgaa.TopDampWhen
