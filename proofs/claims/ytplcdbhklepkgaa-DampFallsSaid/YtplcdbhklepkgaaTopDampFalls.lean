/- DampFalls: for every plan, penalty and two times the call returns true. No condition. -/
import Derived.Test.YtplcdbhklepkgaaPDampFallsx
import Derived.Test.YtplcdbhklepkgaaDampCoreDampFalls
namespace Go.Proofs.Ytplcdbhklepkgaa.TopDampFalls
open Go.RowKit Go.Proofs.YtplcdbhklepkgaaW.PrintWords Go.Proofs.YtplcdbhklepkgaaW.PrintLast Go.Proofs.YtplcdbhklepkgaaW.PrintMore Go.Proofs.Ytplcdbhklepkgaa.PDampFalls Go.Proofs.Ytplcdbhklepkgaa.Num Go.Proofs.Ytplcdbhklepkgaa.DampCoreDampFalls
set_option linter.unusedVariables false

/-- The penalty that the law makes of any number. -/
theorem pen {M : Int} (h0 : 1 ≤ M) (h1 : M ≤ 1535) (a : Int) : ∃ p, wrap64 (Int.tmod (IntKind.u64.wrap a) (IntKind.u64.wrap (wrap64 (M + 1)))) = p ∧ 0 ≤ p ∧ p ≤ M ∧ ¬ IntKind.u64.wrap (wrap64 (M + 1)) = 0 := by
  have e1 : IntKind.u64.wrap (wrap64 (M + 1)) = M + 1 := by rw [wrap64_id (by omega) (by omega), wrap_u64]; omega
  have e2 : 0 ≤ IntKind.u64.wrap a := by rw [wrap_u64]; omega
  rw [e1, Int.tmod_eq_emod_of_nonneg e2]
  have q0 := Int.emod_nonneg (IntKind.u64.wrap a) (show M + 1 ≠ 0 by omega)
  have q1 := Int.emod_lt_of_pos (IntKind.u64.wrap a) (show 0 < M + 1 by omega)
  exact ⟨_, wrap64_id (by omega) (by omega), q0, by omega, by omega⟩

theorem pure (a0 a1 a2 a3 a4 b m n : Int) : patchbaykeep2_DampFalls.f 1 a0 a1 a2 a3 a4 b m n = some true := by
  unfold patchbaykeep2_DampFalls.f
  rw [lives_f 0]
  obtain ⟨H, F, Ho, R, M, hp, h⟩ := planned_f a0 a1 a2 a3 a4
  simp only [Option.bind_some, if_true]
  rw [hp]
  simp only [Option.bind_some]
  obtain ⟨p, hp, hp0, hp1, hn⟩ := pen (M := M) (by have := h.r1; have := h.o1; have := h.m1; omega) h.m2 b
  rw [if_neg hn, hp]
  have m1 : 0 ≤ Go.bits .and .i64 m 4095 ∧ Go.bits .and .i64 m 4095 ≤ 4095 := and_rng m 4095 (by omega)
  have n1 : 0 ≤ Go.bits .and .i64 n 4095 ∧ Go.bits .and .i64 n 4095 ≤ 4095 := and_rng n 4095 (by omega)
  have h1 := h.h1
  have h2 := h.h2
  have m2 := h.m2
  generalize Go.bits .and .i64 m 4095 = x at *
  generalize Go.bits .and .i64 n 4095 = y at *
  have e1 : mn x y ≤ mx x y ∧ 0 ≤ mn x y ∧ mx x y ≤ 4095 := by unfold mn mx; omega
  rw [wrap64_id (x := 5 + mn x y) (by omega) (by omega), wrap64_id (x := 5 + mx x y) (by omega) (by omega), wrap64_id (x := 5 + H) (by omega) (by omega)]
  generalize mn x y = u at *
  generalize mx x y = v at *
  rw [look_f h 0 p 5 (5 + u) false hp0 hp1 (by omega) (by omega) (by omega), look_f h 0 p 5 (5 + v) false hp0 hp1 (by omega) (by omega) (by omega), look_f h 0 p 5 (5 + H) false hp0 hp1 (by omega) (by omega) (by omega)]
  simp only [Option.bind_some, if_true]
  rw [if_pos (D_mono H p _ _ h1 (by omega) (by omega)), if_pos (D_nonneg _ _ _), if_pos (D_le _ _ _ hp0)]
  have e2 : wrap64 (Int.tdiv p 2) = p / 2 := by rw [Int.tdiv_eq_ediv_of_nonneg hp0]; exact wrap64_id (by omega) (by omega)
  have e3 : 5 + H - 5 = H := by omega
  rw [e2, e3, D_half H p h1 hp0]
  simp

theorem walk (a0_0 : Int) (a0_1 : Int) (a0_2 : Int) (a0_3 : Int) (a0_4 : Int) (a1 : Int) (a2 : Int) (a3 : Int) (W : World)
    (w0_0 : (Lit.int .i64 a0_0).wf = true)
    (w0_1 : (Lit.int .i64 a0_1).wf = true)
    (w0_2 : (Lit.int .i64 a0_2).wf = true)
    (w0_3 : (Lit.int .i64 a0_3).wf = true)
    (w0_4 : (Lit.int .i64 a0_4).wf = true)
    (w1 : (Lit.int .i64 a1).wf = true)
    (w2 : (Lit.int .i64 a2).wf = true)
    (w3 : (Lit.int .i64 a3).wf = true) :
    Calls Try.prog 3 #[.agg #[.int .i64 a0_0, .int .i64 a0_1, .int .i64 a0_2, .int .i64 a0_3, .int .i64 a0_4], .int .i64 a1, .int .i64 a2, .int .i64 a3] W fun e W' => e = .returned (.bool true) ∧ Below W.heap.size W W' :=
  patchbaykeep2_DampFalls.calls 1 _ _ _ _ _ _ _ _ true W (pure _ _ _ _ _ _ _ _)
end Go.Proofs.Ytplcdbhklepkgaa.TopDampFalls
