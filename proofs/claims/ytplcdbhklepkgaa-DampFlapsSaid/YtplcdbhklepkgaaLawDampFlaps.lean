/- The row of the law DampFlaps: whatever the input, the call returns true, and what came in reads as it did. No condition. -/
import Derived.Test.YtplcdbhklepkgaaRows
import Derived.Test.YtplcdbhklepkgaaOpen
import Derived.Test.YtplcdbhklepkgaaTopDampFlaps
import Derived.WalkKit
import Derived.ProofKit
import Derived.OpenShut
import Derived.ShutString
import Derived.ChangeOld
import Derived.Below
import Derived.SizedLaws
namespace Go.Proofs.Ytplcdbhklepkgaa.dampFlaps
open Go.ChangeShapes Go.WideShapes Go.ChangeAt Go.RowKit Go.Proofs.Ytplcdbhklepkgaa.Open Go.Proofs.YtplcdbhklepkgaaW.PrintWords
set_option linter.unusedVariables false
theorem own : ownKnob Try.prog.godebug = none := by kernel_rfl
theorem laidOut : laidOutB Try.prog = true := by kernel_rfl
theorem pars : Try.f4.params.toList = [23, 33] := by rw [Try.params4]
set_option maxRecDepth 100000 in
theorem lifted (os : Os) (started : os.Started) (H : Type) (enc : TypeId × Value → H) :
    ReturnsInHanded {} Try.checked os 4 .any (Rows.dampFlapsSpec.pre6 enc Try.prog Try.f4 Rows.dampFlapsRow.domain false) (Rows.dampFlapsSpec.post enc Try.prog Try.f4 false true false false) := by
  refine returnsInHanded_of_change_sized (C := Try.checked) own started (by kernel_rfl) Try.func4
    (ChangeSpec.witness6 (enc := enc) (C := Try.checked) false ⟨#[], #[.agg #[.int .i64 0, .int .i64 0, .int .i64 0, .int .i64 0, .int .i64 0], .slice none 0 0], []⟩ 8 (by kernel_rfl) (by kernel_rfl) (by kernel_rfl) (by kernel_rfl)) ?_
  intro W base args ds gs before hval0 hW hcnd hsz0 _
  have hval : ∀ (j : Nat) t v, Try.f4.params[j]? = some t → args[j]? = some v → Value.okWide Try.prog W .any base t v := hval0
  have hW' := hW
  obtain ⟨p, q, hA0, hV, rfl, hfz, hnd⟩ := hW
  have hA : DataW.TrodAll enc Try.prog W 0 (fun _ => true) true Try.f4.params.toList args.toList ds p := hA0
  have hAB := fun (W' : World) (hb : Below W.heap.size W W') => below_trodAll laidOut hb (by rw [pars]; intro t ht; simp only [List.mem_cons, List.not_mem_nil, or_false] at ht; rcases ht with rfl | rfl <;> exact ⟨by kernel_rfl, of_decide_eq_true (by kernel_rfl)⟩) hA
  rw [Try.params4] at hA hval
  obtain ⟨v0, vs0, d0, ds0, p0, q0, hargs, rfl, rfl, h0, r0⟩ := trodAll_cons hA
  obtain ⟨v1, vs1, d1, ds1, p1, q1, rfl, rfl, rfl, h1, r1⟩ := trodAll_cons r0
  obtain ⟨rfl, rfl, rfl⟩ := trodAll_nil r1
  obtain rfl : args = #[v0, v1] := by cases args; simp_all
  obtain ⟨rfl, rfl⟩ := trodVars_none hV
  obtain ⟨cs0, x0, rfl, K0, O0⟩ := arg_struct Try.underlying23 (opens_struct Try.underlying23 (by kernel_rfl) (fopens_cons rfl (by kernel_rfl) (opens_int Try.underlying3) (fopens_cons rfl (by kernel_rfl) (opens_int Try.underlying3) (fopens_cons rfl (by kernel_rfl) (opens_int Try.underlying3) (fopens_cons rfl (by kernel_rfl) (opens_int Try.underlying3) (fopens_one rfl (by kernel_rfl) (opens_int Try.underlying3))))))) (hval 0 23 v0 rfl rfl) h0
  obtain ⟨csl0⟩ := cs0
  obtain ⟨_, _, E0, rfl, ⟨_, _, rfl, rfl, ⟨_, _, rfl, rfl, ⟨_, _, rfl, rfl, rfl⟩⟩⟩⟩ := K0
  simp only [List.cons_append, List.nil_append] at E0
  obtain rfl : csl0 = _ := E0
  obtain ⟨A1, c1, l1, rfl, hc1, hr1, hk1, hl1⟩ := arg_slice Try.underlying33 (by kernel_rfl) (opens_int Try.underlying3) (hval 1 33 v1 rfl rfl) h1
  refine (TopDampFlaps.walk (x0.1) (x0.2.1) (x0.2.2.1) (x0.2.2.2.1) (x0.2.2.2.2) A1 c1 l1 W O0.1 O0.2.1 O0.2.2.1 O0.2.2.2.1 O0.2.2.2.2 hr1 hc1 hk1 hl1).mono fun e W' ⟨he, bel⟩ => ?_
  subst he
  exact ⟨_, rfl, _, _, _, [], _, [], hW', trodAll_mk1 (shut_bool Try.underlying4 _), hAB W' bel, rfl, bel.frame _, fun h => by cases h⟩
theorem over : Rows.dampFlapsRow.holds Try.pinned (OpenSpec.ofChange Rows.dampFlapsSpec) :=
  OpenClaim.holds_of_wide 4 Try.f4 rfl rfl rfl rfl rfl rfl rfl ⟨rfl, rfl, rfl, rfl, rfl⟩ rfl rfl rfl rfl rfl (by kernel_rfl) Try.func4 (by kernel_rfl)
    (of_decide_eq_true (by kernel_rfl)) (by unfold Func.isWrapper; first | (rw [if_pos (by decide +kernel)]; kernel_rfl) | (rw [if_neg (by decide +kernel)]; exact ⟨rfl, rfl⟩))
    (fun os started H enc _ => lifted os started H enc)
theorem proved : Rows.DampFlapsSaid := over
#print axioms proved
end Go.Proofs.Ytplcdbhklepkgaa.dampFlaps
namespace Go.Proofs.Ytplcdbhklepkgaa
/-- The row, under a short name, for the claim. -/
theorem dampFlaps_holds : Rows.DampFlapsSaid := dampFlaps.proved
end Go.Proofs.Ytplcdbhklepkgaa
