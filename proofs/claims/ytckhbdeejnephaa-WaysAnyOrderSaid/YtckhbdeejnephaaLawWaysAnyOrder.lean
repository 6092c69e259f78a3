/- The row of the law WaysAnyOrder: whatever the input, the call returns true, and what came in reads as it did. No condition. -/
import Derived.Test.YtckhbdeejnephaaRows
import Derived.Test.YtckhbdeejnephaaOpen
import Derived.Test.YtckhbdeejnephaaTopWaysAnyOrder
import Derived.WalkKit
import Derived.ProofKit
import Derived.OpenShut
import Derived.ShutString
import Derived.ChangeOld
import Derived.Below
import Derived.SizedLaws
namespace Go.Proofs.Ytckhbdeejnephaa.waysAnyOrder
open Go.ChangeShapes Go.WideShapes Go.ChangeAt Go.RowKit Go.Proofs.Ytckhbdeejnephaa.Open Go.Proofs.YtckhbdeejnephaaW.PrintWords
open Go.Proofs.Ytckhbdeejnephaa.T
set_option linter.unusedVariables false
theorem own : ownKnob Try.prog.godebug = none := by kernel_rfl
theorem laidOut : laidOutB Try.prog = true := by kernel_rfl
theorem opens_k35 : Opens Try.prog 35 k35 ok35 :=
  opens_mono (opens_iso _ (fun x => ⟨x.1, x.2⟩) (fun _ => rfl) (opens_struct Try.underlying35 (by kernel_rfl) (fopens_cons rfl (by kernel_rfl) (opens_int Try.underlying3) (fopens_one rfl (by kernel_rfl) (opens_int Try.underlying23))))) (fun _ h => h)
theorem pars : Try.f3.params.toList = [22, 25, 26] := by rw [Try.params3]
set_option maxRecDepth 100000 in
theorem lifted (os : Os) (started : os.Started) (H : Type) (enc : TypeId × Value → H) :
    ReturnsInHanded {} Try.checked os 3 .any (Rows.waysAnyOrderSpec.pre6 enc Try.prog Try.f3 Rows.waysAnyOrderRow.domain false) (Rows.waysAnyOrderSpec.post enc Try.prog Try.f3 false true false false) := by
  refine returnsInHanded_of_change_sized (C := Try.checked) own started (by kernel_rfl) Try.func3
    (ChangeSpec.witness6 (enc := enc) (C := Try.checked) false ⟨#[], #[.slice none 0 0, .agg #[.int .u32 0, .int .u32 0, .int .i64 0, .int .i64 0, .int .i64 0], .slice none 0 0], []⟩ 8 (by kernel_rfl) (by kernel_rfl) (by kernel_rfl) (by kernel_rfl)) ?_
  intro W base args ds gs before hval0 hW hcnd hsz0 _
  have hval : ∀ (j : Nat) t v, Try.f3.params[j]? = some t → args[j]? = some v → Value.okWide Try.prog W .any base t v := hval0
  have hW' := hW
  obtain ⟨p, q, hA0, hV, rfl, hfz, hnd⟩ := hW
  have hA : DataW.TrodAll enc Try.prog W 0 (fun _ => true) true Try.f3.params.toList args.toList ds p := hA0
  have hAB := fun (W' : World) (hb : Below W.heap.size W W') => below_trodAll laidOut hb (by rw [pars]; intro t ht; simp only [List.mem_cons, List.not_mem_nil, or_false] at ht; rcases ht with rfl | rfl | rfl <;> exact ⟨by kernel_rfl, of_decide_eq_true (by kernel_rfl)⟩) hA
  rw [Try.params3] at hA hval
  obtain ⟨v0, vs0, d0, ds0, p0, q0, hargs, rfl, rfl, h0, r0⟩ := trodAll_cons hA
  obtain ⟨v1, vs1, d1, ds1, p1, q1, rfl, rfl, rfl, h1, r1⟩ := trodAll_cons r0
  obtain ⟨v2, vs2, d2, ds2, p2, q2, rfl, rfl, rfl, h2, r2⟩ := trodAll_cons r1
  obtain ⟨rfl, rfl, rfl⟩ := trodAll_nil r2
  obtain rfl : args = #[v0, v1, v2] := by cases args; simp_all
  obtain ⟨rfl, rfl⟩ := trodVars_none hV
  obtain ⟨A0, c0, l0, rfl, hc0, hr0, hk0, hl0⟩ := arg_slice Try.underlying22 (by kernel_rfl) opens_k35 (hval 0 22 v0 rfl rfl) h0
  obtain ⟨cs1, x1, rfl, K1, O1⟩ := arg_struct Try.underlying25 (opens_struct Try.underlying25 (by kernel_rfl) (fopens_cons rfl (by kernel_rfl) (opens_int Try.underlying23) (fopens_cons rfl (by kernel_rfl) (opens_int Try.underlying23) (fopens_cons rfl (by kernel_rfl) (opens_int Try.underlying3) (fopens_cons rfl (by kernel_rfl) (opens_int Try.underlying3) (fopens_one rfl (by kernel_rfl) (opens_int Try.underlying3))))))) (hval 1 25 v1 rfl rfl) h1
  obtain ⟨csl1⟩ := cs1
  obtain ⟨_, _, E1, rfl, ⟨_, _, rfl, rfl, ⟨_, _, rfl, rfl, ⟨_, _, rfl, rfl, rfl⟩⟩⟩⟩ := K1
  simp only [List.cons_append, List.nil_append] at E1
  obtain rfl : csl1 = _ := E1
  obtain ⟨A2, c2, l2, rfl, hc2, hr2, hk2, hl2⟩ := arg_slice Try.underlying26 (by kernel_rfl) (opens_int Try.underlying3) (hval 2 26 v2 rfl rfl) h2
  refine (TopWaysAnyOrder.walk A0 c0 l0 (x1.1) (x1.2.1) (x1.2.2.1) (x1.2.2.2.1) (x1.2.2.2.2) A2 c2 l2 W hr0 hc0 hk0 hl0 O1.1 O1.2.1 O1.2.2.1 O1.2.2.2.1 O1.2.2.2.2 hr2 hc2 hk2 hl2).mono fun e W' ⟨he, bel⟩ => ?_
  subst he
  exact ⟨_, rfl, _, _, _, [], _, [], hW', trodAll_mk1 (shut_bool Try.underlying4 _), hAB W' bel, rfl, bel.frame _, fun h => by cases h⟩
theorem over : Rows.waysAnyOrderRow.holds Try.pinned (OpenSpec.ofChange Rows.waysAnyOrderSpec) :=
  OpenClaim.holds_of_wide 3 Try.f3 rfl rfl rfl rfl rfl rfl rfl ⟨rfl, rfl, rfl, rfl, rfl⟩ rfl rfl rfl rfl rfl (by kernel_rfl) Try.func3 (by kernel_rfl)
    (of_decide_eq_true (by kernel_rfl)) (by unfold Func.isWrapper; first | (rw [if_pos (by decide +kernel)]; kernel_rfl) | (rw [if_neg (by decide +kernel)]; exact ⟨rfl, rfl⟩))
    (fun os started H enc _ => lifted os started H enc)
theorem proved : Rows.WaysAnyOrderSaid := over
#print axioms proved
end Go.Proofs.Ytckhbdeejnephaa.waysAnyOrder
namespace Go.Proofs.Ytckhbdeejnephaa
/-- The row, under a short name, for the claim. -/
theorem waysAnyOrder_holds : Rows.WaysAnyOrderSaid := waysAnyOrder.proved
end Go.Proofs.Ytckhbdeejnephaa
