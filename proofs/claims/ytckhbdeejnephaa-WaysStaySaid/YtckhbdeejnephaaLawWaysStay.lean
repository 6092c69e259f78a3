/- The row of the law WaysStay: whatever the input, the call returns true, and what came in reads as it did. No condition. -/
import Derived.Test.YtckhbdeejnephaaRows
import Derived.Test.YtckhbdeejnephaaOpen
import Derived.Test.YtckhbdeejnephaaTopWaysStay
import Derived.WalkKit
import Derived.ChangeMaps5
import Derived.ProofKit
import Derived.OpenShut
import Derived.ShutString
import Derived.ChangeOld
import Derived.Below
import Derived.SizedLaws
namespace Go.Proofs.Ytckhbdeejnephaa.waysStay
open Go.ChangeShapes Go.WideShapes Go.ChangeAt Go.RowKit Go.Proofs.Ytckhbdeejnephaa.Open Go.Proofs.YtckhbdeejnephaaW.PrintWords
open Go.Proofs.Ytckhbdeejnephaa.TS
set_option linter.unusedVariables false
theorem own : ownKnob Try.prog.godebug = none := by kernel_rfl
theorem laidOut : laidOutB Try.prog = true := by kernel_rfl
theorem opens_k35 : Opens Try.prog 35 k35 ok35 :=
  opens_mono (opens_iso _ (fun x => ⟨x.1, x.2⟩) (fun _ => rfl) (opens_struct Try.underlying35 (by kernel_rfl) (fopens_cons rfl (by kernel_rfl) (opens_int Try.underlying3) (fopens_one rfl (by kernel_rfl) (opens_int Try.underlying23))))) (fun _ h => h)
theorem pars : Try.f4.params.toList = [22, 25, 3] := by rw [Try.params4]
set_option maxRecDepth 100000 in
theorem lifted (os : Os) (started : os.Started) (H : Type) (enc : TypeId × Value → H) :
    ReturnsInHanded {} Try.checked os 4 .any (Rows.waysStaySpec.pre6 enc Try.prog Try.f4 Rows.waysStayRow.domain false) (Rows.waysStaySpec.post enc Try.prog Try.f4 false true false false) := by
  refine returnsInHanded_of_change_sized (C := Try.checked) own started (by kernel_rfl) Try.func4
    (ChangeSpec.witness6 (enc := enc) (C := Try.checked) false ⟨#[], #[.slice none 0 0, .agg #[.int .u32 0, .int .u32 0, .int .i64 0, .int .i64 0, .int .i64 0], .int .i64 0], []⟩ 8 (by kernel_rfl) (by kernel_rfl) (by kernel_rfl) (by kernel_rfl)) ?_
  intro W base args ds gs before hval0 hW hcnd hsz0 _
  have hval : ∀ (j : Nat) t v, Try.f4.params[j]? = some t → args[j]? = some v → Value.okWide Try.prog W .any base t v := hval0
  have hW' := hW
  obtain ⟨p, q, hA0, hV, rfl, hfz, hnd⟩ := hW
  have hA : DataW.TrodAll enc Try.prog W 0 (fun _ => true) true Try.f4.params.toList args.toList ds p := hA0
  have hAB := fun (W' : World) (hb : Below W.heap.size W W') => below_trodAll laidOut hb (by rw [pars]; intro t ht; simp only [List.mem_cons, List.not_mem_nil, or_false] at ht; rcases ht with rfl | rfl | rfl <;> exact ⟨by kernel_rfl, of_decide_eq_true (by kernel_rfl)⟩) hA
  rw [Try.params4] at hA hval
  obtain ⟨v0, vs0, d0, ds0, p0, q0, hargs, rfl, rfl, h0, r0⟩ := trodAll_cons hA
  obtain ⟨v1, vs1, d1, ds1, p1, q1, rfl, rfl, rfl, h1, r1⟩ := trodAll_cons r0
  obtain ⟨v2, vs2, d2, ds2, p2, q2, rfl, rfl, rfl, h2, r2⟩ := trodAll_cons r1
  obtain ⟨rfl, rfl, rfl⟩ := trodAll_nil r2
  obtain rfl : args = #[v0, v1, v2] := by cases args; simp_all
  obtain ⟨rfl, rfl⟩ := trodVars_none hV
  obtain ⟨A0, c0, l0, rfl, hc0, hr0, hk0, hl0⟩ := arg_slice Try.underlying22 (by kernel_rfl) opens_k35 (hval 0 22 v0 rfl rfl) h0
  obtain ⟨cs1, x1, rfl, K1, O1⟩ := arg_struct Try.underlying25 (opens_struct Try.underlying25 (by kernel_rfl) (fopens_cons rfl (by kernel_rfl) (opens_int Try.underlying23) (fopens_cons rfl (by kernel_rfl) (opens_int Try.underlying23) (fopens_cons rfl (by kernel_rfl) (opens_int Try.underlying3) (fopens_cons rfl (by kernel_rfl) (opens_int Try.underlying3) (fopens_one rfl (by kernel_rfl) (opens_int Try.underlying3))))))) (hval 1 25 v1 rfl rfl) h1
  obtain ⟨csl1⟩ := cs1
  obtain ⟨_, _, E1, rfl, ⟨_, _, rfl, rfl, ⟨_, _, rfl, rfl, ⟨_, _, rfl, rfl, rfl⟩⟩⟩⟩ := K1
  simp only [List.cons_append, List.nil_append] at E1
  obtain rfl : csl1 = _ := E1
  obtain ⟨a2, rfl, _, _, w2⟩ := open_int Try.underlying3 (hval 2 3 v2 rfl rfl) h2
  refine (TopWaysStay.walk A0 c0 l0 (x1.1) (x1.2.1) (x1.2.2.1) (x1.2.2.2.1) (x1.2.2.2.2) (a2) W hr0 hc0 hk0 hl0 O1.1 O1.2.1 O1.2.2.1 O1.2.2.2.1 O1.2.2.2.2 w2).mono fun e W' ⟨he, bel⟩ => ?_
  subst he
  exact ⟨_, rfl, _, _, _, [], _, [], hW', trodAll_mk1 (shut_bool Try.underlying4 _), hAB W' bel, rfl, bel.frame _, fun h => by cases h⟩
theorem over : Rows.waysStayRow.holds Try.pinned (OpenSpec.ofChange Rows.waysStaySpec) :=
  OpenClaim.holds_of_wide 4 Try.f4 rfl rfl rfl rfl rfl rfl rfl ⟨rfl, rfl, rfl, rfl, rfl⟩ rfl rfl rfl rfl rfl (by kernel_rfl) Try.func4 (by kernel_rfl)
    (of_decide_eq_true (by kernel_rfl)) (by unfold Func.isWrapper; first | (rw [if_pos (by decide +kernel)]; kernel_rfl) | (rw [if_neg (by decide +kernel)]; exact ⟨rfl, rfl⟩))
    (fun os started H enc _ => lifted os started H enc)
theorem proved : Rows.WaysStaySaid := over
#print axioms proved
end Go.Proofs.Ytckhbdeejnephaa.waysStay
namespace Go.Proofs.Ytckhbdeejnephaa
/-- The row, under a short name, for the claim. -/
theorem waysStay_holds : Rows.WaysStaySaid := waysStay.proved
end Go.Proofs.Ytckhbdeejnephaa
