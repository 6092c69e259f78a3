/- The row of the law WaysWhole: whatever the input, the call returns true, and what came in reads as it did. No condition. -/
import Derived.Test.YtckhbdeejnephaaRows
import Derived.Test.YtckhbdeejnephaaVOpen
import Derived.Test.YtckhbdeejnephaaVTopWaysWhole
import Derived.WalkKit
import Derived.ChangeMaps5
import Derived.ProofKit
import Derived.OpenShut
import Derived.ShutString
import Derived.ChangeOld
import Derived.Below
import Derived.SizedLaws
namespace Go.Proofs.Ytckhbdeejnephaa.waysWhole
open Go.ChangeShapes Go.WideShapes Go.ChangeAt Go.RowKit Go.Proofs.Ytckhbdeejnephaa.Open Go.Proofs.YtckhbdeejnephaaW.PrintWords
open Go.Proofs.Ytckhbdeejnephaa.TW
set_option linter.unusedVariables false
theorem own : ownKnob Try.prog.godebug = none := by kernel_rfl
theorem laidOut : laidOutB Try.prog = true := by kernel_rfl
theorem opens_k35 : Opens Try.prog 35 k35 ok35 :=
  opens_mono (opens_iso _ (fun x => ⟨x.1, x.2⟩) (fun _ => rfl) (opens_struct Try.underlying35 (by kernel_rfl) (fopens_cons rfl (by kernel_rfl) (opens_int Try.underlying3) (fopens_one rfl (by kernel_rfl) (opens_int Try.underlying23))))) (fun _ h => h)
theorem pars : Try.f5.params.toList = [48, 3, 3, 9, 22] := by rw [Try.params5]
set_option maxRecDepth 100000 in
theorem lifted (os : Os) (started : os.Started) (H : Type) (enc : TypeId × Value → H) :
    ReturnsInHanded {} Try.checked os 5 .any (Rows.waysWholeSpec.pre6 enc Try.prog Try.f5 Rows.waysWholeRow.domain false) (Rows.waysWholeSpec.post enc Try.prog Try.f5 false true false false) := by
  refine returnsInHanded_of_change_sized (C := Try.checked) own started (by kernel_rfl) Try.func5
    (ChangeSpec.witness6 (enc := enc) (C := Try.checked) false ⟨#[], #[.agg #[.int .u32 0, .int .u32 0, .int .i64 0, .int .i64 0, .int .i64 0, .int .i64 0, .bool false, .bool false, .string ByteArray.empty], .int .i64 0, .int .i64 0, .string ByteArray.empty, .slice none 0 0], []⟩ 8 (by kernel_rfl) (by kernel_rfl) (by kernel_rfl) (by kernel_rfl)) ?_
  intro W base args ds gs before hval0 hW hcnd hsz0 _
  have hval : ∀ (j : Nat) t v, Try.f5.params[j]? = some t → args[j]? = some v → Value.okWide Try.prog W .any base t v := hval0
  have hW' := hW
  obtain ⟨p, q, hA0, hV, rfl, hfz, hnd⟩ := hW
  have hA : DataW.TrodAll enc Try.prog W 0 (fun _ => true) true Try.f5.params.toList args.toList ds p := hA0
  have hAB := fun (W' : World) (hb : Below W.heap.size W W') => below_trodAll laidOut hb (by rw [pars]; intro t ht; simp only [List.mem_cons, List.not_mem_nil, or_false] at ht; rcases ht with rfl | rfl | rfl | rfl | rfl <;> exact ⟨by kernel_rfl, of_decide_eq_true (by kernel_rfl)⟩) hA
  rw [Try.params5] at hA hval
  obtain ⟨v0, vs0, d0, ds0, p0, q0, hargs, rfl, rfl, h0, r0⟩ := trodAll_cons hA
  obtain ⟨v1, vs1, d1, ds1, p1, q1, rfl, rfl, rfl, h1, r1⟩ := trodAll_cons r0
  obtain ⟨v2, vs2, d2, ds2, p2, q2, rfl, rfl, rfl, h2, r2⟩ := trodAll_cons r1
  obtain ⟨v3, vs3, d3, ds3, p3, q3, rfl, rfl, rfl, h3, r3⟩ := trodAll_cons r2
  obtain ⟨v4, vs4, d4, ds4, p4, q4, rfl, rfl, rfl, h4, r4⟩ := trodAll_cons r3
  obtain ⟨rfl, rfl, rfl⟩ := trodAll_nil r4
  obtain rfl : args = #[v0, v1, v2, v3, v4] := by cases args; simp_all
  obtain ⟨rfl, rfl⟩ := trodVars_none hV
  obtain ⟨cs0, x0, rfl, K0, O0⟩ := arg_struct Try.underlying48 (opens_struct Try.underlying48 (by kernel_rfl) (fopens_cons rfl (by kernel_rfl) (opens_int Try.underlying23) (fopens_cons rfl (by kernel_rfl) (opens_int Try.underlying23) (fopens_cons rfl (by kernel_rfl) (opens_int Try.underlying3) (fopens_cons rfl (by kernel_rfl) (opens_int Try.underlying3) (fopens_cons rfl (by kernel_rfl) (opens_int Try.underlying3) (fopens_cons rfl (by kernel_rfl) (opens_int Try.underlying3) (fopens_cons rfl (by kernel_rfl) (opens_bool Try.underlying4) (fopens_cons rfl (by kernel_rfl) (opens_bool Try.underlying4) (fopens_one rfl (by kernel_rfl) (opens_string Try.underlying9))))))))))) (hval 0 48 v0 rfl rfl) h0
  obtain ⟨csl0⟩ := cs0
  obtain ⟨_, _, E0, rfl, ⟨_, _, rfl, rfl, ⟨_, _, rfl, rfl, ⟨_, _, rfl, rfl, ⟨_, _, rfl, rfl, ⟨_, _, rfl, rfl, ⟨_, _, rfl, rfl, ⟨_, _, rfl, rfl, rfl⟩⟩⟩⟩⟩⟩⟩⟩ := K0
  simp only [List.cons_append, List.nil_append] at E0
  obtain rfl : csl0 = _ := E0
  obtain ⟨a1, rfl, _, _, w1⟩ := open_int Try.underlying3 (hval 1 3 v1 rfl rfl) h1
  obtain ⟨a2, rfl, _, _, w2⟩ := open_int Try.underlying3 (hval 2 3 v2 rfl rfl) h2
  obtain ⟨a3, rfl, _, _, y3⟩ := Go.ChangeMaps.open_string Try.underlying9 (hval 3 9 v3 rfl rfl) h3
  have w3 : a3.size ≤ 9223372036854775807 := by simpa [maxLen] using y3
  obtain ⟨A4, c4, l4, rfl, hc4, hr4, hk4, hl4⟩ := arg_slice Try.underlying22 (by kernel_rfl) opens_k35 (hval 4 22 v4 rfl rfl) h4
  refine (TopWaysWhole.walk (x0.1) (x0.2.1) (x0.2.2.1) (x0.2.2.2.1) (x0.2.2.2.2.1) (x0.2.2.2.2.2.1) (x0.2.2.2.2.2.2.1) (x0.2.2.2.2.2.2.2.1) (x0.2.2.2.2.2.2.2.2) (a1) (a2) (a3) A4 c4 l4 W O0.1 O0.2.1 O0.2.2.1 O0.2.2.2.1 O0.2.2.2.2.1 O0.2.2.2.2.2.1 O0.2.2.2.2.2.2.2.2 w1 w2 w3 hr4 hc4 hk4 hl4).mono fun e W' ⟨he, bel⟩ => ?_
  subst he
  exact ⟨_, rfl, _, _, _, [], _, [], hW', trodAll_mk1 (shut_bool Try.underlying4 _), hAB W' bel, rfl, bel.frame _, fun h => by cases h⟩
theorem over : Rows.waysWholeRow.holds Try.pinned (OpenSpec.ofChange Rows.waysWholeSpec) :=
  OpenClaim.holds_of_wide 5 Try.f5 rfl rfl rfl rfl rfl rfl rfl ⟨rfl, rfl, rfl, rfl, rfl⟩ rfl rfl rfl rfl rfl (by kernel_rfl) Try.func5 (by kernel_rfl)
    (of_decide_eq_true (by kernel_rfl)) (by unfold Func.isWrapper; first | (rw [if_pos (by decide +kernel)]; kernel_rfl) | (rw [if_neg (by decide +kernel)]; exact ⟨rfl, rfl⟩))
    (fun os started H enc _ => lifted os started H enc)
theorem proved : Rows.WaysWholeSaid := over
#print axioms proved
end Go.Proofs.Ytckhbdeejnephaa.waysWhole
namespace Go.Proofs.Ytckhbdeejnephaa
/-- The row, under a short name, for the claim. -/
theorem waysWhole_holds : Rows.WaysWholeSaid := waysWhole.proved
end Go.Proofs.Ytckhbdeejnephaa
