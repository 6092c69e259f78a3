/- The row of the law BestValley: whatever the input, the call returns true, and what came in reads as it did. No condition. -/
import Derived.Test.YtplcdbhklepkgaaRows
import Derived.Test.YtplcdbhklepkgaaVValleyOpen
import Derived.Test.YtplcdbhklepkgaaVValleyTopBestValley
import Derived.WalkKit
import Derived.ChangeMaps5
import Derived.ProofKit
import Derived.OpenShut
import Derived.ShutString
import Derived.ChangeOld
import Derived.Below
import Derived.SizedLaws
namespace Go.Proofs.Ytplcdbhklepkgaa.bestValley
open Go.ChangeShapes Go.WideShapes Go.ChangeAt Go.RowKit Go.Proofs.Ytplcdbhklepkgaa.Open Go.Proofs.YtplcdbhklepkgaaW.PrintWords
open Go.Proofs.Ytplcdbhklepkgaa.BS
set_option linter.unusedVariables false
theorem own : ownKnob Try.prog.godebug = none := by kernel_rfl
theorem laidOut : laidOutB Try.prog = true := by kernel_rfl
theorem opens_k71 : Opens Try.prog 71 k71 ok71 :=
  opens_mono (opens_iso _ (fun x => ⟨x.1, x.2.1, x.2.2.1, x.2.2.2.1, x.2.2.2.2⟩) (fun _ => rfl) (opens_struct Try.underlying71 (by kernel_rfl) (fopens_cons rfl (by kernel_rfl) (opens_int Try.underlying3) (fopens_cons rfl (by kernel_rfl) (opens_int Try.underlying3) (fopens_cons rfl (by kernel_rfl) (opens_int Try.underlying3) (fopens_cons rfl (by kernel_rfl) (opens_int Try.underlying3) (fopens_one rfl (by kernel_rfl) (opens_int Try.underlying3)))))))) (fun _ h => h)
theorem pars : Try.f7.params.toList = [42, 3, 3] := by rw [Try.params7]
set_option maxRecDepth 100000 in
theorem lifted (os : Os) (started : os.Started) (H : Type) (enc : TypeId × Value → H) :
    ReturnsInHanded {} Try.checked os 7 .any (Rows.bestValleySpec.pre6 enc Try.prog Try.f7 Rows.bestValleyRow.domain false) (Rows.bestValleySpec.post enc Try.prog Try.f7 false true false false) := by
  refine returnsInHanded_of_change_sized (C := Try.checked) own started (by kernel_rfl) Try.func7
    (ChangeSpec.witness6 (enc := enc) (C := Try.checked) false ⟨#[], #[.agg #[.int .i64 0, .slice none 0 0], .int .i64 0, .int .i64 0], []⟩ 8 (by kernel_rfl) (by kernel_rfl) (by kernel_rfl) (by kernel_rfl)) ?_
  intro W base args ds gs before hval0 hW hcnd hsz0 _
  have hval : ∀ (j : Nat) t v, Try.f7.params[j]? = some t → args[j]? = some v → Value.okWide Try.prog W .any base t v := hval0
  have hW' := hW
  obtain ⟨p, q, hA0, hV, rfl, hfz, hnd⟩ := hW
  have hA : DataW.TrodAll enc Try.prog W 0 (fun _ => true) true Try.f7.params.toList args.toList ds p := hA0
  have hAB := fun (W' : World) (hb : Below W.heap.size W W') => below_trodAll laidOut hb (by rw [pars]; intro t ht; simp only [List.mem_cons, List.not_mem_nil, or_false] at ht; rcases ht with rfl | rfl | rfl <;> exact ⟨by kernel_rfl, of_decide_eq_true (by kernel_rfl)⟩) hA
  rw [Try.params7] at hA hval
  obtain ⟨v0, vs0, d0, ds0, p0, q0, hargs, rfl, rfl, h0, r0⟩ := trodAll_cons hA
  obtain ⟨v1, vs1, d1, ds1, p1, q1, rfl, rfl, rfl, h1, r1⟩ := trodAll_cons r0
  obtain ⟨v2, vs2, d2, ds2, p2, q2, rfl, rfl, rfl, h2, r2⟩ := trodAll_cons r1
  obtain ⟨rfl, rfl, rfl⟩ := trodAll_nil r2
  obtain rfl : args = #[v0, v1, v2] := by cases args; simp_all
  obtain ⟨rfl, rfl⟩ := trodVars_none hV
  obtain ⟨cs0, x0, rfl, K0, O0⟩ := arg_struct Try.underlying42 (opens_struct Try.underlying42 (by kernel_rfl) (fopens_cons rfl (by kernel_rfl) (opens_int Try.underlying3) (fopens_one rfl (by kernel_rfl) (opens_slice Try.underlying40 (by kernel_rfl) opens_k71)))) (hval 0 42 v0 rfl rfl) h0
  obtain ⟨csl0⟩ := cs0
  obtain ⟨_, _, E0, rfl, ⟨A0_1, c0_1, rfl, hc0_1, hr0_1⟩⟩ := K0
  simp only [List.cons_append, List.nil_append] at E0
  obtain rfl : csl0 = _ := E0
  obtain ⟨a1, rfl, _, _, w1⟩ := open_int Try.underlying3 (hval 1 3 v1 rfl rfl) h1
  obtain ⟨a2, rfl, _, _, w2⟩ := open_int Try.underlying3 (hval 2 3 v2 rfl rfl) h2
  refine (TopBestValley.walk (x0.1) A0_1 c0_1 x0.2 (a1) (a2) W O0.1 hr0_1 hc0_1 O0.2.1 O0.2.2 w1 w2).mono fun e W' ⟨he, bel⟩ => ?_
  subst he
  exact ⟨_, rfl, _, _, _, [], _, [], hW', trodAll_mk1 (shut_bool Try.underlying4 _), hAB W' bel, rfl, bel.frame _, fun h => by cases h⟩
theorem over : Rows.bestValleyRow.holds Try.pinned (OpenSpec.ofChange Rows.bestValleySpec) :=
  OpenClaim.holds_of_wide 7 Try.f7 rfl rfl rfl rfl rfl rfl rfl ⟨rfl, rfl, rfl, rfl, rfl⟩ rfl rfl rfl rfl rfl (by kernel_rfl) Try.func7 (by kernel_rfl)
    (of_decide_eq_true (by kernel_rfl)) (by unfold Func.isWrapper; first | (rw [if_pos (by decide +kernel)]; kernel_rfl) | (rw [if_neg (by decide +kernel)]; exact ⟨rfl, rfl⟩))
    (fun os started H enc _ => lifted os started H enc)
theorem proved : Rows.BestValleySaid := over
#print axioms proved
end Go.Proofs.Ytplcdbhklepkgaa.bestValley
namespace Go.Proofs.Ytplcdbhklepkgaa
/-- The row, under a short name, for the claim. -/
theorem bestValley_holds : Rows.BestValleySaid := bestValley.proved
end Go.Proofs.Ytplcdbhklepkgaa
