/- The row of the law PathGrows: whatever the input, the call returns true, and what came in reads as it did. No condition. -/
import Derived.Test.YtplcdbhklepkgaaDoorCards
import Derived.Test.YtplcdbhklepkgaaDoorTie
import Derived.Deep.DeepHandedRow
import Derived.Lib.LaidTab
import Derived.SevenTiedAt
import Derived.Test.YtplcdbhklepkgaaDoorVGroOpen
import Derived.Test.YtplcdbhklepkgaaDoorVGroTopPathGrows
import Derived.WalkKit
import Derived.ChangeMaps5
import Derived.ProofKit
import Derived.OpenShut
import Derived.ShutString
import Derived.ChangeOld
import Derived.Below
import Derived.SizedLaws
namespace Go.Proofs.YtplcdbhklepkgaaDoor.pathGrows
open Go.ChangeShapes Go.WideShapes Go.ChangeAt Go.RowKit Go.Proofs.YtplcdbhklepkgaaDoor.Open Go.Proofs.YtplcdbhklepkgaaDoorW.PrintWords
open Go.Proofs.YtplcdbhklepkgaaDoor.PG
set_option linter.unusedVariables false
theorem own : ownKnob Tryd.prog.godebug = none := by kernel_rfl
theorem laidOut : laidOutB Tryd.prog = true := by kernel_rfl
theorem pars : Tryd.f5.params.toList = [31, 3, 3, 3] := by rw [Tryd.params5]
theorem gTen : Tryd.prog.globalNamed "patchbay/patchbaykeep2.ten" = some 0 := by kernel_rfl
theorem gTenType : (Tryd.prog.globals[0]?).map (·.type) = some 29 := by kernel_rfl
theorem cellsA : Tryd.prog.cellsOf 27 = 1 := by kernel_rfl
theorem cellsB : Tryd.prog.cellsOf 3 = 1 := by kernel_rfl
theorem ten_cells {W : World} (h : laidMetH Tryd.prog Rows.pathGrowsRow.laid W) : W.cell? ⟨0, 0, none⟩ = some (.int .u32 167772160) ∧ W.cell? ⟨0, 1, none⟩ = some (.int .i64 8) := by
  obtain ⟨ps, ⟨g', t', cs, fuel, p, q, hg', ht', hvar, hd, _, _⟩, _⟩ := (show laidMet Tryd.prog Rows.pathGrowsRow.laid W from h)
  obtain rfl := Option.some.inj (gTen.symm.trans hg')
  obtain rfl := Option.some.inj (gTenType.symm.trans ht')
  obtain ⟨y0, y1, n, hx, hl, h0, h1⟩ := trod_struct2 Tryd.underlying29 hd
  obtain ⟨z0, k0, rfl, _⟩ := DataW.trod_int Tryd.underlying27 h0
  obtain ⟨z1, k1, rfl, _⟩ := DataW.trod_int Tryd.underlying3 h1
  have e0 := congrArg Prod.fst hx
  simp only [Rows.laid_patchbay_patchbaykeep2_ten, DataW.agg.injEq, List.cons.injEq, DataW.lit.injEq, Lit.int.injEq, true_and, and_true] at e0
  obtain ⟨rfl, rfl⟩ := e0
  rw [cellsA] at k0
  rw [cellsB] at k1
  have c0 := World.var?_cell gTen hvar 0
  have c1 := World.var?_cell gTen hvar 1
  have g0 := congrArg (·[0]?) k0
  have g1 := congrArg (·[0]?) k1
  simp at g0 g1
  exact ⟨c0.trans g0, c1.trans g1⟩
set_option maxRecDepth 100000 in
theorem contract (H : Type) (enc : TypeId × Value → H) (W : World) (base : Nat) (args : Array Value) (ds gs : List (DataW H)) (before : List MemPlace)
    (hval0 : ∀ (j : Nat) t v, Tryd.f5.params[j]? = some t → args[j]? = some v → Value.okWide Tryd.prog W .any base t v)
    (hW : DataW.Whole enc Tryd.prog Tryd.f5.params.toList Rows.pathGrowsSpec.vars false W args.toList ds gs before) (hL : laidMetH Tryd.prog Rows.pathGrowsRow.laid W) :
    Calls Tryd.prog 5 args W fun e W' => ∃ v, e = .returned v ∧ Rows.pathGrowsSpec.post enc Tryd.prog Tryd.f5 false true false false W args v W' := by
  obtain ⟨t0_, t1_⟩ := ten_cells hL
  have hval : ∀ (j : Nat) t v, Tryd.f5.params[j]? = some t → args[j]? = some v → Value.okWide Tryd.prog W .any base t v := hval0
  have hW' := hW
  obtain ⟨p, q, hA0, hV, rfl, hfz, hnd⟩ := hW
  have hA : DataW.TrodAll enc Tryd.prog W 0 (fun _ => true) true Tryd.f5.params.toList args.toList ds p := hA0
  have hAB := fun (W' : World) (hb : Below W.heap.size W W') => below_trodAll laidOut hb (by rw [pars]; intro t ht; simp only [List.mem_cons, List.not_mem_nil, or_false] at ht; rcases ht with rfl | rfl | rfl | rfl <;> exact ⟨by kernel_rfl, of_decide_eq_true (by kernel_rfl)⟩) hA
  rw [Tryd.params5] at hA hval
  obtain ⟨v0, vs0, d0, ds0, p0, q0, hargs, rfl, rfl, h0, r0⟩ := trodAll_cons hA
  obtain ⟨v1, vs1, d1, ds1, p1, q1, rfl, rfl, rfl, h1, r1⟩ := trodAll_cons r0
  obtain ⟨v2, vs2, d2, ds2, p2, q2, rfl, rfl, rfl, h2, r2⟩ := trodAll_cons r1
  obtain ⟨v3, vs3, d3, ds3, p3, q3, rfl, rfl, rfl, h3, r3⟩ := trodAll_cons r2
  obtain ⟨rfl, rfl, rfl⟩ := trodAll_nil r3
  obtain rfl : args = #[v0, v1, v2, v3] := by cases args; simp_all
  obtain ⟨rfl, rfl⟩ := trodVars_none hV
  obtain ⟨cs0, x0, rfl, K0, O0⟩ := arg_struct Tryd.underlying31 (opens_struct Tryd.underlying31 (by kernel_rfl) (fopens_cons rfl (by kernel_rfl) (opens_struct Tryd.underlying29 (by kernel_rfl) (fopens_cons rfl (by kernel_rfl) (opens_int Tryd.underlying27) (fopens_one rfl (by kernel_rfl) (opens_int Tryd.underlying3)))) (fopens_cons rfl (by kernel_rfl) (opens_slice Tryd.underlying23 (by kernel_rfl) (opens_int Tryd.underlying3)) (fopens_cons rfl (by kernel_rfl) (opens_int Tryd.underlying3) (fopens_cons rfl (by kernel_rfl) (opens_int Tryd.underlying3) (fopens_one rfl (by kernel_rfl) (opens_slice Tryd.underlying23 (by kernel_rfl) (opens_int Tryd.underlying3)))))))) (hval 0 31 v0 rfl rfl) h0
  obtain ⟨csl0⟩ := cs0
  obtain ⟨_, _, E0, ⟨_, _, rfl, rfl, rfl⟩, ⟨_, _, rfl, ⟨A0_2, c0_2, rfl, hc0_2, hr0_2⟩, ⟨_, _, rfl, rfl, ⟨_, _, rfl, rfl, ⟨A0_5, c0_5, rfl, hc0_5, hr0_5⟩⟩⟩⟩⟩ := K0
  simp only [List.cons_append, List.nil_append] at E0
  obtain rfl : csl0 = _ := E0
  obtain ⟨a1, rfl, _, _, w1⟩ := open_int Tryd.underlying3 (hval 1 3 v1 rfl rfl) h1
  obtain ⟨a2, rfl, _, _, w2⟩ := open_int Tryd.underlying3 (hval 2 3 v2 rfl rfl) h2
  obtain ⟨a3, rfl, _, _, w3⟩ := open_int Tryd.underlying3 (hval 3 3 v3 rfl rfl) h3
  refine (TopPathGrows.walk (x0.1.1) (x0.1.2) A0_2 c0_2 x0.2.1 (x0.2.2.1) (x0.2.2.2.1) A0_5 c0_5 x0.2.2.2.2 (a1) (a2) (a3) W O0.1.1 O0.1.2 hr0_2 hc0_2 O0.2.1.1 O0.2.1.2 O0.2.2.1 O0.2.2.2.1 hr0_5 hc0_5 O0.2.2.2.2.1 O0.2.2.2.2.2 w1 w2 w3 t0_ t1_).mono fun e W' ⟨he, bel⟩ => ?_
  subst he
  exact ⟨_, rfl, _, _, _, [], _, [], hW', trodAll_mk1 (shut_bool Tryd.underlying4 _), hAB W' bel, rfl, bel.frame _, fun h => by cases h⟩
noncomputable def laidWorld (os : Os) : World :=
  { World.holding Tryd.prog os ⟨#[], #[], []⟩ with heap := (World.holding Tryd.prog os ⟨#[], #[], []⟩).heap.modify 0 fun
      | .cells _ t frozen => .cells #[.int .u32 167772160, .int .i64 8] t frozen
      | o => o }
theorem laid_met (os : Os) : laidMet Tryd.prog Rows.pathGrowsRow.laid ((laidWorld os).forCall (fun _ _ => 0) ⟨#[], #[.agg #[.int .u32 0, .int .i64 0, .slice none 0 0, .int .i64 0, .int .i64 0, .slice none 0 0], .int .i64 0, .int .i64 0, .int .i64 0], []⟩).memory :=
  laidMet_of_run' 8 (by kernel_rfl) (by kernel_rfl)
theorem reads (os : Os) {H : Type} (enc : TypeId × Value → H) : ∃ places, DataW.whole enc Tryd.prog ((laidWorld os).forCall (fun _ _ => 0) ⟨#[], #[.agg #[.int .u32 0, .int .i64 0, .slice none 0 0, .int .i64 0, .int .i64 0, .slice none 0 0], .int .i64 0, .int .i64 0, .int .i64 0], []⟩).memory Tryd.f5.params.toList Rows.pathGrowsSpec.vars false (#[.agg #[.int .u32 0, .int .i64 0, .slice none 0 0, .int .i64 0, .int .i64 0, .slice none 0 0], .int .i64 0, .int .i64 0, .int .i64 0] : Array Value).toList 8 = some ([.agg [.agg [.lit (.int .u32 0), .lit (.int .i64 0)], .nil, .lit (.int .i64 0), .lit (.int .i64 0), .nil], .lit (.int .i64 0), .lit (.int .i64 0), .lit (.int .i64 0)], [], places) :=
  ⟨[], by kernel_rfl⟩
set_option maxRecDepth 100000 in
theorem lifted (os : Os) (started : os.Started) (H : Type) (enc : TypeId × Value → H) (F : Stop.Interp) :
    ReturnsInHanded {} Tryd.checked os 5 .any ((OpenSpec.ofChange Rows.pathGrowsSpec).preRow enc Tryd.prog Tryd.f5 Rows.pathGrowsRow.domain false Rows.pathGrowsRow.laid) (((OpenSpec.ofChange Rows.pathGrowsSpec).at F).post enc Tryd.prog Tryd.f5 false true false false) := by
  obtain ⟨places, hx⟩ := reads os enc
  refine returnsInHanded_of_row (C := Tryd.checked) (s := OpenSpec.ofChange Rows.pathGrowsSpec) own started (by kernel_rfl) Tryd.func5
    (witness_row_at (enc := enc) (C := Tryd.checked) false (laidWorld os) #[.agg #[.int .u32 0, .int .i64 0, .slice none 0 0, .int .i64 0, .int .i64 0, .slice none 0 0], .int .i64 0, .int .i64 0, .int .i64 0] rfl (by kernel_rfl) (by kernel_rfl) (by kernel_rfl)
      (OpenSpec.preRow_of_cond 8 hx (by kernel_rfl) (fun k hk => by cases hk) (by kernel_rfl) (laid_met os))) ?_
  intro W base args ds gs before hval hW _ _ _ hL _ _
  exact contract H enc W base args ds gs before hval hW hL
theorem said : Rows.PathGrowsSaid :=
  OpenClaim.holds_of_cond 5 Tryd.f5 rfl rfl rfl rfl rfl rfl rfl ⟨rfl, rfl, rfl, rfl, rfl⟩ rfl rfl rfl rfl rfl (by kernel_rfl) Tryd.func5 (by kernel_rfl)
    (of_decide_eq_true (by kernel_rfl)) (by unfold Func.isWrapper; first | (rw [if_pos (by decide +kernel)]; kernel_rfl) | (rw [if_neg (by decide +kernel)]; exact ⟨rfl, rfl⟩))
    (fun os started H enc _ F => by rw [OpenClaim.pre_eq_preRow]; exact lifted os started H enc F)
theorem plain (f : FuncId) (fn : Func) (hf : Tryd.pinned.checked.prog.funcNamed "patchbay/patchbaykeep2.PathGrows" = some f) (hfn : Tryd.pinned.checked.prog.funcs[f]? = some fn) :
    false = Tryd.pinned.checked.prog.looks [] ∧ ∀ (j : Nat) t, fn.params[j]? = some t → Tryd.pinned.checked.prog.wantsStandIn t = false := by
  obtain rfl : f = 5 := Option.some.inj ((show Tryd.prog.funcNamed "patchbay/patchbaykeep2.PathGrows" = some 5 by kernel_rfl).symm.trans hf) |>.symm
  obtain rfl : fn = Tryd.f5 := (Option.some.inj (Tryd.func5.symm.trans hfn)).symm
  refine ⟨by kernel_rfl, fun j t ht => ?_⟩
  rw [Tryd.params5] at ht
  have hm := Array.mem_of_getElem? ht
  simp only [List.mem_toArray, List.mem_cons, List.not_mem_nil, or_false] at hm
  rcases hm with rfl | rfl | rfl | rfl
  · exact (show Tryd.prog.wantsStandIn 31 = false by kernel_rfl)
  · exact (show Tryd.prog.wantsStandIn 3 = false by kernel_rfl)
  · exact (show Tryd.prog.wantsStandIn 3 = false by kernel_rfl)
  · exact (show Tryd.prog.wantsStandIn 3 = false by kernel_rfl)
theorem card : Rows.PathGrowsCardSaid :=
  Claim7.holds_tied_plain_at .later [] _ _ _ _ said (fun _ h => by cases h) (by kernel_rfl) (fun _ h => by cases h) pathGrows_row_tie rfl ⟨rfl, rfl⟩ (by kernel_rfl) rfl plain (by kernel_rfl)
#print axioms card
end Go.Proofs.YtplcdbhklepkgaaDoor.pathGrows
namespace Go.Proofs.YtplcdbhklepkgaaDoor
/-- The card, under a short name, for the claim. -/
theorem pathGrows_holds : Rows.PathGrowsCardSaid := pathGrows.card
end Go.Proofs.YtplcdbhklepkgaaDoor
