-- Made by gen.py, a program of this session's, over the kit's print.
import Derived.Test.YtplcdbhklepkgaaDoorVAnyShort
import Derived.Test.YtplcdbhklepkgaaDoorVAnyBOx0
import Derived.Test.YtplcdbhklepkgaaDoorVAnyBOx4
import Derived.Test.YtplcdbhklepkgaaDoorVAnyBOx6
namespace Go.Proofs.YtplcdbhklepkgaaDoor.BO
open Go.RowKit Go.Proofs.YtplcdbhklepkgaaDoorW.PrintWords Go.Proofs.YtplcdbhklepkgaaDoorW.PrintLast Go.Proofs.YtplcdbhklepkgaaDoorW.PrintMore Go.Proofs.YtplcdbhklepkgaaDoor.GenWords
attribute [local go_sem] max2_int min2_int max_two min_two max_three min_three max_four min_four   -- for this text's walks alone
set_option linter.unusedVariables false
set_option linter.unusedSimpArgs false

/-! ### best_first: function 50 -/
def best_first.f (a0_0 : Int) (a0_1 : Int) (l0_2 : List Int) (a0_3 : Int) (a0_4 : Int) (l0_5 : List Int) : Option (Int) := if (l0_2.length : Int) = 0 then (some 0) else (if 0 < (l0_2.length : Int) then (some (rd l0_2 0)) else (none))
set_option maxHeartbeats 8000000 in
set_option maxRecDepth 100000 in
theorem best_first.calls (a0_0 : Int) (a0_1 : Int) (A0_2 : Option Addr) (c0_2 : Nat) (l0_2 : List Int) (a0_3 : Int) (a0_4 : Int) (A0_5 : Option Addr) (c0_5 : Nat) (l0_5 : List Int) (r : Int) (w : World) (hr0_2 : Kd.C (Kd.int .i64) w A0_2 l0_2.length l0_2) (hc0_2 : l0_2.length ≤ c0_2) (hr0_5 : Kd.C (Kd.int .i64) w A0_5 l0_5.length l0_5) (hc0_5 : l0_5.length ≤ c0_5) (h : best_first.f a0_0 a0_1 l0_2 a0_3 a0_4 l0_5 = some r) :
 Calls Tryd.prog 50 #[.agg #[.int .u32 a0_0, .int .i64 a0_1, .slice A0_2 l0_2.length c0_2, .int .i64 a0_3, .int .i64 a0_4, .slice A0_5 l0_5.length c0_5]] w fun e w' => e = .returned (.int .i64 r) ∧ Below w.heap.size w w' := by
 have hu31 := Tryd.underlying31
 have hu23 := Tryd.underlying23
 have hu3 := Tryd.underlying3
 have HR0_2 := Aside0.mk hr0_2
 have HC0_2 := Aside0.mk hc0_2
 clear hr0_2 hc0_2
 have HR0_5 := Aside0.mk hr0_5
 have HC0_5 := Aside0.mk hc0_5
 clear hr0_5 hc0_5
 have HB := Aside0.mk (Below.refl w.heap.size w)
 have H : (if (l0_2.length : Int) = 0 then (some 0) else (if 0 < (l0_2.length : Int) then (some (rd l0_2 0)) else (none))) = some r := h
 clear h
 by_cases c2 : (l0_2.length : Int) = 0
 ·
  rw [if_pos c2] at H
  have c2b0 : ((l0_2.length : Int) == 0) = true := beq_iff_eq.mpr c2
  have c2b1 : ((l0_2.length : Int) != 0) = false := bne_eq_false_iff_eq.mpr c2
  clear c2
  obtain rfl := Option.some.inj H
  go_enter Tryd.func50, Tryd.ntmps50
  go_wp2_with (first | ((with_reducible refine gate_dst (N := 1) rfl ?_); refine bx 1 (#[.int .u32 a0_0, .int .i64 a0_1, .slice A0_2 l0_2.length c0_2, .int .i64 a0_3, .int .i64 a0_4, .slice A0_5 l0_5.length c0_5]) 31 ?_; intro gb335 hg w3 hbox hb; have n0_ := Aside0.mk (below_step zB hb); have n1_ := Aside0.mk (hbox); have n2_ := Aside0.mk ((zG hg : w.heap.size ≤ gb335)); have n3_ := Aside0.mk ((zG hg : w.heap.size ≤ gb335)); clear HB; have HB := n0_; have BK335 := n1_; have GW335 := n2_; have GE335 := n3_; clear n0_ n1_ n2_ n3_; clear hb hbox hg; have hcz4_0 : w3.cell? ⟨gb335, 0, none⟩ = some (.int .u32 a0_0) := zT BK335 0; have hcz4_1 : w3.cell? ⟨gb335, 1, none⟩ = some (.int .i64 a0_1) := zT BK335 1; have hcz4_2 : w3.cell? ⟨gb335, 2, none⟩ = some (.slice A0_2 l0_2.length c0_2) := zT BK335 2; have hcz4_3 : w3.cell? ⟨gb335, 3, none⟩ = some (.int .i64 a0_3) := zT BK335 3; have hcz4_4 : w3.cell? ⟨gb335, 4, none⟩ = some (.int .i64 a0_4) := zT BK335 4; have hcz4_5 : w3.cell? ⟨gb335, 5, none⟩ = some (.slice A0_5 l0_5.length c0_5) := zT BK335 5; have hfz4_0 := blk_frozen BK335.out 0; have hfz4_1 := blk_frozen BK335.out 1; have hfz4_2 := blk_frozen BK335.out 2; have hfz4_3 := blk_frozen BK335.out 3; have hfz4_4 := blk_frozen BK335.out 4; have hfz4_5 := blk_frozen BK335.out 5))
  go_ret
  exact ⟨zE, zB⟩
 rw [if_neg c2] at H
 have c2b0 : ((l0_2.length : Int) == 0) = false := beq_eq_false_iff_ne.mpr c2
 have c2b1 : ((l0_2.length : Int) != 0) = true := bne_iff_ne.mpr c2
 have c2b2 : ¬ (l0_2 = []) := fun h_ => c2 (by rw [h_]; rfl)
 by_cases c5 : 0 < (l0_2.length : Int)
 rotate_left
 · rw [if_neg c5] at H; exact absurd H (by simp)
 rw [if_pos c5] at H
 have c5b0 : decide (0 < (l0_2.length : Int)) = true := decide_eq_true c5
 have c5b1 : decide (0 < l0_2.length) = true := decide_eq_true (by omega)
 clear c5
 obtain rfl := Option.some.inj H
 go_enter Tryd.func50, Tryd.ntmps50
 go_wp2_with (first | ((with_reducible refine gate_dst (N := 1) rfl ?_); refine bx 1 (#[.int .u32 a0_0, .int .i64 a0_1, .slice A0_2 l0_2.length c0_2, .int .i64 a0_3, .int .i64 a0_4, .slice A0_5 l0_5.length c0_5]) 31 ?_; intro gb335 hg w6 hbox hb; have n0_ := Aside0.mk (below_step zB hb); have n1_ := Aside0.mk (hbox); have n2_ := Aside0.mk ((zG hg : w.heap.size ≤ gb335)); have n3_ := Aside0.mk ((zG hg : w.heap.size ≤ gb335)); clear HB; have HB := n0_; have BK335 := n1_; have GW335 := n2_; have GE335 := n3_; clear n0_ n1_ n2_ n3_; clear hb hbox hg; have hcz7_0 : w6.cell? ⟨gb335, 0, none⟩ = some (.int .u32 a0_0) := zT BK335 0; have hcz7_1 : w6.cell? ⟨gb335, 1, none⟩ = some (.int .i64 a0_1) := zT BK335 1; have hcz7_2 : w6.cell? ⟨gb335, 2, none⟩ = some (.slice A0_2 l0_2.length c0_2) := zT BK335 2; have hcz7_3 : w6.cell? ⟨gb335, 3, none⟩ = some (.int .i64 a0_3) := zT BK335 3; have hcz7_4 : w6.cell? ⟨gb335, 4, none⟩ = some (.int .i64 a0_4) := zT BK335 4; have hcz7_5 : w6.cell? ⟨gb335, 5, none⟩ = some (.slice A0_5 l0_5.length c0_5) := zT BK335 5; have hfz7_0 := blk_frozen BK335.out 0; have hfz7_1 := blk_frozen BK335.out 1; have hfz7_2 := blk_frozen BK335.out 2; have hfz7_3 := blk_frozen BK335.out 3; have hfz7_4 := blk_frozen BK335.out 4; have hfz7_5 := blk_frozen BK335.out 5; have p336 : 0 ≤ (0 : Int) := (by omega); have q336 : 0 < (l0_2.length : Int) := od; obtain ⟨ad336, e336, hx336_0⟩ := Kd.at_int HR0_2.out 0 p336 q336; cases e336; have qi336 : (0 < l0_2.length) = True := eq_true (by omega); (try rw [show ((0 : Int)).toNat = 0 from rfl] at hx336_0); (try rw [Addr.add_zero'] at hx336_0); replace hx336_0 := zL HB hx336_0; replace p336 := eq_true p336; replace q336 := eq_true q336))
 go_ret
 exact ⟨zE, zB⟩
/-! ### best_steps_3: function 49 -/
def best_steps_3.f (a0_0 : Int) (a0_1 : Int) (l0_2 : List Int) (a0_3 : Int) (a0_4 : Int) (l0_5 : List Int) (a1_0 : Int) (a1_1 : Int) (l1_2 : List Int) (a1_3 : Int) (a1_4 : Int) (l1_5 : List Int) : Option (Int) := (best_first.f a0_0 a0_1 l0_2 a0_3 a0_4 l0_5).bind fun t339 => ((best_first.f a1_0 a1_1 l1_2 a1_3 a1_4 l1_5).bind fun t340 => (if t339 = t340 then ((g20_.f a1_4 a0_4).bind fun t341 => (some t341)) else (some 0)))
set_option maxHeartbeats 8000000 in
set_option maxRecDepth 100000 in
theorem best_steps_3.calls (a0_0 : Int) (a0_1 : Int) (A0_2 : Option Addr) (c0_2 : Nat) (l0_2 : List Int) (a0_3 : Int) (a0_4 : Int) (A0_5 : Option Addr) (c0_5 : Nat) (l0_5 : List Int) (a1_0 : Int) (a1_1 : Int) (A1_2 : Option Addr) (c1_2 : Nat) (l1_2 : List Int) (a1_3 : Int) (a1_4 : Int) (A1_5 : Option Addr) (c1_5 : Nat) (l1_5 : List Int) (r : Int) (w : World) (hr0_2 : Kd.C (Kd.int .i64) w A0_2 l0_2.length l0_2) (hc0_2 : l0_2.length ≤ c0_2) (hr0_5 : Kd.C (Kd.int .i64) w A0_5 l0_5.length l0_5) (hc0_5 : l0_5.length ≤ c0_5) (hr1_2 : Kd.C (Kd.int .i64) w A1_2 l1_2.length l1_2) (hc1_2 : l1_2.length ≤ c1_2) (hr1_5 : Kd.C (Kd.int .i64) w A1_5 l1_5.length l1_5) (hc1_5 : l1_5.length ≤ c1_5) (h : best_steps_3.f a0_0 a0_1 l0_2 a0_3 a0_4 l0_5 a1_0 a1_1 l1_2 a1_3 a1_4 l1_5 = some r) :
 Calls Tryd.prog 49 #[.agg #[.int .u32 a0_0, .int .i64 a0_1, .slice A0_2 l0_2.length c0_2, .int .i64 a0_3, .int .i64 a0_4, .slice A0_5 l0_5.length c0_5], .agg #[.int .u32 a1_0, .int .i64 a1_1, .slice A1_2 l1_2.length c1_2, .int .i64 a1_3, .int .i64 a1_4, .slice A1_5 l1_5.length c1_5]] w fun e w' => e = .returned (.int .i64 r) ∧ Below w.heap.size w w' := by
 have hu31 := Tryd.underlying31
 have hu3 := Tryd.underlying3
 have HR0_2 := Aside0.mk hr0_2
 have HC0_2 := Aside0.mk hc0_2
 clear hr0_2 hc0_2
 have HR0_5 := Aside0.mk hr0_5
 have HC0_5 := Aside0.mk hc0_5
 clear hr0_5 hc0_5
 have HR1_2 := Aside0.mk hr1_2
 have HC1_2 := Aside0.mk hc1_2
 clear hr1_2 hc1_2
 have HR1_5 := Aside0.mk hr1_5
 have HC1_5 := Aside0.mk hc1_5
 clear hr1_5 hc1_5
 have HB := Aside0.mk (Below.refl w.heap.size w)
 have H : ((best_first.f a0_0 a0_1 l0_2 a0_3 a0_4 l0_5).bind fun t339 => ((best_first.f a1_0 a1_1 l1_2 a1_3 a1_4 l1_5).bind fun t340 => (if t339 = t340 then ((g20_.f a1_4 a0_4).bind fun t341 => (some t341)) else (some 0)))) = some r := h
 clear h
 replace H := Option.bind_eq_some_iff.mp H
 obtain ⟨t339, A30, H⟩ := H
 replace H : ((best_first.f a1_0 a1_1 l1_2 a1_3 a1_4 l1_5).bind fun t340 => (if t339 = t340 then ((g20_.f a1_4 a0_4).bind fun t341 => (some t341)) else (some 0))) = some r := H
 have A3 := Aside0.mk A30
 clear A30
 replace H := Option.bind_eq_some_iff.mp H
 obtain ⟨t340, A40, H⟩ := H
 replace H : (if t339 = t340 then ((g20_.f a1_4 a0_4).bind fun t341 => (some t341)) else (some 0)) = some r := H
 have A4 := Aside0.mk A40
 clear A40
 by_cases c5 : t339 = t340
 rotate_left
 ·
  rw [if_neg c5] at H
  have c5b0 : (t339 == t340) = false := beq_eq_false_iff_ne.mpr c5
  have c5b1 : (t339 != t340) = true := bne_iff_ne.mpr c5
  obtain rfl := Option.some.inj H
  go_enter Tryd.func49, Tryd.ntmps49
  try go_wp2_with (first | ((with_reducible refine gate_dst (N := 2) rfl ?_); refine bx 2 (#[.int .u32 a0_0, .int .i64 a0_1, .slice A0_2 l0_2.length c0_2, .int .i64 a0_3, .int .i64 a0_4, .slice A0_5 l0_5.length c0_5]) 31 ?_; intro gb337 hg w15 hbox hb; have n0_ := Aside0.mk (below_step zB hb); have n1_ := Aside0.mk (hbox); have n2_ := Aside0.mk ((zG hg : w.heap.size ≤ gb337)); have n3_ := Aside0.mk ((zG hg : w.heap.size ≤ gb337)); clear HB; have HB := n0_; have BK337 := n1_; have GW337 := n2_; have GE337 := n3_; clear n0_ n1_ n2_ n3_; clear hb hbox hg) | ((with_reducible refine gate_dst (N := 3) rfl ?_); refine bx 3 (#[.int .u32 a1_0, .int .i64 a1_1, .slice A1_2 l1_2.length c1_2, .int .i64 a1_3, .int .i64 a1_4, .slice A1_5 l1_5.length c1_5]) 31 ?_; intro gb338 hg w16 hbox hb; have n0_ := Aside0.mk (blk_below (g := gb337) (o := .cells #[.int .u32 a0_0, .int .i64 a0_1, .slice A0_2 l0_2.length c0_2, .int .i64 a0_3, .int .i64 a0_4, .slice A0_5 l0_5.length c0_5] 31 (0, 0)) (zK BK337) hb); have n1_ := Aside0.mk (below_step zB hb); have n2_ := Aside0.mk (hbox); have n3_ := Aside0.mk ((zG hg : w.heap.size ≤ gb338)); have n4_ := Aside0.mk ((zG hg : w.heap.size ≤ gb338)); have n5_ := Aside0.mk ((by rw [hg]; exact Nat.ne_of_lt (blk_lt (g := gb337) (o := .cells #[.int .u32 a0_0, .int .i64 a0_1, .slice A0_2 l0_2.length c0_2, .int .i64 a0_3, .int .i64 a0_4, .slice A0_5 l0_5.length c0_5] 31 (0, 0)) (zK BK337)) : gb337 ≠ gb338)); have n6_ := Aside0.mk ((by rw [hg]; exact Nat.ne_of_gt (blk_lt (g := gb337) (o := .cells #[.int .u32 a0_0, .int .i64 a0_1, .slice A0_2 l0_2.length c0_2, .int .i64 a0_3, .int .i64 a0_4, .slice A0_5 l0_5.length c0_5] 31 (0, 0)) (zK BK337)) : gb338 ≠ gb337)); clear BK337; clear HB; have BK337 := n0_; have HB := n1_; have BK338 := n2_; have GW338 := n3_; have GE338 := n4_; have NB337_338 := n5_; have NB338_337 := n6_; clear n0_ n1_ n2_ n3_ n4_ n5_ n6_; clear hb hbox hg))
  have n0_ := Aside0.mk (blk_drew BK337.out)
  have n1_ := Aside0.mk (blk_drew BK338.out)
  have n2_ := Aside0.mk (below_drew1 HB.out)
  clear BK337
  clear BK338
  clear HB
  have BK337 := n0_
  have BK338 := n1_
  have HB := n2_
  clear n0_ n1_ n2_
  refine start_ (n := 5) (S := fun w' => w'.cell? ⟨gb337, 0, none⟩ = some (.int .u32 a0_0) ∧ w'.cell? ⟨gb337, 1, none⟩ = some (.int .i64 a0_1) ∧ w'.cell? ⟨gb337, 2, none⟩ = some (.slice A0_2 l0_2.length c0_2) ∧ w'.cell? ⟨gb337, 3, none⟩ = some (.int .i64 a0_3) ∧ w'.cell? ⟨gb337, 4, none⟩ = some (.int .i64 a0_4) ∧ w'.cell? ⟨gb337, 5, none⟩ = some (.slice A0_5 l0_5.length c0_5) ∧ w'.cell? ⟨gb338, 0, none⟩ = some (.int .u32 a1_0) ∧ w'.cell? ⟨gb338, 1, none⟩ = some (.int .i64 a1_1) ∧ w'.cell? ⟨gb338, 2, none⟩ = some (.slice A1_2 l1_2.length c1_2) ∧ w'.cell? ⟨gb338, 3, none⟩ = some (.int .i64 a1_3) ∧ w'.cell? ⟨gb338, 4, none⟩ = some (.int .i64 a1_4) ∧ w'.cell? ⟨gb338, 5, none⟩ = some (.slice A1_5 l1_5.length c1_5)) (ds := []) (bm 5 0) (by kernel_rfl) rfl rfl ⟨zT BK337 0, zT BK337 1, zT BK337 2, zT BK337 3, zT BK337 4, zT BK337 5, zT BK338 0, zT BK338 1, zT BK338 2, zT BK338 3, zT BK338 4, zT BK338 5⟩ (fun hHeld => ?_)
  generalize w16.drew = w17 at BK337 BK338 HB hHeld ⊢
  refine tv 0 (some 5) (bm 5 1) hHeld ?_
  refine tv 2 (some 7) (bm 5 5) hHeld ?_
  refine one_ (i := 1) (N := some 6) (bm 5 7) rfl rfl (by kernel_rfl) (by decide) (fun K hK => ?_)
  refine goes_ Tryd.func50 (by kernel_rfl) rfl #[.agg #[.int .u32 a0_0, .int .i64 a0_1, .slice A0_2 l0_2.length c0_2, .int .i64 a0_3, .int .i64 a0_4, .slice A0_5 l0_5.length c0_5]] (by rfl) rfl rfl zM ?_
  with_reducible refine (best_first.calls a0_0 a0_1 _ _ l0_2 a0_3 a0_4 _ _ l0_5 t339 _ ?side1 ?side2 ?side3 ?side4 A3.out).mono ?_
  (case side1 => exact zC HR0_2 HB)
  (case side2 => exact HC0_2.out)
  (case side3 => exact zC HR0_5 HB)
  (case side4 => exact HC0_5.out)
  rintro e w18 ⟨rfl, hb⟩
  refine ⟨_, rfl, ?_⟩
  have n0_ := Aside0.mk (blk_below (g := gb337) (o := .cells #[.int .u32 a0_0, .int .i64 a0_1, .slice A0_2 l0_2.length c0_2, .int .i64 a0_3, .int .i64 a0_4, .slice A0_5 l0_5.length c0_5] 31 (0, 0)) (zK BK337) hb)
  have n1_ := Aside0.mk (blk_below (g := gb338) (o := .cells #[.int .u32 a1_0, .int .i64 a1_1, .slice A1_2 l1_2.length c1_2, .int .i64 a1_3, .int .i64 a1_4, .slice A1_5 l1_5.length c1_5] 31 (0, 0)) (zK BK338) hb)
  have n2_ := Aside0.mk (below_step zB hb)
  clear BK337
  clear BK338
  clear HB
  have BK337 := n0_
  have BK338 := n1_
  have HB := n2_
  clear n0_ n1_ n2_
  (try clear hb)
  (try clear hb2)
  (try clear hk)
  (try clear hi)
  refine hK.out _ _ ⟨zT BK337 0, zT BK337 1, zT BK337 2, zT BK337 3, zT BK337 4, zT BK337 5, zT BK338 0, zT BK338 1, zT BK338 2, zT BK338 3, zT BK338 4, zT BK338 5⟩ (fun hHeld => ?_)
  clear hK K
  refine norm_ (a' := ?_) ?_ ?_
  rotate_left
  · show Act.put _ (some 6) _ = _; simp only [Act.put, sA, s0, sS, i64_w, i32_w]; rfl
  refine one_ (i := 3) (N := some 8) (bm 5 15) rfl rfl (by kernel_rfl) (by decide) (fun K hK => ?_)
  refine goes_ Tryd.func50 (by kernel_rfl) rfl #[.agg #[.int .u32 a1_0, .int .i64 a1_1, .slice A1_2 l1_2.length c1_2, .int .i64 a1_3, .int .i64 a1_4, .slice A1_5 l1_5.length c1_5]] (by rfl) rfl rfl zM ?_
  with_reducible refine (best_first.calls a1_0 a1_1 _ _ l1_2 a1_3 a1_4 _ _ l1_5 t340 _ ?side1 ?side2 ?side3 ?side4 A4.out).mono ?_
  (case side1 => exact zC HR1_2 HB)
  (case side2 => exact HC1_2.out)
  (case side3 => exact zC HR1_5 HB)
  (case side4 => exact HC1_5.out)
  rintro e w19 ⟨rfl, hb⟩
  refine ⟨_, rfl, ?_⟩
  have n0_ := Aside0.mk (blk_below (g := gb337) (o := .cells #[.int .u32 a0_0, .int .i64 a0_1, .slice A0_2 l0_2.length c0_2, .int .i64 a0_3, .int .i64 a0_4, .slice A0_5 l0_5.length c0_5] 31 (0, 0)) (zK BK337) hb)
  have n1_ := Aside0.mk (blk_below (g := gb338) (o := .cells #[.int .u32 a1_0, .int .i64 a1_1, .slice A1_2 l1_2.length c1_2, .int .i64 a1_3, .int .i64 a1_4, .slice A1_5 l1_5.length c1_5] 31 (0, 0)) (zK BK338) hb)
  have n2_ := Aside0.mk (below_step zB hb)
  clear BK337
  clear BK338
  clear HB
  have BK337 := n0_
  have BK338 := n1_
  have HB := n2_
  clear n0_ n1_ n2_
  (try clear hb)
  (try clear hb2)
  (try clear hk)
  (try clear hi)
  refine hK.out _ _ ⟨zT BK337 0, zT BK337 1, zT BK337 2, zT BK337 3, zT BK337 4, zT BK337 5, zT BK338 0, zT BK338 1, zT BK338 2, zT BK338 3, zT BK338 4, zT BK338 5⟩ (fun hHeld => ?_)
  clear hK K
  refine norm_ (a' := ?_) ?_ ?_
  rotate_left
  · show Act.put _ (some 8) _ = _; simp only [Act.put, sA, s0, sS, i64_w, i32_w]; rfl
  refine pv 4 (some 9) (bm 5 31) ?_
  refine done_ (by kernel_rfl) ?_
  try go_wp2
  go_ret
  exact ⟨zE, zB⟩
 rw [if_pos c5] at H
 have c5b0 : (t339 == t340) = true := beq_iff_eq.mpr c5
 have c5b1 : (t339 != t340) = false := bne_eq_false_iff_eq.mpr c5
 clear c5
 replace H := Option.bind_eq_some_iff.mp H
 obtain ⟨t341, A60, H⟩ := H
 replace H : (some t341) = some r := H
 have A6 := Aside0.mk A60
 clear A60
 obtain rfl := Option.some.inj H
 go_enter Tryd.func49, Tryd.ntmps49
 try go_wp2_with (first | ((with_reducible refine gate_dst (N := 2) rfl ?_); refine bx 2 (#[.int .u32 a0_0, .int .i64 a0_1, .slice A0_2 l0_2.length c0_2, .int .i64 a0_3, .int .i64 a0_4, .slice A0_5 l0_5.length c0_5]) 31 ?_; intro gb337 hg w7 hbox hb; have n0_ := Aside0.mk (below_step zB hb); have n1_ := Aside0.mk (hbox); have n2_ := Aside0.mk ((zG hg : w.heap.size ≤ gb337)); have n3_ := Aside0.mk ((zG hg : w.heap.size ≤ gb337)); clear HB; have HB := n0_; have BK337 := n1_; have GW337 := n2_; have GE337 := n3_; clear n0_ n1_ n2_ n3_; clear hb hbox hg) | ((with_reducible refine gate_dst (N := 3) rfl ?_); refine bx 3 (#[.int .u32 a1_0, .int .i64 a1_1, .slice A1_2 l1_2.length c1_2, .int .i64 a1_3, .int .i64 a1_4, .slice A1_5 l1_5.length c1_5]) 31 ?_; intro gb338 hg w8 hbox hb; have n0_ := Aside0.mk (blk_below (g := gb337) (o := .cells #[.int .u32 a0_0, .int .i64 a0_1, .slice A0_2 l0_2.length c0_2, .int .i64 a0_3, .int .i64 a0_4, .slice A0_5 l0_5.length c0_5] 31 (0, 0)) (zK BK337) hb); have n1_ := Aside0.mk (below_step zB hb); have n2_ := Aside0.mk (hbox); have n3_ := Aside0.mk ((zG hg : w.heap.size ≤ gb338)); have n4_ := Aside0.mk ((zG hg : w.heap.size ≤ gb338)); have n5_ := Aside0.mk ((by rw [hg]; exact Nat.ne_of_lt (blk_lt (g := gb337) (o := .cells #[.int .u32 a0_0, .int .i64 a0_1, .slice A0_2 l0_2.length c0_2, .int .i64 a0_3, .int .i64 a0_4, .slice A0_5 l0_5.length c0_5] 31 (0, 0)) (zK BK337)) : gb337 ≠ gb338)); have n6_ := Aside0.mk ((by rw [hg]; exact Nat.ne_of_gt (blk_lt (g := gb337) (o := .cells #[.int .u32 a0_0, .int .i64 a0_1, .slice A0_2 l0_2.length c0_2, .int .i64 a0_3, .int .i64 a0_4, .slice A0_5 l0_5.length c0_5] 31 (0, 0)) (zK BK337)) : gb338 ≠ gb337)); clear BK337; clear HB; have BK337 := n0_; have HB := n1_; have BK338 := n2_; have GW338 := n3_; have GE338 := n4_; have NB337_338 := n5_; have NB338_337 := n6_; clear n0_ n1_ n2_ n3_ n4_ n5_ n6_; clear hb hbox hg))
 have n0_ := Aside0.mk (blk_drew BK337.out)
 have n1_ := Aside0.mk (blk_drew BK338.out)
 have n2_ := Aside0.mk (below_drew1 HB.out)
 clear BK337
 clear BK338
 clear HB
 have BK337 := n0_
 have BK338 := n1_
 have HB := n2_
 clear n0_ n1_ n2_
 refine start_ (n := 5) (S := fun w' => w'.cell? ⟨gb337, 0, none⟩ = some (.int .u32 a0_0) ∧ w'.cell? ⟨gb337, 1, none⟩ = some (.int .i64 a0_1) ∧ w'.cell? ⟨gb337, 2, none⟩ = some (.slice A0_2 l0_2.length c0_2) ∧ w'.cell? ⟨gb337, 3, none⟩ = some (.int .i64 a0_3) ∧ w'.cell? ⟨gb337, 4, none⟩ = some (.int .i64 a0_4) ∧ w'.cell? ⟨gb337, 5, none⟩ = some (.slice A0_5 l0_5.length c0_5) ∧ w'.cell? ⟨gb338, 0, none⟩ = some (.int .u32 a1_0) ∧ w'.cell? ⟨gb338, 1, none⟩ = some (.int .i64 a1_1) ∧ w'.cell? ⟨gb338, 2, none⟩ = some (.slice A1_2 l1_2.length c1_2) ∧ w'.cell? ⟨gb338, 3, none⟩ = some (.int .i64 a1_3) ∧ w'.cell? ⟨gb338, 4, none⟩ = some (.int .i64 a1_4) ∧ w'.cell? ⟨gb338, 5, none⟩ = some (.slice A1_5 l1_5.length c1_5)) (ds := []) (bm 5 0) (by kernel_rfl) rfl rfl ⟨zT BK337 0, zT BK337 1, zT BK337 2, zT BK337 3, zT BK337 4, zT BK337 5, zT BK338 0, zT BK338 1, zT BK338 2, zT BK338 3, zT BK338 4, zT BK338 5⟩ (fun hHeld => ?_)
 generalize w8.drew = w9 at BK337 BK338 HB hHeld ⊢
 refine tv 0 (some 5) (bm 5 1) hHeld ?_
 refine tv 2 (some 7) (bm 5 5) hHeld ?_
 refine one_ (i := 1) (N := some 6) (bm 5 7) rfl rfl (by kernel_rfl) (by decide) (fun K hK => ?_)
 refine goes_ Tryd.func50 (by kernel_rfl) rfl #[.agg #[.int .u32 a0_0, .int .i64 a0_1, .slice A0_2 l0_2.length c0_2, .int .i64 a0_3, .int .i64 a0_4, .slice A0_5 l0_5.length c0_5]] (by rfl) rfl rfl zM ?_
 with_reducible refine (best_first.calls a0_0 a0_1 _ _ l0_2 a0_3 a0_4 _ _ l0_5 t339 _ ?side1 ?side2 ?side3 ?side4 A3.out).mono ?_
 (case side1 => exact zC HR0_2 HB)
 (case side2 => exact HC0_2.out)
 (case side3 => exact zC HR0_5 HB)
 (case side4 => exact HC0_5.out)
 rintro e w10 ⟨rfl, hb⟩
 refine ⟨_, rfl, ?_⟩
 have n0_ := Aside0.mk (blk_below (g := gb337) (o := .cells #[.int .u32 a0_0, .int .i64 a0_1, .slice A0_2 l0_2.length c0_2, .int .i64 a0_3, .int .i64 a0_4, .slice A0_5 l0_5.length c0_5] 31 (0, 0)) (zK BK337) hb)
 have n1_ := Aside0.mk (blk_below (g := gb338) (o := .cells #[.int .u32 a1_0, .int .i64 a1_1, .slice A1_2 l1_2.length c1_2, .int .i64 a1_3, .int .i64 a1_4, .slice A1_5 l1_5.length c1_5] 31 (0, 0)) (zK BK338) hb)
 have n2_ := Aside0.mk (below_step zB hb)
 clear BK337
 clear BK338
 clear HB
 have BK337 := n0_
 have BK338 := n1_
 have HB := n2_
 clear n0_ n1_ n2_
 (try clear hb)
 (try clear hb2)
 (try clear hk)
 (try clear hi)
 refine hK.out _ _ ⟨zT BK337 0, zT BK337 1, zT BK337 2, zT BK337 3, zT BK337 4, zT BK337 5, zT BK338 0, zT BK338 1, zT BK338 2, zT BK338 3, zT BK338 4, zT BK338 5⟩ (fun hHeld => ?_)
 clear hK K
 refine norm_ (a' := ?_) ?_ ?_
 rotate_left
 · show Act.put _ (some 6) _ = _; simp only [Act.put, sA, s0, sS, i64_w, i32_w]; rfl
 refine one_ (i := 3) (N := some 8) (bm 5 15) rfl rfl (by kernel_rfl) (by decide) (fun K hK => ?_)
 refine goes_ Tryd.func50 (by kernel_rfl) rfl #[.agg #[.int .u32 a1_0, .int .i64 a1_1, .slice A1_2 l1_2.length c1_2, .int .i64 a1_3, .int .i64 a1_4, .slice A1_5 l1_5.length c1_5]] (by rfl) rfl rfl zM ?_
 with_reducible refine (best_first.calls a1_0 a1_1 _ _ l1_2 a1_3 a1_4 _ _ l1_5 t340 _ ?side1 ?side2 ?side3 ?side4 A4.out).mono ?_
 (case side1 => exact zC HR1_2 HB)
 (case side2 => exact HC1_2.out)
 (case side3 => exact zC HR1_5 HB)
 (case side4 => exact HC1_5.out)
 rintro e w11 ⟨rfl, hb⟩
 refine ⟨_, rfl, ?_⟩
 have n0_ := Aside0.mk (blk_below (g := gb337) (o := .cells #[.int .u32 a0_0, .int .i64 a0_1, .slice A0_2 l0_2.length c0_2, .int .i64 a0_3, .int .i64 a0_4, .slice A0_5 l0_5.length c0_5] 31 (0, 0)) (zK BK337) hb)
 have n1_ := Aside0.mk (blk_below (g := gb338) (o := .cells #[.int .u32 a1_0, .int .i64 a1_1, .slice A1_2 l1_2.length c1_2, .int .i64 a1_3, .int .i64 a1_4, .slice A1_5 l1_5.length c1_5] 31 (0, 0)) (zK BK338) hb)
 have n2_ := Aside0.mk (below_step zB hb)
 clear BK337
 clear BK338
 clear HB
 have BK337 := n0_
 have BK338 := n1_
 have HB := n2_
 clear n0_ n1_ n2_
 (try clear hb)
 (try clear hb2)
 (try clear hk)
 (try clear hi)
 refine hK.out _ _ ⟨zT BK337 0, zT BK337 1, zT BK337 2, zT BK337 3, zT BK337 4, zT BK337 5, zT BK338 0, zT BK338 1, zT BK338 2, zT BK338 3, zT BK338 4, zT BK338 5⟩ (fun hHeld => ?_)
 clear hK K
 refine norm_ (a' := ?_) ?_ ?_
 rotate_left
 · show Act.put _ (some 8) _ = _; simp only [Act.put, sA, s0, sS, i64_w, i32_w]; rfl
 refine pv 4 (some 9) (bm 5 31) ?_
 refine done_ (by kernel_rfl) ?_
 have hnb12 := NB338_337.out
 have hnc12 := NB337_338.out
 have hcz13_0 : w11.cell? ⟨gb338, 0, none⟩ = some (.int .u32 a1_0) := zT BK338 0
 have hcz13_1 : w11.cell? ⟨gb338, 1, none⟩ = some (.int .i64 a1_1) := zT BK338 1
 have hcz13_2 : w11.cell? ⟨gb338, 2, none⟩ = some (.slice A1_2 l1_2.length c1_2) := zT BK338 2
 have hcz13_3 : w11.cell? ⟨gb338, 3, none⟩ = some (.int .i64 a1_3) := zT BK338 3
 have hcz13_4 : w11.cell? ⟨gb338, 4, none⟩ = some (.int .i64 a1_4) := zT BK338 4
 have hcz13_5 : w11.cell? ⟨gb338, 5, none⟩ = some (.slice A1_5 l1_5.length c1_5) := zT BK338 5
 have hfz13_0 := blk_frozen BK338.out 0
 have hfz13_1 := blk_frozen BK338.out 1
 have hfz13_2 := blk_frozen BK338.out 2
 have hfz13_3 := blk_frozen BK338.out 3
 have hfz13_4 := blk_frozen BK338.out 4
 have hfz13_5 := blk_frozen BK338.out 5
 have hcz14_0 : w11.cell? ⟨gb337, 0, none⟩ = some (.int .u32 a0_0) := zT BK337 0
 have hcz14_1 : w11.cell? ⟨gb337, 1, none⟩ = some (.int .i64 a0_1) := zT BK337 1
 have hcz14_2 : w11.cell? ⟨gb337, 2, none⟩ = some (.slice A0_2 l0_2.length c0_2) := zT BK337 2
 have hcz14_3 : w11.cell? ⟨gb337, 3, none⟩ = some (.int .i64 a0_3) := zT BK337 3
 have hcz14_4 : w11.cell? ⟨gb337, 4, none⟩ = some (.int .i64 a0_4) := zT BK337 4
 have hcz14_5 : w11.cell? ⟨gb337, 5, none⟩ = some (.slice A0_5 l0_5.length c0_5) := zT BK337 5
 have hfz14_0 := blk_frozen BK337.out 0
 have hfz14_1 := blk_frozen BK337.out 1
 have hfz14_2 := blk_frozen BK337.out 2
 have hfz14_3 := blk_frozen BK337.out 3
 have hfz14_4 := blk_frozen BK337.out 4
 have hfz14_5 := blk_frozen BK337.out 5
 try go_wp2_with (first | ((with_reducible refine gate_callee (f := 47) rfl ?_); refine goesL_ (some 14) rfl rfl Tryd.func47 (by kernel_rfl) rfl #[.int .i64 a1_4, .int .i64 a0_4] rfl zM ?_; (with_reducible refine (g20_.calls a1_4 a0_4 t341 _ A6.out).mono ?_); rintro e w' ⟨rfl, ⟨nd, rfl⟩⟩; refine ⟨_, rfl, ?_⟩))
 go_ret
 exact ⟨zE, zB⟩
end Go.Proofs.YtplcdbhklepkgaaDoor.BO
