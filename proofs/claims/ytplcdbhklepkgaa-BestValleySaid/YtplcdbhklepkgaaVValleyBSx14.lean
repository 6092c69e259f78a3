-- Made by gen.py, a program of this session's, over the kit's print.
import Derived.Test.YtplcdbhklepkgaaVValleyShort
import Derived.Test.YtplcdbhklepkgaaVValleyBSx0
import Derived.Test.YtplcdbhklepkgaaVValleyBSx11
import Derived.Test.YtplcdbhklepkgaaVValleyBSx13
namespace Go.Proofs.Ytplcdbhklepkgaa.BS
open Go.RowKit Go.Proofs.YtplcdbhklepkgaaW.PrintWords Go.Proofs.YtplcdbhklepkgaaW.PrintLast Go.Proofs.YtplcdbhklepkgaaW.PrintMore Go.Proofs.Ytplcdbhklepkgaa.GenWords
attribute [local go_sem] max2_int min2_int max_two min_two max_three min_three max_four min_four   -- for this text's walks alone
set_option linter.unusedVariables false
set_option linter.unusedSimpArgs false

/-! ### best_first: function 58 -/
def best_first.f (a0_0 : Int) (a0_1 : Int) (l0_2 : List Int) (a0_3 : Int) (a0_4 : Int) (l0_5 : List Int) : Option (Int) := if (l0_2.length : Int) = 0 then (some 0) else (if 0 < (l0_2.length : Int) then (some (rd l0_2 0)) else (none))
set_option maxHeartbeats 8000000 in
set_option maxRecDepth 100000 in
theorem best_first.calls (a0_0 : Int) (a0_1 : Int) (A0_2 : Option Addr) (c0_2 : Nat) (l0_2 : List Int) (a0_3 : Int) (a0_4 : Int) (A0_5 : Option Addr) (c0_5 : Nat) (l0_5 : List Int) (r : Int) (w : World) (hr0_2 : Kd.C (Kd.int .i64) w A0_2 l0_2.length l0_2) (hc0_2 : l0_2.length ≤ c0_2) (hr0_5 : Kd.C (Kd.int .i64) w A0_5 l0_5.length l0_5) (hc0_5 : l0_5.length ≤ c0_5) (h : best_first.f a0_0 a0_1 l0_2 a0_3 a0_4 l0_5 = some r) :
 Calls Try.prog 58 #[.agg #[.int .u32 a0_0, .int .i64 a0_1, .slice A0_2 l0_2.length c0_2, .int .i64 a0_3, .int .i64 a0_4, .slice A0_5 l0_5.length c0_5]] w fun e w' => e = .returned (.int .i64 r) ∧ Below w.heap.size w w' := by
 have hu77 := Try.underlying77
 have hu33 := Try.underlying33
 have hu3 := Try.underlying3
 have HR0_2 := Aside0.mk hr0_2
 have HC0_2 := Aside0.mk hc0_2
 clear hr0_2 hc0_2
 have HR0_5 := Aside0.mk hr0_5
 have HC0_5 := Aside0.mk hc0_5
 clear hr0_5 hc0_5
 have HB := Aside0.mk (Below.refl w.heap.size w)
 have H : (if (l0_2.length : Int) = 0 then (some 0) else (if 0 < (l0_2.length : Int) then (some (rd l0_2 0)) else (none))) = some r := h
 clear h
 by_cases c2 : (l0_2.length : Int) = 0
 ·
  rw [if_pos c2] at H
  have c2b0 : ((l0_2.length : Int) == 0) = true := beq_iff_eq.mpr c2
  have c2b1 : ((l0_2.length : Int) != 0) = false := bne_eq_false_iff_eq.mpr c2
  clear c2
  obtain rfl := Option.some.inj H
  go_enter Try.func58, Try.ntmps58
  go_wp2_with (first | ((with_reducible refine gate_dst (N := 1) rfl ?_); refine bx 1 (#[.int .u32 a0_0, .int .i64 a0_1, .slice A0_2 l0_2.length c0_2, .int .i64 a0_3, .int .i64 a0_4, .slice A0_5 l0_5.length c0_5]) 77 ?_; intro gb536 hg w3 hbox hb; have n0_ := Aside0.mk (below_step zB hb); have n1_ := Aside0.mk (hbox); have n2_ := Aside0.mk ((zG hg : w.heap.size ≤ gb536)); have n3_ := Aside0.mk ((zG hg : w.heap.size ≤ gb536)); clear HB; have HB := n0_; have BK536 := n1_; have GW536 := n2_; have GE536 := n3_; clear n0_ n1_ n2_ n3_; clear hb hbox hg; have hcz4_0 : w3.cell? ⟨gb536, 0, none⟩ = some (.int .u32 a0_0) := zT BK536 0; have hcz4_1 : w3.cell? ⟨gb536, 1, none⟩ = some (.int .i64 a0_1) := zT BK536 1; have hcz4_2 : w3.cell? ⟨gb536, 2, none⟩ = some (.slice A0_2 l0_2.length c0_2) := zT BK536 2; have hcz4_3 : w3.cell? ⟨gb536, 3, none⟩ = some (.int .i64 a0_3) := zT BK536 3; have hcz4_4 : w3.cell? ⟨gb536, 4, none⟩ = some (.int .i64 a0_4) := zT BK536 4; have hcz4_5 : w3.cell? ⟨gb536, 5, none⟩ = some (.slice A0_5 l0_5.length c0_5) := zT BK536 5; have hfz4_0 := blk_frozen BK536.out 0; have hfz4_1 := blk_frozen BK536.out 1; have hfz4_2 := blk_frozen BK536.out 2; have hfz4_3 := blk_frozen BK536.out 3; have hfz4_4 := blk_frozen BK536.out 4; have hfz4_5 := blk_frozen BK536.out 5))
  go_ret
  exact ⟨zE, zB⟩
 rw [if_neg c2] at H
 have c2b0 : ((l0_2.length : Int) == 0) = false := beq_eq_false_iff_ne.mpr c2
 have c2b1 : ((l0_2.length : Int) != 0) = true := bne_iff_ne.mpr c2
 have c2b2 : ¬ (l0_2 = []) := fun h_ => c2 (by rw [h_]; rfl)
 by_cases c5 : 0 < (l0_2.length : Int)
 rotate_left
 · rw [if_neg c5] at H; exact absurd H (by simp)
 rw [if_pos c5] at H
 have c5b0 : decide (0 < (l0_2.length : Int)) = true := decide_eq_true c5
 have c5b1 : decide (0 < l0_2.length) = true := decide_eq_true (by omega)
 clear c5
 obtain rfl := Option.some.inj H
 go_enter Try.func58, Try.ntmps58
 go_wp2_with (first | ((with_reducible refine gate_dst (N := 1) rfl ?_); refine bx 1 (#[.int .u32 a0_0, .int .i64 a0_1, .slice A0_2 l0_2.length c0_2, .int .i64 a0_3, .int .i64 a0_4, .slice A0_5 l0_5.length c0_5]) 77 ?_; intro gb536 hg w6 hbox hb; have n0_ := Aside0.mk (below_step zB hb); have n1_ := Aside0.mk (hbox); have n2_ := Aside0.mk ((zG hg : w.heap.size ≤ gb536)); have n3_ := Aside0.mk ((zG hg : w.heap.size ≤ gb536)); clear HB; have HB := n0_; have BK536 := n1_; have GW536 := n2_; have GE536 := n3_; clear n0_ n1_ n2_ n3_; clear hb hbox hg; have hcz7_0 : w6.cell? ⟨gb536, 0, none⟩ = some (.int .u32 a0_0) := zT BK536 0; have hcz7_1 : w6.cell? ⟨gb536, 1, none⟩ = some (.int .i64 a0_1) := zT BK536 1; have hcz7_2 : w6.cell? ⟨gb536, 2, none⟩ = some (.slice A0_2 l0_2.length c0_2) := zT BK536 2; have hcz7_3 : w6.cell? ⟨gb536, 3, none⟩ = some (.int .i64 a0_3) := zT BK536 3; have hcz7_4 : w6.cell? ⟨gb536, 4, none⟩ = some (.int .i64 a0_4) := zT BK536 4; have hcz7_5 : w6.cell? ⟨gb536, 5, none⟩ = some (.slice A0_5 l0_5.length c0_5) := zT BK536 5; have hfz7_0 := blk_frozen BK536.out 0; have hfz7_1 := blk_frozen BK536.out 1; have hfz7_2 := blk_frozen BK536.out 2; have hfz7_3 := blk_frozen BK536.out 3; have hfz7_4 := blk_frozen BK536.out 4; have hfz7_5 := blk_frozen BK536.out 5; have p537 : 0 ≤ (0 : Int) := (by omega); have q537 : 0 < (l0_2.length : Int) := od; obtain ⟨ad537, e537, hx537_0⟩ := Kd.at_int HR0_2.out 0 p537 q537; cases e537; have qi537 : (0 < l0_2.length) = True := eq_true (by omega); (try rw [show ((0 : Int)).toNat = 0 from rfl] at hx537_0); (try rw [Addr.add_zero'] at hx537_0); replace hx537_0 := zL HB hx537_0; replace p537 := eq_true p537; replace q537 := eq_true q537))
 go_ret
 exact ⟨zE, zB⟩
/-! ### best_steps_3: function 57 -/
def best_steps_3.f (a0_0 : Int) (a0_1 : Int) (l0_2 : List Int) (a0_3 : Int) (a0_4 : Int) (l0_5 : List Int) (a1_0 : Int) (a1_1 : Int) (l1_2 : List Int) (a1_3 : Int) (a1_4 : Int) (l1_5 : List Int) : Option (Int) := (best_first.f a0_0 a0_1 l0_2 a0_3 a0_4 l0_5).bind fun t540 => ((best_first.f a1_0 a1_1 l1_2 a1_3 a1_4 l1_5).bind fun t541 => (if t540 = t541 then ((g33_.f a1_4 a0_4).bind fun t542 => (some t542)) else (some 0)))
set_option maxHeartbeats 8000000 in
set_option maxRecDepth 100000 in
theorem best_steps_3.calls (a0_0 : Int) (a0_1 : Int) (A0_2 : Option Addr) (c0_2 : Nat) (l0_2 : List Int) (a0_3 : Int) (a0_4 : Int) (A0_5 : Option Addr) (c0_5 : Nat) (l0_5 : List Int) (a1_0 : Int) (a1_1 : Int) (A1_2 : Option Addr) (c1_2 : Nat) (l1_2 : List Int) (a1_3 : Int) (a1_4 : Int) (A1_5 : Option Addr) (c1_5 : Nat) (l1_5 : List Int) (r : Int) (w : World) (hr0_2 : Kd.C (Kd.int .i64) w A0_2 l0_2.length l0_2) (hc0_2 : l0_2.length ≤ c0_2) (hr0_5 : Kd.C (Kd.int .i64) w A0_5 l0_5.length l0_5) (hc0_5 : l0_5.length ≤ c0_5) (hr1_2 : Kd.C (Kd.int .i64) w A1_2 l1_2.length l1_2) (hc1_2 : l1_2.length ≤ c1_2) (hr1_5 : Kd.C (Kd.int .i64) w A1_5 l1_5.length l1_5) (hc1_5 : l1_5.length ≤ c1_5) (h : best_steps_3.f a0_0 a0_1 l0_2 a0_3 a0_4 l0_5 a1_0 a1_1 l1_2 a1_3 a1_4 l1_5 = some r) :
 Calls Try.prog 57 #[.agg #[.int .u32 a0_0, .int .i64 a0_1, .slice A0_2 l0_2.length c0_2, .int .i64 a0_3, .int .i64 a0_4, .slice A0_5 l0_5.length c0_5], .agg #[.int .u32 a1_0, .int .i64 a1_1, .slice A1_2 l1_2.length c1_2, .int .i64 a1_3, .int .i64 a1_4, .slice A1_5 l1_5.length c1_5]] w fun e w' => e = .returned (.int .i64 r) ∧ Below w.heap.size w w' := by
 have hu77 := Try.underlying77
 have hu3 := Try.underlying3
 have HR0_2 := Aside0.mk hr0_2
 have HC0_2 := Aside0.mk hc0_2
 clear hr0_2 hc0_2
 have HR0_5 := Aside0.mk hr0_5
 have HC0_5 := Aside0.mk hc0_5
 clear hr0_5 hc0_5
 have HR1_2 := Aside0.mk hr1_2
 have HC1_2 := Aside0.mk hc1_2
 clear hr1_2 hc1_2
 have HR1_5 := Aside0.mk hr1_5
 have HC1_5 := Aside0.mk hc1_5
 clear hr1_5 hc1_5
 have HB := Aside0.mk (Below.refl w.heap.size w)
 have H : ((best_first.f a0_0 a0_1 l0_2 a0_3 a0_4 l0_5).bind fun t540 => ((best_first.f a1_0 a1_1 l1_2 a1_3 a1_4 l1_5).bind fun t541 => (if t540 = t541 then ((g33_.f a1_4 a0_4).bind fun t542 => (some t542)) else (some 0)))) = some r := h
 clear h
 replace H := Option.bind_eq_some_iff.mp H
 obtain ⟨t540, A30, H⟩ := H
 replace H : ((best_first.f a1_0 a1_1 l1_2 a1_3 a1_4 l1_5).bind fun t541 => (if t540 = t541 then ((g33_.f a1_4 a0_4).bind fun t542 => (some t542)) else (some 0))) = some r := H
 have A3 := Aside0.mk A30
 clear A30
 replace H := Option.bind_eq_some_iff.mp H
 obtain ⟨t541, A40, H⟩ := H
 replace H : (if t540 = t541 then ((g33_.f a1_4 a0_4).bind fun t542 => (some t542)) else (some 0)) = some r := H
 have A4 := Aside0.mk A40
 clear A40
 by_cases c5 : t540 = t541
 rotate_left
 ·
  rw [if_neg c5] at H
  have c5b0 : (t540 == t541) = false := beq_eq_false_iff_ne.mpr c5
  have c5b1 : (t540 != t541) = true := bne_iff_ne.mpr c5
  obtain rfl := Option.some.inj H
  go_enter Try.func57, Try.ntmps57
  try go_wp2_with (first | ((with_reducible refine gate_dst (N := 2) rfl ?_); refine bx 2 (#[.int .u32 a0_0, .int .i64 a0_1, .slice A0_2 l0_2.length c0_2, .int .i64 a0_3, .int .i64 a0_4, .slice A0_5 l0_5.length c0_5]) 77 ?_; intro gb538 hg w15 hbox hb; have n0_ := Aside0.mk (below_step zB hb); have n1_ := Aside0.mk (hbox); have n2_ := Aside0.mk ((zG hg : w.heap.size ≤ gb538)); have n3_ := Aside0.mk ((zG hg : w.heap.size ≤ gb538)); clear HB; have HB := n0_; have BK538 := n1_; have GW538 := n2_; have GE538 := n3_; clear n0_ n1_ n2_ n3_; clear hb hbox hg) | ((with_reducible refine gate_dst (N := 3) rfl ?_); refine bx 3 (#[.int .u32 a1_0, .int .i64 a1_1, .slice A1_2 l1_2.length c1_2, .int .i64 a1_3, .int .i64 a1_4, .slice A1_5 l1_5.length c1_5]) 77 ?_; intro gb539 hg w16 hbox hb; have n0_ := Aside0.mk (blk_below (g := gb538) (o := .cells #[.int .u32 a0_0, .int .i64 a0_1, .slice A0_2 l0_2.length c0_2, .int .i64 a0_3, .int .i64 a0_4, .slice A0_5 l0_5.length c0_5] 77 (0, 0)) (zK BK538) hb); have n1_ := Aside0.mk (below_step zB hb); have n2_ := Aside0.mk (hbox); have n3_ := Aside0.mk ((zG hg : w.heap.size ≤ gb539)); have n4_ := Aside0.mk ((zG hg : w.heap.size ≤ gb539)); have n5_ := Aside0.mk ((by rw [hg]; exact Nat.ne_of_lt (blk_lt (g := gb538) (o := .cells #[.int .u32 a0_0, .int .i64 a0_1, .slice A0_2 l0_2.length c0_2, .int .i64 a0_3, .int .i64 a0_4, .slice A0_5 l0_5.length c0_5] 77 (0, 0)) (zK BK538)) : gb538 ≠ gb539)); have n6_ := Aside0.mk ((by rw [hg]; exact Nat.ne_of_gt (blk_lt (g := gb538) (o := .cells #[.int .u32 a0_0, .int .i64 a0_1, .slice A0_2 l0_2.length c0_2, .int .i64 a0_3, .int .i64 a0_4, .slice A0_5 l0_5.length c0_5] 77 (0, 0)) (zK BK538)) : gb539 ≠ gb538)); clear BK538; clear HB; have BK538 := n0_; have HB := n1_; have BK539 := n2_; have GW539 := n3_; have GE539 := n4_; have NB538_539 := n5_; have NB539_538 := n6_; clear n0_ n1_ n2_ n3_ n4_ n5_ n6_; clear hb hbox hg))
  have n0_ := Aside0.mk (blk_drew BK538.out)
  have n1_ := Aside0.mk (blk_drew BK539.out)
  have n2_ := Aside0.mk (below_drew1 HB.out)
  clear BK538
  clear BK539
  clear HB
  have BK538 := n0_
  have BK539 := n1_
  have HB := n2_
  clear n0_ n1_ n2_
  refine start_ (n := 5) (S := fun w' => w'.cell? ⟨gb538, 0, none⟩ = some (.int .u32 a0_0) ∧ w'.cell? ⟨gb538, 1, none⟩ = some (.int .i64 a0_1) ∧ w'.cell? ⟨gb538, 2, none⟩ = some (.slice A0_2 l0_2.length c0_2) ∧ w'.cell? ⟨gb538, 3, none⟩ = some (.int .i64 a0_3) ∧ w'.cell? ⟨gb538, 4, none⟩ = some (.int .i64 a0_4) ∧ w'.cell? ⟨gb538, 5, none⟩ = some (.slice A0_5 l0_5.length c0_5) ∧ w'.cell? ⟨gb539, 0, none⟩ = some (.int .u32 a1_0) ∧ w'.cell? ⟨gb539, 1, none⟩ = some (.int .i64 a1_1) ∧ w'.cell? ⟨gb539, 2, none⟩ = some (.slice A1_2 l1_2.length c1_2) ∧ w'.cell? ⟨gb539, 3, none⟩ = some (.int .i64 a1_3) ∧ w'.cell? ⟨gb539, 4, none⟩ = some (.int .i64 a1_4) ∧ w'.cell? ⟨gb539, 5, none⟩ = some (.slice A1_5 l1_5.length c1_5)) (ds := []) (bm 5 0) (by kernel_rfl) rfl rfl ⟨zT BK538 0, zT BK538 1, zT BK538 2, zT BK538 3, zT BK538 4, zT BK538 5, zT BK539 0, zT BK539 1, zT BK539 2, zT BK539 3, zT BK539 4, zT BK539 5⟩ (fun hHeld => ?_)
  generalize w16.drew = w17 at BK538 BK539 HB hHeld ⊢
  refine tv 0 (some 5) (bm 5 1) hHeld ?_
  refine tv 2 (some 7) (bm 5 5) hHeld ?_
  refine one_ (i := 1) (N := some 6) (bm 5 7) rfl rfl (by kernel_rfl) (by decide) (fun K hK => ?_)
  refine goes_ Try.func58 (by kernel_rfl) rfl #[.agg #[.int .u32 a0_0, .int .i64 a0_1, .slice A0_2 l0_2.length c0_2, .int .i64 a0_3, .int .i64 a0_4, .slice A0_5 l0_5.length c0_5]] (by rfl) rfl rfl zM ?_
  with_reducible refine (best_first.calls a0_0 a0_1 _ _ l0_2 a0_3 a0_4 _ _ l0_5 t540 _ ?side1 ?side2 ?side3 ?side4 A3.out).mono ?_
  (case side1 => exact zC HR0_2 HB)
  (case side2 => exact HC0_2.out)
  (case side3 => exact zC HR0_5 HB)
  (case side4 => exact HC0_5.out)
  rintro e w18 ⟨rfl, hb⟩
  refine ⟨_, rfl, ?_⟩
  have n0_ := Aside0.mk (blk_below (g := gb538) (o := .cells #[.int .u32 a0_0, .int .i64 a0_1, .slice A0_2 l0_2.length c0_2, .int .i64 a0_3, .int .i64 a0_4, .slice A0_5 l0_5.length c0_5] 77 (0, 0)) (zK BK538) hb)
  have n1_ := Aside0.mk (blk_below (g := gb539) (o := .cells #[.int .u32 a1_0, .int .i64 a1_1, .slice A1_2 l1_2.length c1_2, .int .i64 a1_3, .int .i64 a1_4, .slice A1_5 l1_5.length c1_5] 77 (0, 0)) (zK BK539) hb)
  have n2_ := Aside0.mk (below_step zB hb)
  clear BK538
  clear BK539
  clear HB
  have BK538 := n0_
  have BK539 := n1_
  have HB := n2_
  clear n0_ n1_ n2_
  (try clear hb)
  (try clear hb2)
  (try clear hk)
  (try clear hi)
  refine hK.out _ _ ⟨zT BK538 0, zT BK538 1, zT BK538 2, zT BK538 3, zT BK538 4, zT BK538 5, zT BK539 0, zT BK539 1, zT BK539 2, zT BK539 3, zT BK539 4, zT BK539 5⟩ (fun hHeld => ?_)
  clear hK K
  refine norm_ (a' := ?_) ?_ ?_
  rotate_left
  · show Act.put _ (some 6) _ = _; simp only [Act.put, sA, s0, sS, i64_w, i32_w]; rfl
  refine one_ (i := 3) (N := some 8) (bm 5 15) rfl rfl (by kernel_rfl) (by decide) (fun K hK => ?_)
  refine goes_ Try.func58 (by kernel_rfl) rfl #[.agg #[.int .u32 a1_0, .int .i64 a1_1, .slice A1_2 l1_2.length c1_2, .int .i64 a1_3, .int .i64 a1_4, .slice A1_5 l1_5.length c1_5]] (by rfl) rfl rfl zM ?_
  with_reducible refine (best_first.calls a1_0 a1_1 _ _ l1_2 a1_3 a1_4 _ _ l1_5 t541 _ ?side1 ?side2 ?side3 ?side4 A4.out).mono ?_
  (case side1 => exact zC HR1_2 HB)
  (case side2 => exact HC1_2.out)
  (case side3 => exact zC HR1_5 HB)
  (case side4 => exact HC1_5.out)
  rintro e w19 ⟨rfl, hb⟩
  refine ⟨_, rfl, ?_⟩
  have n0_ := Aside0.mk (blk_below (g := gb538) (o := .cells #[.int .u32 a0_0, .int .i64 a0_1, .slice A0_2 l0_2.length c0_2, .int .i64 a0_3, .int .i64 a0_4, .slice A0_5 l0_5.length c0_5] 77 (0, 0)) (zK BK538) hb)
  have n1_ := Aside0.mk (blk_below (g := gb539) (o := .cells #[.int .u32 a1_0, .int .i64 a1_1, .slice A1_2 l1_2.length c1_2, .int .i64 a1_3, .int .i64 a1_4, .slice A1_5 l1_5.length c1_5] 77 (0, 0)) (zK BK539) hb)
  have n2_ := Aside0.mk (below_step zB hb)
  clear BK538
  clear BK539
  clear HB
  have BK538 := n0_
  have BK539 := n1_
  have HB := n2_
  clear n0_ n1_ n2_
  (try clear hb)
  (try clear hb2)
  (try clear hk)
  (try clear hi)
  refine hK.out _ _ ⟨zT BK538 0, zT BK538 1, zT BK538 2, zT BK538 3, zT BK538 4, zT BK538 5, zT BK539 0, zT BK539 1, zT BK539 2, zT BK539 3, zT BK539 4, zT BK539 5⟩ (fun hHeld => ?_)
  clear hK K
  refine norm_ (a' := ?_) ?_ ?_
  rotate_left
  · show Act.put _ (some 8) _ = _; simp only [Act.put, sA, s0, sS, i64_w, i32_w]; rfl
  refine pv 4 (some 9) (bm 5 31) ?_
  refine done_ (by kernel_rfl) ?_
  try go_wp2
  go_ret
  exact ⟨zE, zB⟩
 rw [if_pos c5] at H
 have c5b0 : (t540 == t541) = true := beq_iff_eq.mpr c5
 have c5b1 : (t540 != t541) = false := bne_eq_false_iff_eq.mpr c5
 clear c5
 replace H := Option.bind_eq_some_iff.mp H
 obtain ⟨t542, A60, H⟩ := H
 replace H : (some t542) = some r := H
 have A6 := Aside0.mk A60
 clear A60
 obtain rfl := Option.some.inj H
 go_enter Try.func57, Try.ntmps57
 try go_wp2_with (first | ((with_reducible refine gate_dst (N := 2) rfl ?_); refine bx 2 (#[.int .u32 a0_0, .int .i64 a0_1, .slice A0_2 l0_2.length c0_2, .int .i64 a0_3, .int .i64 a0_4, .slice A0_5 l0_5.length c0_5]) 77 ?_; intro gb538 hg w7 hbox hb; have n0_ := Aside0.mk (below_step zB hb); have n1_ := Aside0.mk (hbox); have n2_ := Aside0.mk ((zG hg : w.heap.size ≤ gb538)); have n3_ := Aside0.mk ((zG hg : w.heap.size ≤ gb538)); clear HB; have HB := n0_; have BK538 := n1_; have GW538 := n2_; have GE538 := n3_; clear n0_ n1_ n2_ n3_; clear hb hbox hg) | ((with_reducible refine gate_dst (N := 3) rfl ?_); refine bx 3 (#[.int .u32 a1_0, .int .i64 a1_1, .slice A1_2 l1_2.length c1_2, .int .i64 a1_3, .int .i64 a1_4, .slice A1_5 l1_5.length c1_5]) 77 ?_; intro gb539 hg w8 hbox hb; have n0_ := Aside0.mk (blk_below (g := gb538) (o := .cells #[.int .u32 a0_0, .int .i64 a0_1, .slice A0_2 l0_2.length c0_2, .int .i64 a0_3, .int .i64 a0_4, .slice A0_5 l0_5.length c0_5] 77 (0, 0)) (zK BK538) hb); have n1_ := Aside0.mk (below_step zB hb); have n2_ := Aside0.mk (hbox); have n3_ := Aside0.mk ((zG hg : w.heap.size ≤ gb539)); have n4_ := Aside0.mk ((zG hg : w.heap.size ≤ gb539)); have n5_ := Aside0.mk ((by rw [hg]; exact Nat.ne_of_lt (blk_lt (g := gb538) (o := .cells #[.int .u32 a0_0, .int .i64 a0_1, .slice A0_2 l0_2.length c0_2, .int .i64 a0_3, .int .i64 a0_4, .slice A0_5 l0_5.length c0_5] 77 (0, 0)) (zK BK538)) : gb538 ≠ gb539)); have n6_ := Aside0.mk ((by rw [hg]; exact Nat.ne_of_gt (blk_lt (g := gb538) (o := .cells #[.int .u32 a0_0, .int .i64 a0_1, .slice A0_2 l0_2.length c0_2, .int .i64 a0_3, .int .i64 a0_4, .slice A0_5 l0_5.length c0_5] 77 (0, 0)) (zK BK538)) : gb539 ≠ gb538)); clear BK538; clear HB; have BK538 := n0_; have HB := n1_; have BK539 := n2_; have GW539 := n3_; have GE539 := n4_; have NB538_539 := n5_; have NB539_538 := n6_; clear n0_ n1_ n2_ n3_ n4_ n5_ n6_; clear hb hbox hg))
 have n0_ := Aside0.mk (blk_drew BK538.out)
 have n1_ := Aside0.mk (blk_drew BK539.out)
 have n2_ := Aside0.mk (below_drew1 HB.out)
 clear BK538
 clear BK539
 clear HB
 have BK538 := n0_
 have BK539 := n1_
 have HB := n2_
 clear n0_ n1_ n2_
 refine start_ (n := 5) (S := fun w' => w'.cell? ⟨gb538, 0, none⟩ = some (.int .u32 a0_0) ∧ w'.cell? ⟨gb538, 1, none⟩ = some (.int .i64 a0_1) ∧ w'.cell? ⟨gb538, 2, none⟩ = some (.slice A0_2 l0_2.length c0_2) ∧ w'.cell? ⟨gb538, 3, none⟩ = some (.int .i64 a0_3) ∧ w'.cell? ⟨gb538, 4, none⟩ = some (.int .i64 a0_4) ∧ w'.cell? ⟨gb538, 5, none⟩ = some (.slice A0_5 l0_5.length c0_5) ∧ w'.cell? ⟨gb539, 0, none⟩ = some (.int .u32 a1_0) ∧ w'.cell? ⟨gb539, 1, none⟩ = some (.int .i64 a1_1) ∧ w'.cell? ⟨gb539, 2, none⟩ = some (.slice A1_2 l1_2.length c1_2) ∧ w'.cell? ⟨gb539, 3, none⟩ = some (.int .i64 a1_3) ∧ w'.cell? ⟨gb539, 4, none⟩ = some (.int .i64 a1_4) ∧ w'.cell? ⟨gb539, 5, none⟩ = some (.slice A1_5 l1_5.length c1_5)) (ds := []) (bm 5 0) (by kernel_rfl) rfl rfl ⟨zT BK538 0, zT BK538 1, zT BK538 2, zT BK538 3, zT BK538 4, zT BK538 5, zT BK539 0, zT BK539 1, zT BK539 2, zT BK539 3, zT BK539 4, zT BK539 5⟩ (fun hHeld => ?_)
 generalize w8.drew = w9 at BK538 BK539 HB hHeld ⊢
 refine tv 0 (some 5) (bm 5 1) hHeld ?_
 refine tv 2 (some 7) (bm 5 5) hHeld ?_
 refine one_ (i := 1) (N := some 6) (bm 5 7) rfl rfl (by kernel_rfl) (by decide) (fun K hK => ?_)
 refine goes_ Try.func58 (by kernel_rfl) rfl #[.agg #[.int .u32 a0_0, .int .i64 a0_1, .slice A0_2 l0_2.length c0_2, .int .i64 a0_3, .int .i64 a0_4, .slice A0_5 l0_5.length c0_5]] (by rfl) rfl rfl zM ?_
 with_reducible refine (best_first.calls a0_0 a0_1 _ _ l0_2 a0_3 a0_4 _ _ l0_5 t540 _ ?side1 ?side2 ?side3 ?side4 A3.out).mono ?_
 (case side1 => exact zC HR0_2 HB)
 (case side2 => exact HC0_2.out)
 (case side3 => exact zC HR0_5 HB)
 (case side4 => exact HC0_5.out)
 rintro e w10 ⟨rfl, hb⟩
 refine ⟨_, rfl, ?_⟩
 have n0_ := Aside0.mk (blk_below (g := gb538) (o := .cells #[.int .u32 a0_0, .int .i64 a0_1, .slice A0_2 l0_2.length c0_2, .int .i64 a0_3, .int .i64 a0_4, .slice A0_5 l0_5.length c0_5] 77 (0, 0)) (zK BK538) hb)
 have n1_ := Aside0.mk (blk_below (g := gb539) (o := .cells #[.int .u32 a1_0, .int .i64 a1_1, .slice A1_2 l1_2.length c1_2, .int .i64 a1_3, .int .i64 a1_4, .slice A1_5 l1_5.length c1_5] 77 (0, 0)) (zK BK539) hb)
 have n2_ := Aside0.mk (below_step zB hb)
 clear BK538
 clear BK539
 clear HB
 have BK538 := n0_
 have BK539 := n1_
 have HB := n2_
 clear n0_ n1_ n2_
 (try clear hb)
 (try clear hb2)
 (try clear hk)
 (try clear hi)
 refine hK.out _ _ ⟨zT BK538 0, zT BK538 1, zT BK538 2, zT BK538 3, zT BK538 4, zT BK538 5, zT BK539 0, zT BK539 1, zT BK539 2, zT BK539 3, zT BK539 4, zT BK539 5⟩ (fun hHeld => ?_)
 clear hK K
 refine norm_ (a' := ?_) ?_ ?_
 rotate_left
 · show Act.put _ (some 6) _ = _; simp only [Act.put, sA, s0, sS, i64_w, i32_w]; rfl
 refine one_ (i := 3) (N := some 8) (bm 5 15) rfl rfl (by kernel_rfl) (by decide) (fun K hK => ?_)
 refine goes_ Try.func58 (by kernel_rfl) rfl #[.agg #[.int .u32 a1_0, .int .i64 a1_1, .slice A1_2 l1_2.length c1_2, .int .i64 a1_3, .int .i64 a1_4, .slice A1_5 l1_5.length c1_5]] (by rfl) rfl rfl zM ?_
 with_reducible refine (best_first.calls a1_0 a1_1 _ _ l1_2 a1_3 a1_4 _ _ l1_5 t541 _ ?side1 ?side2 ?side3 ?side4 A4.out).mono ?_
 (case side1 => exact zC HR1_2 HB)
 (case side2 => exact HC1_2.out)
 (case side3 => exact zC HR1_5 HB)
 (case side4 => exact HC1_5.out)
 rintro e w11 ⟨rfl, hb⟩
 refine ⟨_, rfl, ?_⟩
 have n0_ := Aside0.mk (blk_below (g := gb538) (o := .cells #[.int .u32 a0_0, .int .i64 a0_1, .slice A0_2 l0_2.length c0_2, .int .i64 a0_3, .int .i64 a0_4, .slice A0_5 l0_5.length c0_5] 77 (0, 0)) (zK BK538) hb)
 have n1_ := Aside0.mk (blk_below (g := gb539) (o := .cells #[.int .u32 a1_0, .int .i64 a1_1, .slice A1_2 l1_2.length c1_2, .int .i64 a1_3, .int .i64 a1_4, .slice A1_5 l1_5.length c1_5] 77 (0, 0)) (zK BK539) hb)
 have n2_ := Aside0.mk (below_step zB hb)
 clear BK538
 clear BK539
 clear HB
 have BK538 := n0_
 have BK539 := n1_
 have HB := n2_
 clear n0_ n1_ n2_
 (try clear hb)
 (try clear hb2)
 (try clear hk)
 (try clear hi)
 refine hK.out _ _ ⟨zT BK538 0, zT BK538 1, zT BK538 2, zT BK538 3, zT BK538 4, zT BK538 5, zT BK539 0, zT BK539 1, zT BK539 2, zT BK539 3, zT BK539 4, zT BK539 5⟩ (fun hHeld => ?_)
 clear hK K
 refine norm_ (a' := ?_) ?_ ?_
 rotate_left
 · show Act.put _ (some 8) _ = _; simp only [Act.put, sA, s0, sS, i64_w, i32_w]; rfl
 refine pv 4 (some 9) (bm 5 31) ?_
 refine done_ (by kernel_rfl) ?_
 have hnb12 := NB539_538.out
 have hnc12 := NB538_539.out
 have hcz13_0 : w11.cell? ⟨gb539, 0, none⟩ = some (.int .u32 a1_0) := zT BK539 0
 have hcz13_1 : w11.cell? ⟨gb539, 1, none⟩ = some (.int .i64 a1_1) := zT BK539 1
 have hcz13_2 : w11.cell? ⟨gb539, 2, none⟩ = some (.slice A1_2 l1_2.length c1_2) := zT BK539 2
 have hcz13_3 : w11.cell? ⟨gb539, 3, none⟩ = some (.int .i64 a1_3) := zT BK539 3
 have hcz13_4 : w11.cell? ⟨gb539, 4, none⟩ = some (.int .i64 a1_4) := zT BK539 4
 have hcz13_5 : w11.cell? ⟨gb539, 5, none⟩ = some (.slice A1_5 l1_5.length c1_5) := zT BK539 5
 have hfz13_0 := blk_frozen BK539.out 0
 have hfz13_1 := blk_frozen BK539.out 1
 have hfz13_2 := blk_frozen BK539.out 2
 have hfz13_3 := blk_frozen BK539.out 3
 have hfz13_4 := blk_frozen BK539.out 4
 have hfz13_5 := blk_frozen BK539.out 5
 have hcz14_0 : w11.cell? ⟨gb538, 0, none⟩ = some (.int .u32 a0_0) := zT BK538 0
 have hcz14_1 : w11.cell? ⟨gb538, 1, none⟩ = some (.int .i64 a0_1) := zT BK538 1
 have hcz14_2 : w11.cell? ⟨gb538, 2, none⟩ = some (.slice A0_2 l0_2.length c0_2) := zT BK538 2
 have hcz14_3 : w11.cell? ⟨gb538, 3, none⟩ = some (.int .i64 a0_3) := zT BK538 3
 have hcz14_4 : w11.cell? ⟨gb538, 4, none⟩ = some (.int .i64 a0_4) := zT BK538 4
 have hcz14_5 : w11.cell? ⟨gb538, 5, none⟩ = some (.slice A0_5 l0_5.length c0_5) := zT BK538 5
 have hfz14_0 := blk_frozen BK538.out 0
 have hfz14_1 := blk_frozen BK538.out 1
 have hfz14_2 := blk_frozen BK538.out 2
 have hfz14_3 := blk_frozen BK538.out 3
 have hfz14_4 := blk_frozen BK538.out 4
 have hfz14_5 := blk_frozen BK538.out 5
 try go_wp2_with (first | ((with_reducible refine gate_callee (f := 55) rfl ?_); refine goesL_ (some 14) rfl rfl Try.func55 (by kernel_rfl) rfl #[.int .i64 a1_4, .int .i64 a0_4] rfl zM ?_; (with_reducible refine (g33_.calls a1_4 a0_4 t542 _ A6.out).mono ?_); rintro e w' ⟨rfl, ⟨nd, rfl⟩⟩; refine ⟨_, rfl, ?_⟩))
 go_ret
 exact ⟨zE, zB⟩
end Go.Proofs.Ytplcdbhklepkgaa.BS
