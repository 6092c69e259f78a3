-- Made by gen.py, a program of this session's, over the kit's print.
import Derived.Test.YtplcdbhklepkgaaVValleyShort
import Derived.Test.YtplcdbhklepkgaaVValleyBSx0
import Derived.Test.YtplcdbhklepkgaaVValleyBSx1
import Derived.Test.YtplcdbhklepkgaaVValleyBSx10
namespace Go.Proofs.Ytplcdbhklepkgaa.BS
open Go.RowKit Go.Proofs.YtplcdbhklepkgaaW.PrintWords Go.Proofs.YtplcdbhklepkgaaW.PrintLast Go.Proofs.YtplcdbhklepkgaaW.PrintMore Go.Proofs.Ytplcdbhklepkgaa.GenWords
attribute [local go_sem] max2_int min2_int max_two min_two max_three min_three max_four min_four   -- for this text's walks alone
set_option linter.unusedVariables false
set_option linter.unusedSimpArgs false

attribute [local go_sem high] eqA75
/-! ### best_wrong: function 42 -/
mutual
def best_wrong.l0 : Nat → List (S77) → List (S77) → Int → Int → Option (Int)
  | 0, _, _, _, _ => none
  | k + 1, x0, x11, x12, x13 => if x13 < x12 then (if 0 ≤ x13 then (if x13 < (x11.length : Int) then ((path_Check.f k ((rd_T77 x11 x13).f0.f0) ((rd_T77 x11 x13).f0.f1) ((rd_T77 x11 x13).f1) ((rd_T77 x11 x13).f2) ((rd_T77 x11 x13).f3) ((rd_T77 x11 x13).f4)).bind fun t325 => (if t325 = 0 then (best_wrong.l0 k x0 x11 x12 (wrap64 (x13 + 1))) else (some t325))) else (none)) else (none)) else (best_wrong.l1 k x0 x0 (x0.length : Int) 0)
def best_wrong.l1 : Nat → List (S77) → List (S77) → Int → Int → Option (Int)
  | 0, _, _, _, _ => none
  | k + 1, x0, x23, x24, x25 => if x25 < x24 then (if 0 ≤ x25 then (if x25 < (x23.length : Int) then (if 0 < (x0.length : Int) then (if (!(((rd_T77 x23 x25).f0.f0) == ((rd_T77 x0 0).f0.f0)) || (!(((rd_T77 x23 x25).f0.f1) == ((rd_T77 x0 0).f0.f1)))) = true then (some 1) else (best_wrong.l1 k x0 x23 x24 (wrap64 (x25 + 1)))) else (none)) else (none)) else (none)) else (some 0)
end
def best_wrong.f (k : Nat) (l0 : List (S77)) : Option (Int) := if (l0.length : Int) > 256 then (some 2) else (best_wrong.l0 k l0 l0 (l0.length : Int) 0)
theorem best_wrong.mono_l : ∀ k, (∀ y0 y1 y2 y3, LeO (best_wrong.l0 k y0 y1 y2 y3) (best_wrong.l0 (k + 1) y0 y1 y2 y3)) ∧ (∀ y0 y1 y2 y3, LeO (best_wrong.l1 k y0 y1 y2 y3) (best_wrong.l1 (k + 1) y0 y1 y2 y3))
  | 0 => ⟨fun _ _ _ _ r h => by simp [best_wrong.l0] at h, fun _ _ _ _ r h => by simp [best_wrong.l1] at h⟩
  | k + 1 => by
    obtain ⟨ih0, ih1⟩ := best_wrong.mono_l k
    refine ⟨?_, ?_⟩
    · intro y0 y1 y2 y3
      unfold best_wrong.l0
      repeat' (with_reducible first | exact ih0 _ _ _ _ | exact ih1 _ _ _ _ | exact path_Check.mono _ _ _ _ _ _ _ | exact LeO.refl _ | exact LeO.none _ | refine LeO.ite ?_ ?_ | refine LeO.bind ?_ (fun _ => ?_))
    · intro y0 y1 y2 y3
      unfold best_wrong.l1
      repeat' (with_reducible first | exact ih0 _ _ _ _ | exact ih1 _ _ _ _ | exact path_Check.mono _ _ _ _ _ _ _ | exact LeO.refl _ | exact LeO.none _ | refine LeO.ite ?_ ?_ | refine LeO.bind ?_ (fun _ => ?_))
theorem best_wrong.mono : ∀ a0 k, LeO (best_wrong.f k a0) (best_wrong.f (k + 1) a0) := by
  intro a0 k
  obtain ⟨ih0, ih1⟩ := best_wrong.mono_l k
  unfold best_wrong.f
  repeat' (with_reducible first | exact ih0 _ _ _ _ | exact ih1 _ _ _ _ | exact path_Check.mono _ _ _ _ _ _ _ | exact LeO.refl _ | exact LeO.none _ | refine LeO.ite ?_ ?_ | refine LeO.bind ?_ (fun _ => ?_))
set_option maxHeartbeats 8000000 in
set_option maxRecDepth 100000 in
theorem best_wrong.calls (k : Nat) (A0 : Option Addr) (c0 : Nat) (l0 : List (S77)) (r : Int) (w : World) (hr0 : Kd.C k77 w A0 l0.length l0) (hc0 : l0.length ≤ c0) (h : best_wrong.f k l0 = some r) :
 Calls Try.prog 42 #[.slice A0 l0.length c0] w fun e w' => e = .returned (.int .i64 r) ∧ Below w.heap.size w w' := by
 have hu77 := Try.underlying77
 have hu75 := Try.underlying75
 have HR0 := Aside0.mk hr0
 have HC0 := Aside0.mk hc0
 clear hr0 hc0
 have HB := Aside0.mk (Below.refl w.heap.size w)
 have H : (if (l0.length : Int) > 256 then (some 2) else (best_wrong.l0 k l0 l0 (l0.length : Int) 0)) = some r := h
 clear h
 by_cases c2 : (l0.length : Int) > 256
 ·
  rw [if_pos c2] at H
  have c2b0 : decide (256 < (l0.length : Int)) = true := decide_eq_true c2
  have c2b1 : decide (256 < l0.length) = true := decide_eq_true (by omega)
  clear c2
  obtain rfl := Option.some.inj H
  go_enter Try.func42, Try.ntmps42
  go_wp2
  go_ret
  exact ⟨zE, zB⟩
 rw [if_neg c2] at H
 have c2b0 : decide (256 < (l0.length : Int)) = false := decide_eq_false c2
 have c2b1 : decide (256 < l0.length) = false := decide_eq_false (by omega)
 clear c2
 have H' := Aside0.mk H
 clear H
 go_enter Try.func42, Try.ntmps42
 go_wp2
 go_loopg [13] k (fun kq v13 w' => ∃ (x13_1 : Int), v13 = .int .i64 x13_1 ∧ Aside0 (best_wrong.l0 kq l0 l0 (l0.length : Int) x13_1 = some r) ∧ Aside0 (kq ≤ k) ∧ Aside0 (Below w.heap.size w w'))
 case atStart => exact ⟨(0), zR, H', ⟨Nat.le_refl _⟩, ⟨zB⟩⟩
 clear H'
 try clear c2
 try clear c2b0
 try clear c2b1
 try clear p2
 obtain ⟨x13_1, rfl, HA, HK1, HB⟩ := hrel
 rcases gk with _ | k1
 · exact absurd HA.out (by simp [best_wrong.l0])
 have H := HA.out
 clear HA
 simp only [best_wrong.l0] at H
 by_cases c3 : x13_1 < (l0.length : Int)
 ·
  rw [if_pos c3] at H
  have c3b0 : decide (x13_1 < (l0.length : Int)) = true := decide_eq_true c3
  clear c3
  by_cases c4 : 0 ≤ x13_1
  rotate_left
  · rw [if_neg c4] at H; exact absurd H (by simp)
  rw [if_pos c4] at H
  have c4b0 : decide (0 ≤ x13_1) = true := decide_eq_true c4
  clear c4
  by_cases c5 : x13_1 < (l0.length : Int)
  rotate_left
  · rw [if_neg c5] at H; exact absurd H (by simp)
  rw [if_pos c5] at H
  have c5b0 : decide (x13_1 < (l0.length : Int)) = true := decide_eq_true c5
  clear c5
  replace H := Option.bind_eq_some_iff.mp H
  obtain ⟨t325, A60, H⟩ := H
  replace H : (if t325 = 0 then (best_wrong.l0 k1 l0 l0 (l0.length : Int) (wrap64 (x13_1 + 1))) else (some t325)) = some r := H
  have A6 := Aside0.mk A60
  clear A60
  by_cases c7 : t325 = 0
  rotate_left
  ·
   rw [if_neg c7] at H
   have c7b0 : (t325 == 0) = false := beq_eq_false_iff_ne.mpr c7
   have c7b1 : (t325 != 0) = true := bne_iff_ne.mpr c7
   obtain rfl := Option.some.inj H
   have p323 : 0 ≤ (x13_1 : Int) := od
   have q323 : x13_1 < (l0.length : Int) := od
   obtain ⟨ad323, A323_2, c323_2, A323_5, c323_5, e323, hx323_0, hx323_1, hx323_2, hx323_3, hx323_4, hx323_5, hl323_2, hi323_2, hl323_5, hi323_5⟩ := at_T77 HR0.out x13_1 p323 q323
   cases e323
   replace hx323_0 := zL HB hx323_0
   replace hx323_1 := zL HB hx323_1
   replace hx323_2 := zL HB hx323_2
   replace hx323_3 := zL HB hx323_3
   replace hx323_4 := zL HB hx323_4
   replace hx323_5 := zL HB hx323_5
   have HR323_2 := Aside0.mk hi323_2
   have HC323_2 := Aside0.mk hl323_2
   clear hi323_2 hl323_2
   have HR323_5 := Aside0.mk hi323_5
   have HC323_5 := Aside0.mk hl323_5
   clear hi323_5 hl323_5
   replace p323 := eq_true p323
   replace q323 := eq_true q323
   go_wp2_with (first | ((with_reducible refine gate_dst (N := 4) rfl ?_); refine bx 4 (#[.int .u32 0, .int .i64 0, .slice none 0 0, .int .i64 0, .int .i64 0, .slice none 0 0]) 77 ?_; intro gb324 hg w11 hbox hb; have n0_ := Aside0.mk (below_step zB hb); have n1_ := Aside0.mk (hbox); have n2_ := Aside0.mk ((zG hg : w.heap.size ≤ gb324)); have n3_ := Aside0.mk ((zG hg : w.heap.size ≤ gb324)); clear HB; have HB := n0_; have BK324 := n1_; have GW324 := n2_; have GE324 := n3_; clear n0_ n1_ n2_ n3_; clear hb hbox hg; have hcz12_0 : w11.cell? ⟨gb324, 0, none⟩ = some (.int .u32 0) := zT BK324 0; have hcz12_1 : w11.cell? ⟨gb324, 1, none⟩ = some (.int .i64 0) := zT BK324 1; have hcz12_2 : w11.cell? ⟨gb324, 2, none⟩ = some (.slice none 0 0) := zT BK324 2; have hcz12_3 : w11.cell? ⟨gb324, 3, none⟩ = some (.int .i64 0) := zT BK324 3; have hcz12_4 : w11.cell? ⟨gb324, 4, none⟩ = some (.int .i64 0) := zT BK324 4; have hcz12_5 : w11.cell? ⟨gb324, 5, none⟩ = some (.slice none 0 0) := zT BK324 5; have hfz12_0 := blk_frozen BK324.out 0; have hfz12_1 := blk_frozen BK324.out 1; have hfz12_2 := blk_frozen BK324.out 2; have hfz12_3 := blk_frozen BK324.out 3; have hfz12_4 := blk_frozen BK324.out 4; have hfz12_5 := blk_frozen BK324.out 5) | ((with_reducible refine gate_callee (f := 47) rfl ?_); refine goesL_ (some 18) rfl rfl Try.func47 (by kernel_rfl) rfl #[.agg #[.int .u32 ((rd_T77 l0 x13_1).f0.f0), .int .i64 ((rd_T77 l0 x13_1).f0.f1), .slice A323_2 ((rd_T77 l0 x13_1).f1).length c323_2, .int .i64 ((rd_T77 l0 x13_1).f2), .int .i64 ((rd_T77 l0 x13_1).f3), .slice A323_5 ((rd_T77 l0 x13_1).f4).length c323_5]] rfl zM ?_; (with_reducible refine (path_Check.calls k1 ((rd_T77 l0 x13_1).f0.f0) ((rd_T77 l0 x13_1).f0.f1) _ _ ((rd_T77 l0 x13_1).f1) ((rd_T77 l0 x13_1).f2) ((rd_T77 l0 x13_1).f3) _ _ ((rd_T77 l0 x13_1).f4) t325 _ ?side1 ?side2 ?side3 ?side4 A6.out).mono ?_); (case side1 => exact Kd.C_below HR323_2.out zB); (case side2 => exact HC323_2.out); (case side3 => exact Kd.C_below HR323_5.out zB); (case side4 => exact HC323_5.out); rintro e w13 ⟨rfl, hb⟩; refine ⟨_, rfl, ?_⟩; have n0_ := Aside0.mk (blk_below (g := gb324) (o := .cells #[.int .u32 ((rd_T77 l0 x13_1).f0.f0), .int .i64 ((rd_T77 l0 x13_1).f0.f1), .slice A323_2 ((rd_T77 l0 x13_1).f1).length c323_2, .int .i64 ((rd_T77 l0 x13_1).f2), .int .i64 ((rd_T77 l0 x13_1).f3), .slice A323_5 ((rd_T77 l0 x13_1).f4).length c323_5] 77 (0, 0)) (by (with_reducible repeat (first | refine blk_drewN ?_ _ | refine blk_drew ?_ | refine blk_alloc ?_ _)); refine blk_put (cs := #[.int .u32 ((rd_T77 l0 x13_1).f0.f0), .int .i64 ((rd_T77 l0 x13_1).f0.f1), .slice A323_2 ((rd_T77 l0 x13_1).f1).length c323_2, .int .i64 ((rd_T77 l0 x13_1).f2), .int .i64 ((rd_T77 l0 x13_1).f3), .slice none 0 0]) ?_ 5 _ rfl; (with_reducible repeat (first | refine blk_drewN ?_ _ | refine blk_drew ?_ | refine blk_alloc ?_ _)); refine blk_put (cs := #[.int .u32 ((rd_T77 l0 x13_1).f0.f0), .int .i64 ((rd_T77 l0 x13_1).f0.f1), .slice A323_2 ((rd_T77 l0 x13_1).f1).length c323_2, .int .i64 ((rd_T77 l0 x13_1).f2), .int .i64 0, .slice none 0 0]) ?_ 4 _ rfl; (with_reducible repeat (first | refine blk_drewN ?_ _ | refine blk_drew ?_ | refine blk_alloc ?_ _)); refine blk_put (cs := #[.int .u32 ((rd_T77 l0 x13_1).f0.f0), .int .i64 ((rd_T77 l0 x13_1).f0.f1), .slice A323_2 ((rd_T77 l0 x13_1).f1).length c323_2, .int .i64 0, .int .i64 0, .slice none 0 0]) ?_ 3 _ rfl; (with_reducible repeat (first | refine blk_drewN ?_ _ | refine blk_drew ?_ | refine blk_alloc ?_ _)); refine blk_put (cs := #[.int .u32 ((rd_T77 l0 x13_1).f0.f0), .int .i64 ((rd_T77 l0 x13_1).f0.f1), .slice none 0 0, .int .i64 0, .int .i64 0, .slice none 0 0]) ?_ 2 _ rfl; (with_reducible repeat (first | refine blk_drewN ?_ _ | refine blk_drew ?_ | refine blk_alloc ?_ _)); refine blk_put (cs := #[.int .u32 ((rd_T77 l0 x13_1).f0.f0), .int .i64 0, .slice none 0 0, .int .i64 0, .int .i64 0, .slice none 0 0]) ?_ 1 _ rfl; (with_reducible repeat (first | refine blk_drewN ?_ _ | refine blk_drew ?_ | refine blk_alloc ?_ _)); refine blk_put (cs := #[.int .u32 0, .int .i64 0, .slice none 0 0, .int .i64 0, .int .i64 0, .slice none 0 0]) ?_ 0 _ rfl; (with_reducible repeat (first | refine blk_drewN ?_ _ | refine blk_drew ?_ | refine blk_alloc ?_ _)); exact BK324.out) hb); have n1_ := Aside0.mk (below_step zB hb); clear BK324; clear HB; have BK324 := n0_; have HB := n1_; clear n0_ n1_; (try clear hb); (try clear hb2); (try clear hk); (try clear hi)))
   go_ret
   exact ⟨zE, zB⟩
  rw [if_pos c7] at H
  have c7b0 : (t325 == 0) = true := beq_iff_eq.mpr c7
  have c7b1 : (t325 != 0) = false := bne_eq_false_iff_eq.mpr c7
  clear c7
  have H' := Aside0.mk H
  clear H
  have p323 : 0 ≤ (x13_1 : Int) := od
  have q323 : x13_1 < (l0.length : Int) := od
  obtain ⟨ad323, A323_2, c323_2, A323_5, c323_5, e323, hx323_0, hx323_1, hx323_2, hx323_3, hx323_4, hx323_5, hl323_2, hi323_2, hl323_5, hi323_5⟩ := at_T77 HR0.out x13_1 p323 q323
  cases e323
  replace hx323_0 := zL HB hx323_0
  replace hx323_1 := zL HB hx323_1
  replace hx323_2 := zL HB hx323_2
  replace hx323_3 := zL HB hx323_3
  replace hx323_4 := zL HB hx323_4
  replace hx323_5 := zL HB hx323_5
  have HR323_2 := Aside0.mk hi323_2
  have HC323_2 := Aside0.mk hl323_2
  clear hi323_2 hl323_2
  have HR323_5 := Aside0.mk hi323_5
  have HC323_5 := Aside0.mk hl323_5
  clear hi323_5 hl323_5
  replace p323 := eq_true p323
  replace q323 := eq_true q323
  go_wp2_with (first | ((with_reducible refine gate_dst (N := 4) rfl ?_); refine bx 4 (#[.int .u32 0, .int .i64 0, .slice none 0 0, .int .i64 0, .int .i64 0, .slice none 0 0]) 77 ?_; intro gb324 hg w8 hbox hb; have n0_ := Aside0.mk (below_step zB hb); have n1_ := Aside0.mk (hbox); have n2_ := Aside0.mk ((zG hg : w.heap.size ≤ gb324)); have n3_ := Aside0.mk ((zG hg : w.heap.size ≤ gb324)); clear HB; have HB := n0_; have BK324 := n1_; have GW324 := n2_; have GE324 := n3_; clear n0_ n1_ n2_ n3_; clear hb hbox hg; have hcz9_0 : w8.cell? ⟨gb324, 0, none⟩ = some (.int .u32 0) := zT BK324 0; have hcz9_1 : w8.cell? ⟨gb324, 1, none⟩ = some (.int .i64 0) := zT BK324 1; have hcz9_2 : w8.cell? ⟨gb324, 2, none⟩ = some (.slice none 0 0) := zT BK324 2; have hcz9_3 : w8.cell? ⟨gb324, 3, none⟩ = some (.int .i64 0) := zT BK324 3; have hcz9_4 : w8.cell? ⟨gb324, 4, none⟩ = some (.int .i64 0) := zT BK324 4; have hcz9_5 : w8.cell? ⟨gb324, 5, none⟩ = some (.slice none 0 0) := zT BK324 5; have hfz9_0 := blk_frozen BK324.out 0; have hfz9_1 := blk_frozen BK324.out 1; have hfz9_2 := blk_frozen BK324.out 2; have hfz9_3 := blk_frozen BK324.out 3; have hfz9_4 := blk_frozen BK324.out 4; have hfz9_5 := blk_frozen BK324.out 5) | ((with_reducible refine gate_callee (f := 47) rfl ?_); refine goesL_ (some 18) rfl rfl Try.func47 (by kernel_rfl) rfl #[.agg #[.int .u32 ((rd_T77 l0 x13_1).f0.f0), .int .i64 ((rd_T77 l0 x13_1).f0.f1), .slice A323_2 ((rd_T77 l0 x13_1).f1).length c323_2, .int .i64 ((rd_T77 l0 x13_1).f2), .int .i64 ((rd_T77 l0 x13_1).f3), .slice A323_5 ((rd_T77 l0 x13_1).f4).length c323_5]] rfl zM ?_; (with_reducible refine (path_Check.calls k1 ((rd_T77 l0 x13_1).f0.f0) ((rd_T77 l0 x13_1).f0.f1) _ _ ((rd_T77 l0 x13_1).f1) ((rd_T77 l0 x13_1).f2) ((rd_T77 l0 x13_1).f3) _ _ ((rd_T77 l0 x13_1).f4) t325 _ ?side1 ?side2 ?side3 ?side4 A6.out).mono ?_); (case side1 => exact Kd.C_below HR323_2.out zB); (case side2 => exact HC323_2.out); (case side3 => exact Kd.C_below HR323_5.out zB); (case side4 => exact HC323_5.out); rintro e w10 ⟨rfl, hb⟩; refine ⟨_, rfl, ?_⟩; have n0_ := Aside0.mk (blk_below (g := gb324) (o := .cells #[.int .u32 ((rd_T77 l0 x13_1).f0.f0), .int .i64 ((rd_T77 l0 x13_1).f0.f1), .slice A323_2 ((rd_T77 l0 x13_1).f1).length c323_2, .int .i64 ((rd_T77 l0 x13_1).f2), .int .i64 ((rd_T77 l0 x13_1).f3), .slice A323_5 ((rd_T77 l0 x13_1).f4).length c323_5] 77 (0, 0)) (by (with_reducible repeat (first | refine blk_drewN ?_ _ | refine blk_drew ?_ | refine blk_alloc ?_ _)); refine blk_put (cs := #[.int .u32 ((rd_T77 l0 x13_1).f0.f0), .int .i64 ((rd_T77 l0 x13_1).f0.f1), .slice A323_2 ((rd_T77 l0 x13_1).f1).length c323_2, .int .i64 ((rd_T77 l0 x13_1).f2), .int .i64 ((rd_T77 l0 x13_1).f3), .slice none 0 0]) ?_ 5 _ rfl; (with_reducible repeat (first | refine blk_drewN ?_ _ | refine blk_drew ?_ | refine blk_alloc ?_ _)); refine blk_put (cs := #[.int .u32 ((rd_T77 l0 x13_1).f0.f0), .int .i64 ((rd_T77 l0 x13_1).f0.f1), .slice A323_2 ((rd_T77 l0 x13_1).f1).length c323_2, .int .i64 ((rd_T77 l0 x13_1).f2), .int .i64 0, .slice none 0 0]) ?_ 4 _ rfl; (with_reducible repeat (first | refine blk_drewN ?_ _ | refine blk_drew ?_ | refine blk_alloc ?_ _)); refine blk_put (cs := #[.int .u32 ((rd_T77 l0 x13_1).f0.f0), .int .i64 ((rd_T77 l0 x13_1).f0.f1), .slice A323_2 ((rd_T77 l0 x13_1).f1).length c323_2, .int .i64 0, .int .i64 0, .slice none 0 0]) ?_ 3 _ rfl; (with_reducible repeat (first | refine blk_drewN ?_ _ | refine blk_drew ?_ | refine blk_alloc ?_ _)); refine blk_put (cs := #[.int .u32 ((rd_T77 l0 x13_1).f0.f0), .int .i64 ((rd_T77 l0 x13_1).f0.f1), .slice none 0 0, .int .i64 0, .int .i64 0, .slice none 0 0]) ?_ 2 _ rfl; (with_reducible repeat (first | refine blk_drewN ?_ _ | refine blk_drew ?_ | refine blk_alloc ?_ _)); refine blk_put (cs := #[.int .u32 ((rd_T77 l0 x13_1).f0.f0), .int .i64 0, .slice none 0 0, .int .i64 0, .int .i64 0, .slice none 0 0]) ?_ 1 _ rfl; (with_reducible repeat (first | refine blk_drewN ?_ _ | refine blk_drew ?_ | refine blk_alloc ?_ _)); refine blk_put (cs := #[.int .u32 0, .int .i64 0, .slice none 0 0, .int .i64 0, .int .i64 0, .slice none 0 0]) ?_ 0 _ rfl; (with_reducible repeat (first | refine blk_drewN ?_ _ | refine blk_drew ?_ | refine blk_alloc ?_ _)); exact BK324.out) hb); have n1_ := Aside0.mk (below_step zB hb); clear BK324; clear HB; have BK324 := n0_; have HB := n1_; clear n0_ n1_; (try clear hb); (try clear hb2); (try clear hk); (try clear hi)))
  go_roundg k1
  case measure => have := HK1.out; omega
  case rel => exact ⟨(wrap64 (x13_1 + 1)), zR, H', ⟨by have := HK1.out; omega⟩, ⟨zB⟩⟩
 rw [if_neg c3] at H
 have c3b0 : decide (x13_1 < (l0.length : Int)) = false := decide_eq_false c3
 clear c3
 have H' := Aside0.mk H
 clear H
 go_wp2
 go_loopg [25] k1 (fun kq v25 w' => ∃ (x25_2 : Int), v25 = .int .i64 x25_2 ∧ Aside0 (best_wrong.l1 kq l0 l0 (l0.length : Int) x25_2 = some r) ∧ Aside0 (kq ≤ k1) ∧ Aside0 (Below w.heap.size w w'))
 case atStart => exact ⟨(0), zR, H', ⟨Nat.le_refl _⟩, ⟨zB⟩⟩
 clear H'
 try clear c2
 try clear c2b0
 try clear c2b1
 try clear p2
 try clear c3
 try clear c3b0
 try clear p3
 try clear q3
 try clear hx3
 try clear c4
 try clear c4b0
 try clear c5
 try clear c5b0
 try clear p6
 try clear c7
 try clear c7b0
 try clear c7b1
 try clear hcz12_0
 try clear hcz12_1
 try clear hcz12_2
 try clear hcz12_3
 try clear hcz12_4
 try clear hcz12_5
 try clear hcz9_0
 try clear hcz9_1
 try clear hcz9_2
 try clear hcz9_3
 try clear hcz9_4
 try clear hcz9_5
 try clear hfz12_0
 try clear hfz12_1
 try clear hfz12_2
 try clear hfz12_3
 try clear hfz12_4
 try clear hfz12_5
 try clear hfz9_0
 try clear hfz9_1
 try clear hfz9_2
 try clear hfz9_3
 try clear hfz9_4
 try clear hfz9_5
 try clear hx323_0
 try clear hx323_1
 try clear hx323_2
 try clear hx323_3
 try clear hx323_4
 try clear hx323_5
 try clear p2
 try clear p323
 try clear q323
 obtain ⟨x25_2, rfl, HA, HK2, HB⟩ := hrel
 rcases gk with _ | k2
 · exact absurd HA.out (by simp [best_wrong.l1])
 have H := HA.out
 clear HA
 simp only [best_wrong.l1] at H
 by_cases c14 : x25_2 < (l0.length : Int)
 rotate_left
 ·
  rw [if_neg c14] at H
  have c14b0 : decide (x25_2 < (l0.length : Int)) = false := decide_eq_false c14
  clear c14
  obtain rfl := Option.some.inj H
  go_wp2
  go_ret
  exact ⟨zE, zB⟩
 rw [if_pos c14] at H
 have c14b0 : decide (x25_2 < (l0.length : Int)) = true := decide_eq_true c14
 clear c14
 by_cases c15 : 0 ≤ x25_2
 rotate_left
 · rw [if_neg c15] at H; exact absurd H (by simp)
 rw [if_pos c15] at H
 have c15b0 : decide (0 ≤ x25_2) = true := decide_eq_true c15
 clear c15
 by_cases c16 : x25_2 < (l0.length : Int)
 rotate_left
 · rw [if_neg c16] at H; exact absurd H (by simp)
 rw [if_pos c16] at H
 have c16b0 : decide (x25_2 < (l0.length : Int)) = true := decide_eq_true c16
 clear c16
 by_cases c17 : 0 < (l0.length : Int)
 rotate_left
 · rw [if_neg c17] at H; exact absurd H (by simp)
 rw [if_pos c17] at H
 have c17b0 : decide (0 < (l0.length : Int)) = true := decide_eq_true c17
 have c17b1 : decide (0 < l0.length) = true := decide_eq_true (by omega)
 clear c17
 by_cases c18 : (!(((rd_T77 l0 x25_2).f0.f0) == ((rd_T77 l0 0).f0.f0)) || (!(((rd_T77 l0 x25_2).f0.f1) == ((rd_T77 l0 0).f0.f1)))) = true
 ·
  rw [if_pos c18] at H
  have c18b0 : (!(((rd_T77 l0 x25_2).f0.f0) == ((rd_T77 l0 0).f0.f0)) || (!(((rd_T77 l0 x25_2).f0.f1) == ((rd_T77 l0 0).f0.f1)))) = true := c18
  clear c18
  obtain rfl := Option.some.inj H
  have p326 : 0 ≤ (x25_2 : Int) := od
  have q326 : x25_2 < (l0.length : Int) := od
  obtain ⟨ad326, A326_2, c326_2, A326_5, c326_5, e326, hx326_0, hx326_1, hx326_2, hx326_3, hx326_4, hx326_5, hl326_2, hi326_2, hl326_5, hi326_5⟩ := at_T77 HR0.out x25_2 p326 q326
  cases e326
  replace hx326_0 := zL HB hx326_0
  replace hx326_1 := zL HB hx326_1
  replace hx326_2 := zL HB hx326_2
  replace hx326_3 := zL HB hx326_3
  replace hx326_4 := zL HB hx326_4
  replace hx326_5 := zL HB hx326_5
  have HR326_2 := Aside0.mk hi326_2
  have HC326_2 := Aside0.mk hl326_2
  clear hi326_2 hl326_2
  have HR326_5 := Aside0.mk hi326_5
  have HC326_5 := Aside0.mk hl326_5
  clear hi326_5 hl326_5
  replace p326 := eq_true p326
  replace q326 := eq_true q326
  try go_wp2_with (first | ((with_reducible refine gate_dst (N := 7) rfl ?_); refine bx 7 (#[.int .u32 0, .int .i64 0, .slice none 0 0, .int .i64 0, .int .i64 0, .slice none 0 0]) 77 ?_; intro gb327 hg w19 hbox hb; have n0_ := Aside0.mk (below_step zB hb); have n1_ := Aside0.mk (hbox); have n2_ := Aside0.mk ((zG hg : w.heap.size ≤ gb327)); have n3_ := Aside0.mk ((zG hg : w.heap.size ≤ gb327)); clear HB; have HB := n0_; have BK327 := n1_; have GW327 := n2_; have GE327 := n3_; clear n0_ n1_ n2_ n3_; clear hb hbox hg; have hcz20_0 : w19.cell? ⟨gb327, 0, none⟩ = some (.int .u32 0) := zT BK327 0; have hcz20_1 : w19.cell? ⟨gb327, 1, none⟩ = some (.int .i64 0) := zT BK327 1; have hcz20_2 : w19.cell? ⟨gb327, 2, none⟩ = some (.slice none 0 0) := zT BK327 2; have hcz20_3 : w19.cell? ⟨gb327, 3, none⟩ = some (.int .i64 0) := zT BK327 3; have hcz20_4 : w19.cell? ⟨gb327, 4, none⟩ = some (.int .i64 0) := zT BK327 4; have hcz20_5 : w19.cell? ⟨gb327, 5, none⟩ = some (.slice none 0 0) := zT BK327 5; have hfz20_0 := blk_frozen BK327.out 0; have hfz20_1 := blk_frozen BK327.out 1; have hfz20_2 := blk_frozen BK327.out 2; have hfz20_3 := blk_frozen BK327.out 3; have hfz20_4 := blk_frozen BK327.out 4; have hfz20_5 := blk_frozen BK327.out 5))
  have n0_ : Aside0 (((((((w19.setCell ⟨gb327, 0, none⟩ (.int .u32 ((rd_T77 l0 x25_2).f0.f0))).setCell ⟨gb327, 1, none⟩ (.int .i64 ((rd_T77 l0 x25_2).f0.f1))).setCell ⟨gb327, 2, none⟩ (.slice A326_2 ((rd_T77 l0 x25_2).f1).length c326_2)).setCell ⟨gb327, 3, none⟩ (.int .i64 ((rd_T77 l0 x25_2).f2))).setCell ⟨gb327, 4, none⟩ (.int .i64 ((rd_T77 l0 x25_2).f3))).setCell ⟨gb327, 5, none⟩ (.slice A326_5 ((rd_T77 l0 x25_2).f4).length c326_5)).heap[gb327]? = some (.cells #[.int .u32 ((rd_T77 l0 x25_2).f0.f0), .int .i64 ((rd_T77 l0 x25_2).f0.f1), .slice A326_2 ((rd_T77 l0 x25_2).f1).length c326_2, .int .i64 ((rd_T77 l0 x25_2).f2), .int .i64 ((rd_T77 l0 x25_2).f3), .slice A326_5 ((rd_T77 l0 x25_2).f4).length c326_5] 77 (0, 0))) := ⟨by (with_reducible repeat (first | refine blk_drewN ?_ _ | refine blk_drew ?_ | refine blk_alloc ?_ _)); refine blk_put (cs := #[.int .u32 ((rd_T77 l0 x25_2).f0.f0), .int .i64 ((rd_T77 l0 x25_2).f0.f1), .slice A326_2 ((rd_T77 l0 x25_2).f1).length c326_2, .int .i64 ((rd_T77 l0 x25_2).f2), .int .i64 ((rd_T77 l0 x25_2).f3), .slice none 0 0]) ?_ 5 _ rfl; (with_reducible repeat (first | refine blk_drewN ?_ _ | refine blk_drew ?_ | refine blk_alloc ?_ _)); refine blk_put (cs := #[.int .u32 ((rd_T77 l0 x25_2).f0.f0), .int .i64 ((rd_T77 l0 x25_2).f0.f1), .slice A326_2 ((rd_T77 l0 x25_2).f1).length c326_2, .int .i64 ((rd_T77 l0 x25_2).f2), .int .i64 0, .slice none 0 0]) ?_ 4 _ rfl; (with_reducible repeat (first | refine blk_drewN ?_ _ | refine blk_drew ?_ | refine blk_alloc ?_ _)); refine blk_put (cs := #[.int .u32 ((rd_T77 l0 x25_2).f0.f0), .int .i64 ((rd_T77 l0 x25_2).f0.f1), .slice A326_2 ((rd_T77 l0 x25_2).f1).length c326_2, .int .i64 0, .int .i64 0, .slice none 0 0]) ?_ 3 _ rfl; (with_reducible repeat (first | refine blk_drewN ?_ _ | refine blk_drew ?_ | refine blk_alloc ?_ _)); refine blk_put (cs := #[.int .u32 ((rd_T77 l0 x25_2).f0.f0), .int .i64 ((rd_T77 l0 x25_2).f0.f1), .slice none 0 0, .int .i64 0, .int .i64 0, .slice none 0 0]) ?_ 2 _ rfl; (with_reducible repeat (first | refine blk_drewN ?_ _ | refine blk_drew ?_ | refine blk_alloc ?_ _)); refine blk_put (cs := #[.int .u32 ((rd_T77 l0 x25_2).f0.f0), .int .i64 0, .slice none 0 0, .int .i64 0, .int .i64 0, .slice none 0 0]) ?_ 1 _ rfl; (with_reducible repeat (first | refine blk_drewN ?_ _ | refine blk_drew ?_ | refine blk_alloc ?_ _)); refine blk_put (cs := #[.int .u32 0, .int .i64 0, .slice none 0 0, .int .i64 0, .int .i64 0, .slice none 0 0]) ?_ 0 _ rfl; (with_reducible repeat (first | refine blk_drewN ?_ _ | refine blk_drew ?_ | refine blk_alloc ?_ _)); exact BK327.out⟩
  have n1_ : Aside0 (Below w.heap.size w ((((((w19.setCell ⟨gb327, 0, none⟩ (.int .u32 ((rd_T77 l0 x25_2).f0.f0))).setCell ⟨gb327, 1, none⟩ (.int .i64 ((rd_T77 l0 x25_2).f0.f1))).setCell ⟨gb327, 2, none⟩ (.slice A326_2 ((rd_T77 l0 x25_2).f1).length c326_2)).setCell ⟨gb327, 3, none⟩ (.int .i64 ((rd_T77 l0 x25_2).f2))).setCell ⟨gb327, 4, none⟩ (.int .i64 ((rd_T77 l0 x25_2).f3))).setCell ⟨gb327, 5, none⟩ (.slice A326_5 ((rd_T77 l0 x25_2).f4).length c326_5))) := ⟨zB⟩
  (try clear BK327)
  (try clear HB)
  generalize ((((((w19.setCell ⟨gb327, 0, none⟩ (.int .u32 ((rd_T77 l0 x25_2).f0.f0))).setCell ⟨gb327, 1, none⟩ (.int .i64 ((rd_T77 l0 x25_2).f0.f1))).setCell ⟨gb327, 2, none⟩ (.slice A326_2 ((rd_T77 l0 x25_2).f1).length c326_2)).setCell ⟨gb327, 3, none⟩ (.int .i64 ((rd_T77 l0 x25_2).f2))).setCell ⟨gb327, 4, none⟩ (.int .i64 ((rd_T77 l0 x25_2).f3))).setCell ⟨gb327, 5, none⟩ (.slice A326_5 ((rd_T77 l0 x25_2).f4).length c326_5)) = w21 at n0_ n1_ ⊢
  have BK327 := n0_
  have HB := n1_
  clear n0_ n1_
  have n0_ := Aside0.mk (blk_drew BK327.out)
  have n1_ := Aside0.mk (below_drew1 HB.out)
  clear BK327
  clear HB
  have BK327 := n0_
  have HB := n1_
  clear n0_ n1_
  have p328 : 0 ≤ (0 : Int) := (by omega)
  have q328 : 0 < (l0.length : Int) := od
  obtain ⟨ad328, A328_2, c328_2, A328_5, c328_5, e328, hx328_0, hx328_1, hx328_2, hx328_3, hx328_4, hx328_5, hl328_2, hi328_2, hl328_5, hi328_5⟩ := at_T77 HR0.out 0 p328 q328
  have hw328_5 := hx328_5
  (try rw [show ((0 : Int)).toNat = 0 from rfl] at hw328_5)
  (try rw [show 0 * 6 = 0 from rfl] at hw328_5)
  (try rw [Addr.add_zero'] at hw328_5)
  have hw328_4 := hx328_4
  (try rw [show ((0 : Int)).toNat = 0 from rfl] at hw328_4)
  (try rw [show 0 * 6 = 0 from rfl] at hw328_4)
  (try rw [Addr.add_zero'] at hw328_4)
  have hw328_3 := hx328_3
  (try rw [show ((0 : Int)).toNat = 0 from rfl] at hw328_3)
  (try rw [show 0 * 6 = 0 from rfl] at hw328_3)
  (try rw [Addr.add_zero'] at hw328_3)
  have hw328_2 := hx328_2
  (try rw [show ((0 : Int)).toNat = 0 from rfl] at hw328_2)
  (try rw [show 0 * 6 = 0 from rfl] at hw328_2)
  (try rw [Addr.add_zero'] at hw328_2)
  have hw328_1 := hx328_1
  (try rw [show ((0 : Int)).toNat = 0 from rfl] at hw328_1)
  (try rw [show 0 * 6 = 0 from rfl] at hw328_1)
  (try rw [Addr.add_zero'] at hw328_1)
  have hw328_0 := hx328_0
  (try rw [show ((0 : Int)).toNat = 0 from rfl] at hw328_0)
  (try rw [show 0 * 6 = 0 from rfl] at hw328_0)
  (try rw [Addr.add_zero'] at hw328_0)
  obtain rfl : ad326 = ad328 := (by injection e328)
  have qi328 : (0 < l0.length) = True := eq_true (by omega)
  (try rw [show ((0 : Int)).toNat = 0 from rfl] at hx328_0)
  (try rw [show 0 * 6 = 0 from rfl] at hx328_0)
  (try rw [Addr.add_zero'] at hx328_0)
  (try rw [show ((0 : Int)).toNat = 0 from rfl] at hx328_1)
  (try rw [show 0 * 6 = 0 from rfl] at hx328_1)
  (try rw [Addr.add_zero'] at hx328_1)
  (try rw [show ((0 : Int)).toNat = 0 from rfl] at hx328_2)
  (try rw [show 0 * 6 = 0 from rfl] at hx328_2)
  (try rw [Addr.add_zero'] at hx328_2)
  (try rw [show ((0 : Int)).toNat = 0 from rfl] at hx328_3)
  (try rw [show 0 * 6 = 0 from rfl] at hx328_3)
  (try rw [Addr.add_zero'] at hx328_3)
  (try rw [show ((0 : Int)).toNat = 0 from rfl] at hx328_4)
  (try rw [show 0 * 6 = 0 from rfl] at hx328_4)
  (try rw [Addr.add_zero'] at hx328_4)
  (try rw [show ((0 : Int)).toNat = 0 from rfl] at hx328_5)
  (try rw [show 0 * 6 = 0 from rfl] at hx328_5)
  (try rw [Addr.add_zero'] at hx328_5)
  replace hx328_0 := zL HB hx328_0
  replace hx328_1 := zL HB hx328_1
  replace hx328_2 := zL HB hx328_2
  replace hx328_3 := zL HB hx328_3
  replace hx328_4 := zL HB hx328_4
  replace hx328_5 := zL HB hx328_5
  have HR328_2 := Aside0.mk hi328_2
  have HC328_2 := Aside0.mk hl328_2
  clear hi328_2 hl328_2
  have HR328_5 := Aside0.mk hi328_5
  have HC328_5 := Aside0.mk hl328_5
  clear hi328_5 hl328_5
  replace p328 := eq_true p328
  replace q328 := eq_true q328
  refine start_ (n := 7) (S := fun w' => w'.cell? ⟨gb327, 0, none⟩ = some (.int .u32 ((rd_T77 l0 x25_2).f0.f0)) ∧ w'.cell? ⟨gb327, 1, none⟩ = some (.int .i64 ((rd_T77 l0 x25_2).f0.f1)) ∧ w'.cell? ⟨gb327, 2, none⟩ = some (.slice A326_2 ((rd_T77 l0 x25_2).f1).length c326_2) ∧ w'.cell? ⟨gb327, 3, none⟩ = some (.int .i64 ((rd_T77 l0 x25_2).f2)) ∧ w'.cell? ⟨gb327, 4, none⟩ = some (.int .i64 ((rd_T77 l0 x25_2).f3)) ∧ w'.cell? ⟨gb327, 5, none⟩ = some (.slice A326_5 ((rd_T77 l0 x25_2).f4).length c326_5) ∧ w'.cell? ad326 = some (.int .u32 ((rd_T77 l0 0).f0.f0)) ∧ w'.cell? ⟨ad326.block, ad326.off + 1, none⟩ = some (.int .i64 ((rd_T77 l0 0).f0.f1)) ∧ w'.cell? ⟨ad326.block, ad326.off + 2, none⟩ = some (.slice A328_2 ((rd_T77 l0 0).f1).length c328_2) ∧ w'.cell? ⟨ad326.block, ad326.off + 3, none⟩ = some (.int .i64 ((rd_T77 l0 0).f2)) ∧ w'.cell? ⟨ad326.block, ad326.off + 4, none⟩ = some (.int .i64 ((rd_T77 l0 0).f3)) ∧ w'.cell? ⟨ad326.block, ad326.off + 5, none⟩ = some (.slice A328_5 ((rd_T77 l0 0).f4).length c328_5)) (ds := []) (bm 7 0) (by kernel_rfl) rfl rfl ⟨zT BK327 0, zT BK327 1, zT BK327 2, zT BK327 3, zT BK327 4, zT BK327 5, (zL HB hw328_0), (zL HB hw328_1), (zL HB hw328_2), (zL HB hw328_3), (zL HB hw328_4), (zL HB hw328_5)⟩ (fun hHeld => ?_)
  generalize w21.drew = w22 at BK327 HB HR328_2 HR328_5 hx328_0 hx328_1 hx328_2 hx328_3 hx328_4 hx328_5 hHeld ⊢
  refine pv 0 (some 29) (bm 7 1) ?_
  refine pv 2 (some 31) (bm 7 5) ?_
  refine pv 3 (some 32) (bm 7 13) ?_
  refine pv 4 (some 33) (bm 7 29) ?_
  refine tv 1 (some 30) (bm 7 31) hHeld ?_
  refine tv 5 (some 34) (bm 7 63) hHeld ?_
  refine pv 6 (some 35) (bm 7 127) ?_
  refine done_ (by kernel_rfl) ?_
  try go_wp2
  go_ret
  exact ⟨zE, zB⟩
 rw [if_neg c18] at H
 have c18b0 : (!(((rd_T77 l0 x25_2).f0.f0) == ((rd_T77 l0 0).f0.f0)) || (!(((rd_T77 l0 x25_2).f0.f1) == ((rd_T77 l0 0).f0.f1)))) = false := by simpa using c18
 clear c18
 have H' := Aside0.mk H
 clear H
 have p326 : 0 ≤ (x25_2 : Int) := od
 have q326 : x25_2 < (l0.length : Int) := od
 obtain ⟨ad326, A326_2, c326_2, A326_5, c326_5, e326, hx326_0, hx326_1, hx326_2, hx326_3, hx326_4, hx326_5, hl326_2, hi326_2, hl326_5, hi326_5⟩ := at_T77 HR0.out x25_2 p326 q326
 cases e326
 replace hx326_0 := zL HB hx326_0
 replace hx326_1 := zL HB hx326_1
 replace hx326_2 := zL HB hx326_2
 replace hx326_3 := zL HB hx326_3
 replace hx326_4 := zL HB hx326_4
 replace hx326_5 := zL HB hx326_5
 have HR326_2 := Aside0.mk hi326_2
 have HC326_2 := Aside0.mk hl326_2
 clear hi326_2 hl326_2
 have HR326_5 := Aside0.mk hi326_5
 have HC326_5 := Aside0.mk hl326_5
 clear hi326_5 hl326_5
 replace p326 := eq_true p326
 replace q326 := eq_true q326
 try go_wp2_with (first | ((with_reducible refine gate_dst (N := 7) rfl ?_); refine bx 7 (#[.int .u32 0, .int .i64 0, .slice none 0 0, .int .i64 0, .int .i64 0, .slice none 0 0]) 77 ?_; intro gb327 hg w23 hbox hb; have n0_ := Aside0.mk (below_step zB hb); have n1_ := Aside0.mk (hbox); have n2_ := Aside0.mk ((zG hg : w.heap.size ≤ gb327)); have n3_ := Aside0.mk ((zG hg : w.heap.size ≤ gb327)); clear HB; have HB := n0_; have BK327 := n1_; have GW327 := n2_; have GE327 := n3_; clear n0_ n1_ n2_ n3_; clear hb hbox hg; have hcz24_0 : w23.cell? ⟨gb327, 0, none⟩ = some (.int .u32 0) := zT BK327 0; have hcz24_1 : w23.cell? ⟨gb327, 1, none⟩ = some (.int .i64 0) := zT BK327 1; have hcz24_2 : w23.cell? ⟨gb327, 2, none⟩ = some (.slice none 0 0) := zT BK327 2; have hcz24_3 : w23.cell? ⟨gb327, 3, none⟩ = some (.int .i64 0) := zT BK327 3; have hcz24_4 : w23.cell? ⟨gb327, 4, none⟩ = some (.int .i64 0) := zT BK327 4; have hcz24_5 : w23.cell? ⟨gb327, 5, none⟩ = some (.slice none 0 0) := zT BK327 5; have hfz24_0 := blk_frozen BK327.out 0; have hfz24_1 := blk_frozen BK327.out 1; have hfz24_2 := blk_frozen BK327.out 2; have hfz24_3 := blk_frozen BK327.out 3; have hfz24_4 := blk_frozen BK327.out 4; have hfz24_5 := blk_frozen BK327.out 5))
 have n0_ : Aside0 (((((((w23.setCell ⟨gb327, 0, none⟩ (.int .u32 ((rd_T77 l0 x25_2).f0.f0))).setCell ⟨gb327, 1, none⟩ (.int .i64 ((rd_T77 l0 x25_2).f0.f1))).setCell ⟨gb327, 2, none⟩ (.slice A326_2 ((rd_T77 l0 x25_2).f1).length c326_2)).setCell ⟨gb327, 3, none⟩ (.int .i64 ((rd_T77 l0 x25_2).f2))).setCell ⟨gb327, 4, none⟩ (.int .i64 ((rd_T77 l0 x25_2).f3))).setCell ⟨gb327, 5, none⟩ (.slice A326_5 ((rd_T77 l0 x25_2).f4).length c326_5)).heap[gb327]? = some (.cells #[.int .u32 ((rd_T77 l0 x25_2).f0.f0), .int .i64 ((rd_T77 l0 x25_2).f0.f1), .slice A326_2 ((rd_T77 l0 x25_2).f1).length c326_2, .int .i64 ((rd_T77 l0 x25_2).f2), .int .i64 ((rd_T77 l0 x25_2).f3), .slice A326_5 ((rd_T77 l0 x25_2).f4).length c326_5] 77 (0, 0))) := ⟨by (with_reducible repeat (first | refine blk_drewN ?_ _ | refine blk_drew ?_ | refine blk_alloc ?_ _)); refine blk_put (cs := #[.int .u32 ((rd_T77 l0 x25_2).f0.f0), .int .i64 ((rd_T77 l0 x25_2).f0.f1), .slice A326_2 ((rd_T77 l0 x25_2).f1).length c326_2, .int .i64 ((rd_T77 l0 x25_2).f2), .int .i64 ((rd_T77 l0 x25_2).f3), .slice none 0 0]) ?_ 5 _ rfl; (with_reducible repeat (first | refine blk_drewN ?_ _ | refine blk_drew ?_ | refine blk_alloc ?_ _)); refine blk_put (cs := #[.int .u32 ((rd_T77 l0 x25_2).f0.f0), .int .i64 ((rd_T77 l0 x25_2).f0.f1), .slice A326_2 ((rd_T77 l0 x25_2).f1).length c326_2, .int .i64 ((rd_T77 l0 x25_2).f2), .int .i64 0, .slice none 0 0]) ?_ 4 _ rfl; (with_reducible repeat (first | refine blk_drewN ?_ _ | refine blk_drew ?_ | refine blk_alloc ?_ _)); refine blk_put (cs := #[.int .u32 ((rd_T77 l0 x25_2).f0.f0), .int .i64 ((rd_T77 l0 x25_2).f0.f1), .slice A326_2 ((rd_T77 l0 x25_2).f1).length c326_2, .int .i64 0, .int .i64 0, .slice none 0 0]) ?_ 3 _ rfl; (with_reducible repeat (first | refine blk_drewN ?_ _ | refine blk_drew ?_ | refine blk_alloc ?_ _)); refine blk_put (cs := #[.int .u32 ((rd_T77 l0 x25_2).f0.f0), .int .i64 ((rd_T77 l0 x25_2).f0.f1), .slice none 0 0, .int .i64 0, .int .i64 0, .slice none 0 0]) ?_ 2 _ rfl; (with_reducible repeat (first | refine blk_drewN ?_ _ | refine blk_drew ?_ | refine blk_alloc ?_ _)); refine blk_put (cs := #[.int .u32 ((rd_T77 l0 x25_2).f0.f0), .int .i64 0, .slice none 0 0, .int .i64 0, .int .i64 0, .slice none 0 0]) ?_ 1 _ rfl; (with_reducible repeat (first | refine blk_drewN ?_ _ | refine blk_drew ?_ | refine blk_alloc ?_ _)); refine blk_put (cs := #[.int .u32 0, .int .i64 0, .slice none 0 0, .int .i64 0, .int .i64 0, .slice none 0 0]) ?_ 0 _ rfl; (with_reducible repeat (first | refine blk_drewN ?_ _ | refine blk_drew ?_ | refine blk_alloc ?_ _)); exact BK327.out⟩
 have n1_ : Aside0 (Below w.heap.size w ((((((w23.setCell ⟨gb327, 0, none⟩ (.int .u32 ((rd_T77 l0 x25_2).f0.f0))).setCell ⟨gb327, 1, none⟩ (.int .i64 ((rd_T77 l0 x25_2).f0.f1))).setCell ⟨gb327, 2, none⟩ (.slice A326_2 ((rd_T77 l0 x25_2).f1).length c326_2)).setCell ⟨gb327, 3, none⟩ (.int .i64 ((rd_T77 l0 x25_2).f2))).setCell ⟨gb327, 4, none⟩ (.int .i64 ((rd_T77 l0 x25_2).f3))).setCell ⟨gb327, 5, none⟩ (.slice A326_5 ((rd_T77 l0 x25_2).f4).length c326_5))) := ⟨zB⟩
 (try clear BK327)
 (try clear HB)
 generalize ((((((w23.setCell ⟨gb327, 0, none⟩ (.int .u32 ((rd_T77 l0 x25_2).f0.f0))).setCell ⟨gb327, 1, none⟩ (.int .i64 ((rd_T77 l0 x25_2).f0.f1))).setCell ⟨gb327, 2, none⟩ (.slice A326_2 ((rd_T77 l0 x25_2).f1).length c326_2)).setCell ⟨gb327, 3, none⟩ (.int .i64 ((rd_T77 l0 x25_2).f2))).setCell ⟨gb327, 4, none⟩ (.int .i64 ((rd_T77 l0 x25_2).f3))).setCell ⟨gb327, 5, none⟩ (.slice A326_5 ((rd_T77 l0 x25_2).f4).length c326_5)) = w25 at n0_ n1_ ⊢
 have BK327 := n0_
 have HB := n1_
 clear n0_ n1_
 have n0_ := Aside0.mk (blk_drew BK327.out)
 have n1_ := Aside0.mk (below_drew1 HB.out)
 clear BK327
 clear HB
 have BK327 := n0_
 have HB := n1_
 clear n0_ n1_
 have p328 : 0 ≤ (0 : Int) := (by omega)
 have q328 : 0 < (l0.length : Int) := od
 obtain ⟨ad328, A328_2, c328_2, A328_5, c328_5, e328, hx328_0, hx328_1, hx328_2, hx328_3, hx328_4, hx328_5, hl328_2, hi328_2, hl328_5, hi328_5⟩ := at_T77 HR0.out 0 p328 q328
 have hw328_5 := hx328_5
 (try rw [show ((0 : Int)).toNat = 0 from rfl] at hw328_5)
 (try rw [show 0 * 6 = 0 from rfl] at hw328_5)
 (try rw [Addr.add_zero'] at hw328_5)
 have hw328_4 := hx328_4
 (try rw [show ((0 : Int)).toNat = 0 from rfl] at hw328_4)
 (try rw [show 0 * 6 = 0 from rfl] at hw328_4)
 (try rw [Addr.add_zero'] at hw328_4)
 have hw328_3 := hx328_3
 (try rw [show ((0 : Int)).toNat = 0 from rfl] at hw328_3)
 (try rw [show 0 * 6 = 0 from rfl] at hw328_3)
 (try rw [Addr.add_zero'] at hw328_3)
 have hw328_2 := hx328_2
 (try rw [show ((0 : Int)).toNat = 0 from rfl] at hw328_2)
 (try rw [show 0 * 6 = 0 from rfl] at hw328_2)
 (try rw [Addr.add_zero'] at hw328_2)
 have hw328_1 := hx328_1
 (try rw [show ((0 : Int)).toNat = 0 from rfl] at hw328_1)
 (try rw [show 0 * 6 = 0 from rfl] at hw328_1)
 (try rw [Addr.add_zero'] at hw328_1)
 have hw328_0 := hx328_0
 (try rw [show ((0 : Int)).toNat = 0 from rfl] at hw328_0)
 (try rw [show 0 * 6 = 0 from rfl] at hw328_0)
 (try rw [Addr.add_zero'] at hw328_0)
 obtain rfl : ad326 = ad328 := (by injection e328)
 have qi328 : (0 < l0.length) = True := eq_true (by omega)
 (try rw [show ((0 : Int)).toNat = 0 from rfl] at hx328_0)
 (try rw [show 0 * 6 = 0 from rfl] at hx328_0)
 (try rw [Addr.add_zero'] at hx328_0)
 (try rw [show ((0 : Int)).toNat = 0 from rfl] at hx328_1)
 (try rw [show 0 * 6 = 0 from rfl] at hx328_1)
 (try rw [Addr.add_zero'] at hx328_1)
 (try rw [show ((0 : Int)).toNat = 0 from rfl] at hx328_2)
 (try rw [show 0 * 6 = 0 from rfl] at hx328_2)
 (try rw [Addr.add_zero'] at hx328_2)
 (try rw [show ((0 : Int)).toNat = 0 from rfl] at hx328_3)
 (try rw [show 0 * 6 = 0 from rfl] at hx328_3)
 (try rw [Addr.add_zero'] at hx328_3)
 (try rw [show ((0 : Int)).toNat = 0 from rfl] at hx328_4)
 (try rw [show 0 * 6 = 0 from rfl] at hx328_4)
 (try rw [Addr.add_zero'] at hx328_4)
 (try rw [show ((0 : Int)).toNat = 0 from rfl] at hx328_5)
 (try rw [show 0 * 6 = 0 from rfl] at hx328_5)
 (try rw [Addr.add_zero'] at hx328_5)
 replace hx328_0 := zL HB hx328_0
 replace hx328_1 := zL HB hx328_1
 replace hx328_2 := zL HB hx328_2
 replace hx328_3 := zL HB hx328_3
 replace hx328_4 := zL HB hx328_4
 replace hx328_5 := zL HB hx328_5
 have HR328_2 := Aside0.mk hi328_2
 have HC328_2 := Aside0.mk hl328_2
 clear hi328_2 hl328_2
 have HR328_5 := Aside0.mk hi328_5
 have HC328_5 := Aside0.mk hl328_5
 clear hi328_5 hl328_5
 replace p328 := eq_true p328
 replace q328 := eq_true q328
 refine start_ (n := 7) (S := fun w' => w'.cell? ⟨gb327, 0, none⟩ = some (.int .u32 ((rd_T77 l0 x25_2).f0.f0)) ∧ w'.cell? ⟨gb327, 1, none⟩ = some (.int .i64 ((rd_T77 l0 x25_2).f0.f1)) ∧ w'.cell? ⟨gb327, 2, none⟩ = some (.slice A326_2 ((rd_T77 l0 x25_2).f1).length c326_2) ∧ w'.cell? ⟨gb327, 3, none⟩ = some (.int .i64 ((rd_T77 l0 x25_2).f2)) ∧ w'.cell? ⟨gb327, 4, none⟩ = some (.int .i64 ((rd_T77 l0 x25_2).f3)) ∧ w'.cell? ⟨gb327, 5, none⟩ = some (.slice A326_5 ((rd_T77 l0 x25_2).f4).length c326_5) ∧ w'.cell? ad326 = some (.int .u32 ((rd_T77 l0 0).f0.f0)) ∧ w'.cell? ⟨ad326.block, ad326.off + 1, none⟩ = some (.int .i64 ((rd_T77 l0 0).f0.f1)) ∧ w'.cell? ⟨ad326.block, ad326.off + 2, none⟩ = some (.slice A328_2 ((rd_T77 l0 0).f1).length c328_2) ∧ w'.cell? ⟨ad326.block, ad326.off + 3, none⟩ = some (.int .i64 ((rd_T77 l0 0).f2)) ∧ w'.cell? ⟨ad326.block, ad326.off + 4, none⟩ = some (.int .i64 ((rd_T77 l0 0).f3)) ∧ w'.cell? ⟨ad326.block, ad326.off + 5, none⟩ = some (.slice A328_5 ((rd_T77 l0 0).f4).length c328_5)) (ds := []) (bm 7 0) (by kernel_rfl) rfl rfl ⟨zT BK327 0, zT BK327 1, zT BK327 2, zT BK327 3, zT BK327 4, zT BK327 5, (zL HB hw328_0), (zL HB hw328_1), (zL HB hw328_2), (zL HB hw328_3), (zL HB hw328_4), (zL HB hw328_5)⟩ (fun hHeld => ?_)
 generalize w25.drew = w26 at BK327 HB HR328_2 HR328_5 hx328_0 hx328_1 hx328_2 hx328_3 hx328_4 hx328_5 hHeld ⊢
 refine pv 0 (some 29) (bm 7 1) ?_
 refine pv 2 (some 31) (bm 7 5) ?_
 refine pv 3 (some 32) (bm 7 13) ?_
 refine pv 4 (some 33) (bm 7 29) ?_
 refine tv 1 (some 30) (bm 7 31) hHeld ?_
 refine tv 5 (some 34) (bm 7 63) hHeld ?_
 refine pv 6 (some 35) (bm 7 127) ?_
 refine done_ (by kernel_rfl) ?_
 try go_wp2
 go_roundg k2
 case measure => have := HK1.out; have := HK2.out; omega
 case rel => exact ⟨(wrap64 (x25_2 + 1)), zR, H', ⟨by have := HK1.out; have := HK2.out; omega⟩, ⟨zB⟩⟩
/-! ### best_steps: function 48 -/
def best_steps.f  : Option (List Int) := some (([54, 56, 57, 59] : List Int))
set_option maxHeartbeats 8000000 in
set_option maxRecDepth 100000 in
theorem best_steps.calls  (r : List Int) (w : World) (h : best_steps.f  = some r) :
 Calls Try.prog 48 #[] w fun e w' => ∃ v0_ : Value, e = .returned (v0_) ∧ Kd.R Kd.fn 96 w' w.heap.size (fun _ => True) v0_ r ∧ Below w.heap.size w w' := by
 have HB := Aside0.mk (Below.refl w.heap.size w)
 have H : (some (([54, 56, 57, 59] : List Int))) = some r := h
 clear h
 obtain ⟨y333, hy333⟩ : ∃ y_ : List Int, y_ = (([54, 56, 57, 59] : List Int)) := ⟨_, rfl⟩
 replace H : (some y333) = some r := by first | (rw [hy333]; with_reducible exact H) | (have H2_ := (Option.bind_some _ _).symm.trans H; rw [hy333]; with_reducible exact H2_) | (have H2_ := (Option.bind_some _ _).symm.trans H; with_reducible exact H2_) | with_reducible exact H | (rw [hy333]; exact H) | exact H
 have Ny333 := Aside0.mk hy333
 clear hy333
 obtain rfl := Option.some.inj H
 go_enter Try.func48, Try.ntmps48
 go_wp2_with (first | ((with_reducible refine gate_dst (N := 1) rfl ?_); refine Kd.R_lit Kd.fn _ 96 ?hg (N := 1) ?hd (xs := ([54, 56, 57, 59] : List Int)) (inner := [.func (.func 54) #[] #[], .func (.func 56) #[] #[], .func (.func 57) #[] #[], .func (.func 59) #[] #[]]) (ok := fun _ => True) (okp := fun _ => True) ?hr ?hp (fun _ hk => hk) trivial (Below.refl _ _) (Nat.le_refl _) (by simp) ?_; (case hd => rfl); (case hg => rfl); (case hr => first | (go_simp; done) | (go_simp; rfl)); (case hp => exact (Reps.one (show Kd.M Kd.fn _ _ _ 54 [.func (.func 54) #[] #[]] from rfl) (Reps.one (show Kd.M Kd.fn _ _ _ 56 [.func (.func 56) #[] #[]] from rfl) (Reps.one (show Kd.M Kd.fn _ _ _ 57 [.func (.func 57) #[] #[]] from rfl) (Reps.one (show Kd.M Kd.fn _ _ _ 59 [.func (.func 59) #[] #[]] from rfl) (Reps.none _ _)))))); intro v334 w1 ho2 hb hg_ hnew_; clear hg_ hnew_; (first | rw [← Ny333.out] at ho2 | (simp only [Int.reduceToNat] at ho2; rw [← Ny333.out] at ho2)); have n0_ := Aside0.mk (Kd.R_lower ho2 (below_size zB)); have n1_ := Aside0.mk (below_step zB hb); clear HB; have HO335 := n0_; have HB := n1_; clear n0_ n1_; clear hb ho2))
 go_ret
 exact ⟨_, zE, by (with_reducible repeat (first | apply Kd.R_alloc | apply Kd.R_drewN | apply Kd.R_drew)); exact HO335.out, zB⟩
/-! ### g31_: function 67 -/
def g31_.f (a0 : Int) : Option (Bool) := some (a0 != a0)
set_option maxHeartbeats 8000000 in
set_option maxRecDepth 100000 in
theorem g31_.calls (a0 : Int) (r : Bool) (w : World) (h : g31_.f a0 = some r) :
 Calls Try.prog 67 #[.int .i64 a0] w fun e w' => e = .returned (.bool r) ∧ Drawn0 w w' := by
 have H : (some (a0 != a0)) = some r := h
 clear h
 obtain rfl := Option.some.inj H
 go_enter Try.func67, Try.ntmps67
 go_wp2
 go_ret
 exact ⟨zR, by repeat (first | exact Drawn0.refl _ | apply Drawn0.step)⟩
/-! ### g33_: function 55 -/
def g33_.f (a0 : Int) (a1 : Int) : Option (Int) := (g31_.f a0).bind fun t345 => ((g31_.f a1).bind fun t346 => (if t345 = true then (if t346 = true then (some 0) else (some (-1))) else (if t346 = true then (some 1) else (if a0 < a1 then (some (-1)) else (if a0 > a1 then (some 1) else (some 0))))))
set_option maxHeartbeats 8000000 in
set_option maxRecDepth 100000 in
theorem g33_.calls (a0 : Int) (a1 : Int) (r : Int) (w : World) (h : g33_.f a0 a1 = some r) :
 Calls Try.prog 55 #[.int .i64 a0, .int .i64 a1] w fun e w' => e = .returned (.int .i64 r) ∧ Drawn0 w w' := by
 have H : ((g31_.f a0).bind fun t345 => ((g31_.f a1).bind fun t346 => (if t345 = true then (if t346 = true then (some 0) else (some (-1))) else (if t346 = true then (some 1) else (if a0 < a1 then (some (-1)) else (if a0 > a1 then (some 1) else (some 0))))))) = some r := h
 clear h
 replace H := Option.bind_eq_some_iff.mp H
 obtain ⟨t345, A30, H⟩ := H
 replace H : ((g31_.f a1).bind fun t346 => (if t345 = true then (if t346 = true then (some 0) else (some (-1))) else (if t346 = true then (some 1) else (if a0 < a1 then (some (-1)) else (if a0 > a1 then (some 1) else (some 0)))))) = some r := H
 have A3 := Aside0.mk A30
 clear A30
 replace H := Option.bind_eq_some_iff.mp H
 obtain ⟨t346, A40, H⟩ := H
 replace H : (if t345 = true then (if t346 = true then (some 0) else (some (-1))) else (if t346 = true then (some 1) else (if a0 < a1 then (some (-1)) else (if a0 > a1 then (some 1) else (some 0))))) = some r := H
 have A4 := Aside0.mk A40
 clear A40
 by_cases c5 : t345 = true
 ·
  subst c5
  have H1 : (if t346 = true then (some 0) else (some (-1))) = some r := by rw [if_pos rfl] at H; exact H
  clear H
  have H := H1
  clear H1
  by_cases c6 : t346 = true
  ·
   subst c6
   have H1 : (some 0) = some r := by rw [if_pos rfl] at H; exact H
   clear H
   have H := H1
   clear H1
   obtain rfl := Option.some.inj H
   go_enter Try.func55, Try.ntmps55
   go_wp2_with (first | ((with_reducible refine gate_callee (f := 67) rfl ?_); refine goesL_ (some 8) rfl rfl Try.func67 (by kernel_rfl) rfl #[.int .i64 a0] rfl zM ?_; (with_reducible refine (g31_.calls a0 true _ A3.out).mono ?_); rintro e w' ⟨rfl, ⟨nd, rfl⟩⟩; refine ⟨_, rfl, ?_⟩) | ((with_reducible refine gate_callee (f := 67) rfl ?_); refine goesL_ (some 10) rfl rfl Try.func67 (by kernel_rfl) rfl #[.int .i64 a1] rfl zM ?_; (with_reducible refine (g31_.calls a1 true _ A4.out).mono ?_); rintro e w' ⟨rfl, ⟨nd, rfl⟩⟩; refine ⟨_, rfl, ?_⟩))
   go_ret
   exact ⟨zR, by repeat (first | exact Drawn0.refl _ | apply Drawn0.step)⟩
  replace c6 := Bool.eq_false_iff.mpr c6
  subst c6
  have H1 : (some (-1)) = some r := by rw [if_neg (show ¬ (false = true) by decide)] at H; exact H
  clear H
  have H := H1
  clear H1
  obtain rfl := Option.some.inj H
  go_enter Try.func55, Try.ntmps55
  go_wp2_with (first | ((with_reducible refine gate_callee (f := 67) rfl ?_); refine goesL_ (some 8) rfl rfl Try.func67 (by kernel_rfl) rfl #[.int .i64 a0] rfl zM ?_; (with_reducible refine (g31_.calls a0 true _ A3.out).mono ?_); rintro e w' ⟨rfl, ⟨nd, rfl⟩⟩; refine ⟨_, rfl, ?_⟩) | ((with_reducible refine gate_callee (f := 67) rfl ?_); refine goesL_ (some 10) rfl rfl Try.func67 (by kernel_rfl) rfl #[.int .i64 a1] rfl zM ?_; (with_reducible refine (g31_.calls a1 false _ A4.out).mono ?_); rintro e w' ⟨rfl, ⟨nd, rfl⟩⟩; refine ⟨_, rfl, ?_⟩))
  go_ret
  exact ⟨zR, by repeat (first | exact Drawn0.refl _ | apply Drawn0.step)⟩
 replace c5 := Bool.eq_false_iff.mpr c5
 subst c5
 have H1 : (if t346 = true then (some 1) else (if a0 < a1 then (some (-1)) else (if a0 > a1 then (some 1) else (some 0)))) = some r := by rw [if_neg (show ¬ (false = true) by decide)] at H; exact H
 clear H
 have H := H1
 clear H1
 by_cases c7 : t346 = true
 ·
  subst c7
  have H1 : (some 1) = some r := by rw [if_pos rfl] at H; exact H
  clear H
  have H := H1
  clear H1
  obtain rfl := Option.some.inj H
  go_enter Try.func55, Try.ntmps55
  go_wp2_with (first | ((with_reducible refine gate_callee (f := 67) rfl ?_); refine goesL_ (some 8) rfl rfl Try.func67 (by kernel_rfl) rfl #[.int .i64 a0] rfl zM ?_; (with_reducible refine (g31_.calls a0 false _ A3.out).mono ?_); rintro e w' ⟨rfl, ⟨nd, rfl⟩⟩; refine ⟨_, rfl, ?_⟩) | ((with_reducible refine gate_callee (f := 67) rfl ?_); refine goesL_ (some 10) rfl rfl Try.func67 (by kernel_rfl) rfl #[.int .i64 a1] rfl zM ?_; (with_reducible refine (g31_.calls a1 true _ A4.out).mono ?_); rintro e w' ⟨rfl, ⟨nd, rfl⟩⟩; refine ⟨_, rfl, ?_⟩))
  go_ret
  exact ⟨zR, by repeat (first | exact Drawn0.refl _ | apply Drawn0.step)⟩
 replace c7 := Bool.eq_false_iff.mpr c7
 subst c7
 have H1 : (if a0 < a1 then (some (-1)) else (if a0 > a1 then (some 1) else (some 0))) = some r := by rw [if_neg (show ¬ (false = true) by decide)] at H; exact H
 clear H
 have H := H1
 clear H1
 by_cases c8 : a0 < a1
 ·
  rw [if_pos c8] at H
  have c8b0 : decide (a0 < a1) = true := decide_eq_true c8
  clear c8
  obtain rfl := Option.some.inj H
  go_enter Try.func55, Try.ntmps55
  go_wp2_with (first | ((with_reducible refine gate_callee (f := 67) rfl ?_); refine goesL_ (some 8) rfl rfl Try.func67 (by kernel_rfl) rfl #[.int .i64 a0] rfl zM ?_; (with_reducible refine (g31_.calls a0 false _ A3.out).mono ?_); rintro e w' ⟨rfl, ⟨nd, rfl⟩⟩; refine ⟨_, rfl, ?_⟩) | ((with_reducible refine gate_callee (f := 67) rfl ?_); refine goesL_ (some 10) rfl rfl Try.func67 (by kernel_rfl) rfl #[.int .i64 a1] rfl zM ?_; (with_reducible refine (g31_.calls a1 false _ A4.out).mono ?_); rintro e w' ⟨rfl, ⟨nd, rfl⟩⟩; refine ⟨_, rfl, ?_⟩))
  go_ret
  exact ⟨zR, by repeat (first | exact Drawn0.refl _ | apply Drawn0.step)⟩
 rw [if_neg c8] at H
 have c8b0 : decide (a0 < a1) = false := decide_eq_false c8
 clear c8
 by_cases c9 : a0 > a1
 ·
  rw [if_pos c9] at H
  have c9b0 : decide (a1 < a0) = true := decide_eq_true c9
  clear c9
  obtain rfl := Option.some.inj H
  go_enter Try.func55, Try.ntmps55
  go_wp2_with (first | ((with_reducible refine gate_callee (f := 67) rfl ?_); refine goesL_ (some 8) rfl rfl Try.func67 (by kernel_rfl) rfl #[.int .i64 a0] rfl zM ?_; (with_reducible refine (g31_.calls a0 false _ A3.out).mono ?_); rintro e w' ⟨rfl, ⟨nd, rfl⟩⟩; refine ⟨_, rfl, ?_⟩) | ((with_reducible refine gate_callee (f := 67) rfl ?_); refine goesL_ (some 10) rfl rfl Try.func67 (by kernel_rfl) rfl #[.int .i64 a1] rfl zM ?_; (with_reducible refine (g31_.calls a1 false _ A4.out).mono ?_); rintro e w' ⟨rfl, ⟨nd, rfl⟩⟩; refine ⟨_, rfl, ?_⟩))
  go_ret
  exact ⟨zR, by repeat (first | exact Drawn0.refl _ | apply Drawn0.step)⟩
 rw [if_neg c9] at H
 have c9b0 : decide (a1 < a0) = false := decide_eq_false c9
 clear c9
 obtain rfl := Option.some.inj H
 go_enter Try.func55, Try.ntmps55
 go_wp2_with (first | ((with_reducible refine gate_callee (f := 67) rfl ?_); refine goesL_ (some 8) rfl rfl Try.func67 (by kernel_rfl) rfl #[.int .i64 a0] rfl zM ?_; (with_reducible refine (g31_.calls a0 false _ A3.out).mono ?_); rintro e w' ⟨rfl, ⟨nd, rfl⟩⟩; refine ⟨_, rfl, ?_⟩) | ((with_reducible refine gate_callee (f := 67) rfl ?_); refine goesL_ (some 10) rfl rfl Try.func67 (by kernel_rfl) rfl #[.int .i64 a1] rfl zM ?_; (with_reducible refine (g31_.calls a1 false _ A4.out).mono ?_); rintro e w' ⟨rfl, ⟨nd, rfl⟩⟩; refine ⟨_, rfl, ?_⟩))
 go_ret
 exact ⟨zR, by repeat (first | exact Drawn0.refl _ | apply Drawn0.step)⟩
/-! ### best_steps_1: function 54 -/
def best_steps_1.f (a0_0 : Int) (a0_1 : Int) (l0_2 : List Int) (a0_3 : Int) (a0_4 : Int) (l0_5 : List Int) (a1_0 : Int) (a1_1 : Int) (l1_2 : List Int) (a1_3 : Int) (a1_4 : Int) (l1_5 : List Int) : Option (Int) := (g33_.f a0_3 a1_3).bind fun t349 => (some t349)
set_option maxHeartbeats 8000000 in
set_option maxRecDepth 100000 in
theorem best_steps_1.calls (a0_0 : Int) (a0_1 : Int) (A0_2 : Option Addr) (c0_2 : Nat) (l0_2 : List Int) (a0_3 : Int) (a0_4 : Int) (A0_5 : Option Addr) (c0_5 : Nat) (l0_5 : List Int) (a1_0 : Int) (a1_1 : Int) (A1_2 : Option Addr) (c1_2 : Nat) (l1_2 : List Int) (a1_3 : Int) (a1_4 : Int) (A1_5 : Option Addr) (c1_5 : Nat) (l1_5 : List Int) (r : Int) (w : World) (hr0_2 : Kd.C (Kd.int .i64) w A0_2 l0_2.length l0_2) (hc0_2 : l0_2.length ≤ c0_2) (hr0_5 : Kd.C (Kd.int .i64) w A0_5 l0_5.length l0_5) (hc0_5 : l0_5.length ≤ c0_5) (hr1_2 : Kd.C (Kd.int .i64) w A1_2 l1_2.length l1_2) (hc1_2 : l1_2.length ≤ c1_2) (hr1_5 : Kd.C (Kd.int .i64) w A1_5 l1_5.length l1_5) (hc1_5 : l1_5.length ≤ c1_5) (h : best_steps_1.f a0_0 a0_1 l0_2 a0_3 a0_4 l0_5 a1_0 a1_1 l1_2 a1_3 a1_4 l1_5 = some r) :
 Calls Try.prog 54 #[.agg #[.int .u32 a0_0, .int .i64 a0_1, .slice A0_2 l0_2.length c0_2, .int .i64 a0_3, .int .i64 a0_4, .slice A0_5 l0_5.length c0_5], .agg #[.int .u32 a1_0, .int .i64 a1_1, .slice A1_2 l1_2.length c1_2, .int .i64 a1_3, .int .i64 a1_4, .slice A1_5 l1_5.length c1_5]] w fun e w' => e = .returned (.int .i64 r) ∧ Below w.heap.size w w' := by
 have hu77 := Try.underlying77
 have hu3 := Try.underlying3
 have HR0_2 := Aside0.mk hr0_2
 have HC0_2 := Aside0.mk hc0_2
 clear hr0_2 hc0_2
 have HR0_5 := Aside0.mk hr0_5
 have HC0_5 := Aside0.mk hc0_5
 clear hr0_5 hc0_5
 have HR1_2 := Aside0.mk hr1_2
 have HC1_2 := Aside0.mk hc1_2
 clear hr1_2 hc1_2
 have HR1_5 := Aside0.mk hr1_5
 have HC1_5 := Aside0.mk hc1_5
 clear hr1_5 hc1_5
 have HB := Aside0.mk (Below.refl w.heap.size w)
 have H : ((g33_.f a0_3 a1_3).bind fun t349 => (some t349)) = some r := h
 clear h
 replace H := Option.bind_eq_some_iff.mp H
 obtain ⟨t349, A30, H⟩ := H
 replace H : (some t349) = some r := H
 have A3 := Aside0.mk A30
 clear A30
 obtain rfl := Option.some.inj H
 go_enter Try.func54, Try.ntmps54
 go_wp2_with (first | ((with_reducible refine gate_dst (N := 2) rfl ?_); refine bx 2 (#[.int .u32 a0_0, .int .i64 a0_1, .slice A0_2 l0_2.length c0_2, .int .i64 a0_3, .int .i64 a0_4, .slice A0_5 l0_5.length c0_5]) 77 ?_; intro gb347 hg w4 hbox hb; have n0_ := Aside0.mk (below_step zB hb); have n1_ := Aside0.mk (hbox); have n2_ := Aside0.mk ((zG hg : w.heap.size ≤ gb347)); have n3_ := Aside0.mk ((zG hg : w.heap.size ≤ gb347)); clear HB; have HB := n0_; have BK347 := n1_; have GW347 := n2_; have GE347 := n3_; clear n0_ n1_ n2_ n3_; clear hb hbox hg) | ((with_reducible refine gate_dst (N := 3) rfl ?_); refine bx 3 (#[.int .u32 a1_0, .int .i64 a1_1, .slice A1_2 l1_2.length c1_2, .int .i64 a1_3, .int .i64 a1_4, .slice A1_5 l1_5.length c1_5]) 77 ?_; intro gb348 hg w5 hbox hb; have n0_ := Aside0.mk (blk_below (g := gb347) (o := .cells #[.int .u32 a0_0, .int .i64 a0_1, .slice A0_2 l0_2.length c0_2, .int .i64 a0_3, .int .i64 a0_4, .slice A0_5 l0_5.length c0_5] 77 (0, 0)) (zK BK347) hb); have n1_ := Aside0.mk (below_step zB hb); have n2_ := Aside0.mk (hbox); have n3_ := Aside0.mk ((zG hg : w.heap.size ≤ gb348)); have n4_ := Aside0.mk ((zG hg : w.heap.size ≤ gb348)); have n5_ := Aside0.mk ((by rw [hg]; exact Nat.ne_of_lt (blk_lt (g := gb347) (o := .cells #[.int .u32 a0_0, .int .i64 a0_1, .slice A0_2 l0_2.length c0_2, .int .i64 a0_3, .int .i64 a0_4, .slice A0_5 l0_5.length c0_5] 77 (0, 0)) (zK BK347)) : gb347 ≠ gb348)); have n6_ := Aside0.mk ((by rw [hg]; exact Nat.ne_of_gt (blk_lt (g := gb347) (o := .cells #[.int .u32 a0_0, .int .i64 a0_1, .slice A0_2 l0_2.length c0_2, .int .i64 a0_3, .int .i64 a0_4, .slice A0_5 l0_5.length c0_5] 77 (0, 0)) (zK BK347)) : gb348 ≠ gb347)); clear BK347; clear HB; have BK347 := n0_; have HB := n1_; have BK348 := n2_; have GW348 := n3_; have GE348 := n4_; have NB347_348 := n5_; have NB348_347 := n6_; clear n0_ n1_ n2_ n3_ n4_ n5_ n6_; clear hb hbox hg; have hnb6 := NB347_348.out; have hnc6 := NB348_347.out; have hcz7_0 : w5.cell? ⟨gb347, 0, none⟩ = some (.int .u32 a0_0) := zT BK347 0; have hcz7_1 : w5.cell? ⟨gb347, 1, none⟩ = some (.int .i64 a0_1) := zT BK347 1; have hcz7_2 : w5.cell? ⟨gb347, 2, none⟩ = some (.slice A0_2 l0_2.length c0_2) := zT BK347 2; have hcz7_3 : w5.cell? ⟨gb347, 3, none⟩ = some (.int .i64 a0_3) := zT BK347 3; have hcz7_4 : w5.cell? ⟨gb347, 4, none⟩ = some (.int .i64 a0_4) := zT BK347 4; have hcz7_5 : w5.cell? ⟨gb347, 5, none⟩ = some (.slice A0_5 l0_5.length c0_5) := zT BK347 5; have hfz7_0 := blk_frozen BK347.out 0; have hfz7_1 := blk_frozen BK347.out 1; have hfz7_2 := blk_frozen BK347.out 2; have hfz7_3 := blk_frozen BK347.out 3; have hfz7_4 := blk_frozen BK347.out 4; have hfz7_5 := blk_frozen BK347.out 5; have hcz8_0 : w5.cell? ⟨gb348, 0, none⟩ = some (.int .u32 a1_0) := zT BK348 0; have hcz8_1 : w5.cell? ⟨gb348, 1, none⟩ = some (.int .i64 a1_1) := zT BK348 1; have hcz8_2 : w5.cell? ⟨gb348, 2, none⟩ = some (.slice A1_2 l1_2.length c1_2) := zT BK348 2; have hcz8_3 : w5.cell? ⟨gb348, 3, none⟩ = some (.int .i64 a1_3) := zT BK348 3; have hcz8_4 : w5.cell? ⟨gb348, 4, none⟩ = some (.int .i64 a1_4) := zT BK348 4; have hcz8_5 : w5.cell? ⟨gb348, 5, none⟩ = some (.slice A1_5 l1_5.length c1_5) := zT BK348 5; have hfz8_0 := blk_frozen BK348.out 0; have hfz8_1 := blk_frozen BK348.out 1; have hfz8_2 := blk_frozen BK348.out 2; have hfz8_3 := blk_frozen BK348.out 3; have hfz8_4 := blk_frozen BK348.out 4; have hfz8_5 := blk_frozen BK348.out 5) | ((with_reducible refine gate_callee (f := 55) rfl ?_); refine goesL_ (some 9) rfl rfl Try.func55 (by kernel_rfl) rfl #[.int .i64 a0_3, .int .i64 a1_3] rfl zM ?_; (with_reducible refine (g33_.calls a0_3 a1_3 t349 _ A3.out).mono ?_); rintro e w' ⟨rfl, ⟨nd, rfl⟩⟩; refine ⟨_, rfl, ?_⟩))
 go_ret
 exact ⟨zE, zB⟩
/-! ### g38_: function 62 -/
def g38_.f (l0 : List Int) : Option (List Int) := (some (([] : List Int) : List Int)).bind fun y353 => (if y353.length + l0.length < 17592186044416 then (some (y353 ++ l0)) else (none))
set_option maxHeartbeats 8000000 in
set_option maxRecDepth 100000 in
theorem g38_.calls (A0 : Option Addr) (c0 : Nat) (l0 : List Int) (r : List Int) (w : World) (hr0 : Kd.C (Kd.int .i64) w A0 l0.length l0) (hc0 : l0.length ≤ c0) (h : g38_.f l0 = some r) :
 Calls Try.prog 62 #[.slice A0 l0.length c0] w fun e w' => ∃ v0_ : Value, e = .returned (v0_) ∧ Kd.R (Kd.int .i64) 3 w' w.heap.size (fun _ => True) v0_ r ∧ Below w.heap.size w w' := by
 have HR0 := Aside0.mk hr0
 have HC0 := Aside0.mk hc0
 clear hr0 hc0
 have HB := Aside0.mk (Below.refl w.heap.size w)
 have H : ((some (([] : List Int) : List Int)).bind fun y353 => (if y353.length + l0.length < 17592186044416 then (some (y353 ++ l0)) else (none))) = some r := h
 clear h
 cases A0 with
 | none =>
  have hl_ : l0 = [] := by
   obtain ⟨_, _, h3_⟩ := HR0.out
   rcases Nat.eq_zero_or_pos l0.length with h_ | h_
   · exact List.eq_nil_of_length_eq_zero h_
   · obtain ⟨_, e_, _⟩ := h3_ h_; cases e_
  subst hl_
  obtain rfl : r = [] := by
   simp only [Option.bind_some, List.length_nil, Nat.add_zero, List.append_nil] at H
   rw [if_pos (by omega)] at H
   exact (Option.some.inj H).symm
  go_enter Try.func62, Try.ntmps62
  have hnil_ := fun (w : World) => Lib.run_eql_slice_nil (P := Try.prog) w 33 3 none 0 c0 0 0 Try.underlying33
  go_wp2
  go_ret
  exact ⟨_, rfl, by first | exact Kd.R_nil _ _ _ _ _ | exact Kd.S_nil _ _ _ _ _ | exact Kd.N_nil _ _ _ _ _ | exact Kd.V_nil _ _ _ _ _, HB.out⟩
 | some adn_ =>
 have hnil_ := fun (w : World) => Lib.run_eql_slice_nil (P := Try.prog) w 33 3 (some adn_) l0.length c0 0 0 Try.underlying33
 obtain ⟨y353, hy353⟩ : ∃ y_ : List Int, y_ = (([] : List Int)) := ⟨_, rfl⟩
 replace H : (if y353.length + l0.length < 17592186044416 then (some (y353 ++ l0)) else (none)) = some r := by first | (rw [hy353]; with_reducible exact H) | (have H2_ := (Option.bind_some _ _).symm.trans H; rw [hy353]; with_reducible exact H2_) | (have H2_ := (Option.bind_some _ _).symm.trans H; with_reducible exact H2_) | with_reducible exact H | (rw [hy353]; exact H) | exact H
 have Ny353 := Aside0.mk hy353
 clear hy353
 by_cases c2 : y353.length + l0.length < 17592186044416
 rotate_left
 · rw [if_neg c2] at H; exact absurd H (by simp)
 rw [if_pos c2] at H
 have LMc2 := Aside0.mk c2
 clear c2
 obtain ⟨y356, hy356⟩ : ∃ y_ : List Int, y_ = (y353 ++ l0) := ⟨_, rfl⟩
 replace H : (some y356) = some r := by first | (rw [hy356]; with_reducible exact H) | (have H2_ := (Option.bind_some _ _).symm.trans H; rw [hy356]; with_reducible exact H2_) | (have H2_ := (Option.bind_some _ _).symm.trans H; with_reducible exact H2_) | with_reducible exact H | (rw [hy356]; exact H) | exact H
 have Ny356 := Aside0.mk hy356
 clear hy356
 obtain rfl := Option.some.inj H
 go_enter Try.func62, Try.ntmps62
 go_wp2_with (first | ((with_reducible refine gate_dst (N := 5) rfl ?_); refine Kd.R_lit (Kd.int .i64) _ 3 ?hg (N := 5) ?hd (xs := ([] : List Int)) (inner := []) (ok := fun _ => True) (okp := fun _ => True) ?hr ?hp (fun _ hk => hk) trivial (Below.refl _ _) (Nat.le_refl _) (by simp) ?_; (case hd => rfl); (case hg => rfl); (case hr => first | (go_simp; done) | (go_simp; rfl)); (case hp => exact (Reps.none _ _)); intro v354 w3 ho4 hb hg_ hnew_; clear hg_ hnew_; (first | rw [← Ny353.out] at ho4 | (simp only [Int.reduceToNat] at ho4; rw [← Ny353.out] at ho4)); have n0_ := Aside0.mk (Kd.R_lower ho4 (below_size zB)); have n1_ := Aside0.mk (below_step zB hb); clear HB; have HO355 := n0_; have HB := n1_; clear n0_ n1_; clear hb ho4) | ((with_reducible refine gate_builtin (b := .append) (xs := #[.tmp 5, .tmp 6]) rfl ?_); at_builtin; refine Kd.R_append_rows (Kd.int .i64) (w0 := w) w.heap.size rfl (.tmp 5) (.tmp 6) 33 3 (.int .i64 0) 8 rfl Try.underlying33 info3 rfl (by decide) (by omega) v354 y353 l0 _ _ _ (fun _ => True) (fun _ => False) rfl rfl ?aO ?aR (fun _ _ h => h) (fun _ h => h.elim) ?aF ?aB ?aS ?aL ?_; (case aR => exact zC HR0 HB); (case aB => exact zB); (case aF => exact (fun _ _ => trivial)); (case aO => exact (zO HO355)); (case aS => exact (below_size zB)); (case aL => have := LMc2.out; omega); intro v357 w5 ho hb hg hat; rw [← Ny356.out] at ho; have n0_ := Aside0.mk (hb); have n1_ := Aside0.mk (ho); clear HB; clear HO355; have HB := n0_; have HO358 := n1_; clear n0_ n1_; clear ho hb hg hat))
 go_ret
 exact ⟨_, zE, by (with_reducible repeat (first | apply Kd.R_alloc | apply Kd.R_drewN | apply Kd.R_drew)); exact HO358.out, zB⟩
end Go.Proofs.Ytplcdbhklepkgaa.BS
