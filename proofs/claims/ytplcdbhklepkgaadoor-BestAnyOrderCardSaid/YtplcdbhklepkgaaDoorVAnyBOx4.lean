-- Made by gen.py, a program of this session's, over the kit's print.
import Derived.Test.YtplcdbhklepkgaaDoorVAnyShort
import Derived.Test.YtplcdbhklepkgaaDoorVAnyBOx0
import Derived.Test.YtplcdbhklepkgaaDoorVAnyBOx1
import Derived.Test.YtplcdbhklepkgaaDoorVAnyBOx3
namespace Go.Proofs.YtplcdbhklepkgaaDoor.BO
open Go.RowKit Go.Proofs.YtplcdbhklepkgaaDoorW.PrintWords Go.Proofs.YtplcdbhklepkgaaDoorW.PrintLast Go.Proofs.YtplcdbhklepkgaaDoorW.PrintMore Go.Proofs.YtplcdbhklepkgaaDoor.GenWords
attribute [local go_sem] max2_int min2_int max_two min_two max_three min_three max_four min_four   -- for this text's walks alone
set_option linter.unusedVariables false
set_option linter.unusedSimpArgs false

attribute [local go_sem high] eqA29
/-! ### best_wrong: function 21 -/
mutual
def best_wrong.l0 : Nat → List (S31) → List (S31) → Int → Int → Option (Int)
  | 0, _, _, _, _ => none
  | k + 1, x0, x11, x12, x13 => if x13 < x12 then (if 0 ≤ x13 then (if x13 < (x11.length : Int) then ((path_Check.f k ((rd_T31 x11 x13).f0.f0) ((rd_T31 x11 x13).f0.f1) ((rd_T31 x11 x13).f1) ((rd_T31 x11 x13).f2) ((rd_T31 x11 x13).f3) ((rd_T31 x11 x13).f4)).bind fun t124 => (if t124 = 0 then (best_wrong.l0 k x0 x11 x12 (wrap64 (x13 + 1))) else (some t124))) else (none)) else (none)) else (best_wrong.l1 k x0 x0 (x0.length : Int) 0)
def best_wrong.l1 : Nat → List (S31) → List (S31) → Int → Int → Option (Int)
  | 0, _, _, _, _ => none
  | k + 1, x0, x23, x24, x25 => if x25 < x24 then (if 0 ≤ x25 then (if x25 < (x23.length : Int) then (if 0 < (x0.length : Int) then (if (!(((rd_T31 x23 x25).f0.f0) == ((rd_T31 x0 0).f0.f0)) || (!(((rd_T31 x23 x25).f0.f1) == ((rd_T31 x0 0).f0.f1)))) = true then (some 1) else (best_wrong.l1 k x0 x23 x24 (wrap64 (x25 + 1)))) else (none)) else (none)) else (none)) else (some 0)
end
def best_wrong.f (k : Nat) (l0 : List (S31)) : Option (Int) := if (l0.length : Int) > 256 then (some 2) else (best_wrong.l0 k l0 l0 (l0.length : Int) 0)
theorem best_wrong.mono_l : ∀ k, (∀ y0 y1 y2 y3, LeO (best_wrong.l0 k y0 y1 y2 y3) (best_wrong.l0 (k + 1) y0 y1 y2 y3)) ∧ (∀ y0 y1 y2 y3, LeO (best_wrong.l1 k y0 y1 y2 y3) (best_wrong.l1 (k + 1) y0 y1 y2 y3))
  | 0 => ⟨fun _ _ _ _ r h => by simp [best_wrong.l0] at h, fun _ _ _ _ r h => by simp [best_wrong.l1] at h⟩
  | k + 1 => by
    obtain ⟨ih0, ih1⟩ := best_wrong.mono_l k
    refine ⟨?_, ?_⟩
    · intro y0 y1 y2 y3
      unfold best_wrong.l0
      repeat' (with_reducible first | exact ih0 _ _ _ _ | exact ih1 _ _ _ _ | exact path_Check.mono _ _ _ _ _ _ _ | exact LeO.refl _ | exact LeO.none _ | refine LeO.ite ?_ ?_ | refine LeO.bind ?_ (fun _ => ?_))
    · intro y0 y1 y2 y3
      unfold best_wrong.l1
      repeat' (with_reducible first | exact ih0 _ _ _ _ | exact ih1 _ _ _ _ | exact path_Check.mono _ _ _ _ _ _ _ | exact LeO.refl _ | exact LeO.none _ | refine LeO.ite ?_ ?_ | refine LeO.bind ?_ (fun _ => ?_))
theorem best_wrong.mono : ∀ a0 k, LeO (best_wrong.f k a0) (best_wrong.f (k + 1) a0) := by
  intro a0 k
  obtain ⟨ih0, ih1⟩ := best_wrong.mono_l k
  unfold best_wrong.f
  repeat' (with_reducible first | exact ih0 _ _ _ _ | exact ih1 _ _ _ _ | exact path_Check.mono _ _ _ _ _ _ _ | exact LeO.refl _ | exact LeO.none _ | refine LeO.ite ?_ ?_ | refine LeO.bind ?_ (fun _ => ?_))
set_option maxHeartbeats 8000000 in
set_option maxRecDepth 100000 in
theorem best_wrong.calls (k : Nat) (A0 : Option Addr) (c0 : Nat) (l0 : List (S31)) (r : Int) (w : World) (hr0 : Kd.C k31 w A0 l0.length l0) (hc0 : l0.length ≤ c0) (h : best_wrong.f k l0 = some r) :
 Calls Tryd.prog 21 #[.slice A0 l0.length c0] w fun e w' => e = .returned (.int .i64 r) ∧ Below w.heap.size w w' := by
 have hu31 := Tryd.underlying31
 have hu29 := Tryd.underlying29
 have HR0 := Aside0.mk hr0
 have HC0 := Aside0.mk hc0
 clear hr0 hc0
 have HB := Aside0.mk (Below.refl w.heap.size w)
 have H : (if (l0.length : Int) > 256 then (some 2) else (best_wrong.l0 k l0 l0 (l0.length : Int) 0)) = some r := h
 clear h
 by_cases c2 : (l0.length : Int) > 256
 ·
  rw [if_pos c2] at H
  have c2b0 : decide (256 < (l0.length : Int)) = true := decide_eq_true c2
  have c2b1 : decide (256 < l0.length) = true := decide_eq_true (by omega)
  clear c2
  obtain rfl := Option.some.inj H
  go_enter Tryd.func21, Tryd.ntmps21
  go_wp2
  go_ret
  exact ⟨zE, zB⟩
 rw [if_neg c2] at H
 have c2b0 : decide (256 < (l0.length : Int)) = false := decide_eq_false c2
 have c2b1 : decide (256 < l0.length) = false := decide_eq_false (by omega)
 clear c2
 have H' := Aside0.mk H
 clear H
 go_enter Tryd.func21, Tryd.ntmps21
 go_wp2
 go_loopg [13] k (fun kq v13 w' => ∃ (x13_1 : Int), v13 = .int .i64 x13_1 ∧ Aside0 (best_wrong.l0 kq l0 l0 (l0.length : Int) x13_1 = some r) ∧ Aside0 (kq ≤ k) ∧ Aside0 (Below w.heap.size w w'))
 case atStart => exact ⟨(0), zR, H', ⟨Nat.le_refl _⟩, ⟨zB⟩⟩
 clear H'
 try clear c2
 try clear c2b0
 try clear c2b1
 try clear p2
 obtain ⟨x13_1, rfl, HA, HK1, HB⟩ := hrel
 rcases gk with _ | k1
 · exact absurd HA.out (by simp [best_wrong.l0])
 have H := HA.out
 clear HA
 simp only [best_wrong.l0] at H
 by_cases c3 : x13_1 < (l0.length : Int)
 ·
  rw [if_pos c3] at H
  have c3b0 : decide (x13_1 < (l0.length : Int)) = true := decide_eq_true c3
  clear c3
  by_cases c4 : 0 ≤ x13_1
  rotate_left
  · rw [if_neg c4] at H; exact absurd H (by simp)
  rw [if_pos c4] at H
  have c4b0 : decide (0 ≤ x13_1) = true := decide_eq_true c4
  clear c4
  by_cases c5 : x13_1 < (l0.length : Int)
  rotate_left
  · rw [if_neg c5] at H; exact absurd H (by simp)
  rw [if_pos c5] at H
  have c5b0 : decide (x13_1 < (l0.length : Int)) = true := decide_eq_true c5
  clear c5
  replace H := Option.bind_eq_some_iff.mp H
  obtain ⟨t124, A60, H⟩ := H
  replace H : (if t124 = 0 then (best_wrong.l0 k1 l0 l0 (l0.length : Int) (wrap64 (x13_1 + 1))) else (some t124)) = some r := H
  have A6 := Aside0.mk A60
  clear A60
  by_cases c7 : t124 = 0
  rotate_left
  ·
   rw [if_neg c7] at H
   have c7b0 : (t124 == 0) = false := beq_eq_false_iff_ne.mpr c7
   have c7b1 : (t124 != 0) = true := bne_iff_ne.mpr c7
   obtain rfl := Option.some.inj H
   have p122 : 0 ≤ (x13_1 : Int) := od
   have q122 : x13_1 < (l0.length : Int) := od
   obtain ⟨ad122, A122_2, c122_2, A122_5, c122_5, e122, hx122_0, hx122_1, hx122_2, hx122_3, hx122_4, hx122_5, hl122_2, hi122_2, hl122_5, hi122_5⟩ := at_T31 HR0.out x13_1 p122 q122
   cases e122
   replace hx122_0 := zL HB hx122_0
   replace hx122_1 := zL HB hx122_1
   replace hx122_2 := zL HB hx122_2
   replace hx122_3 := zL HB hx122_3
   replace hx122_4 := zL HB hx122_4
   replace hx122_5 := zL HB hx122_5
   have HR122_2 := Aside0.mk hi122_2
   have HC122_2 := Aside0.mk hl122_2
   clear hi122_2 hl122_2
   have HR122_5 := Aside0.mk hi122_5
   have HC122_5 := Aside0.mk hl122_5
   clear hi122_5 hl122_5
   replace p122 := eq_true p122
   replace q122 := eq_true q122
   go_wp2_with (first | ((with_reducible refine gate_dst (N := 4) rfl ?_); refine bx 4 (#[.int .u32 0, .int .i64 0, .slice none 0 0, .int .i64 0, .int .i64 0, .slice none 0 0]) 31 ?_; intro gb123 hg w11 hbox hb; have n0_ := Aside0.mk (below_step zB hb); have n1_ := Aside0.mk (hbox); have n2_ := Aside0.mk ((zG hg : w.heap.size ≤ gb123)); have n3_ := Aside0.mk ((zG hg : w.heap.size ≤ gb123)); clear HB; have HB := n0_; have BK123 := n1_; have GW123 := n2_; have GE123 := n3_; clear n0_ n1_ n2_ n3_; clear hb hbox hg; have hcz12_0 : w11.cell? ⟨gb123, 0, none⟩ = some (.int .u32 0) := zT BK123 0; have hcz12_1 : w11.cell? ⟨gb123, 1, none⟩ = some (.int .i64 0) := zT BK123 1; have hcz12_2 : w11.cell? ⟨gb123, 2, none⟩ = some (.slice none 0 0) := zT BK123 2; have hcz12_3 : w11.cell? ⟨gb123, 3, none⟩ = some (.int .i64 0) := zT BK123 3; have hcz12_4 : w11.cell? ⟨gb123, 4, none⟩ = some (.int .i64 0) := zT BK123 4; have hcz12_5 : w11.cell? ⟨gb123, 5, none⟩ = some (.slice none 0 0) := zT BK123 5; have hfz12_0 := blk_frozen BK123.out 0; have hfz12_1 := blk_frozen BK123.out 1; have hfz12_2 := blk_frozen BK123.out 2; have hfz12_3 := blk_frozen BK123.out 3; have hfz12_4 := blk_frozen BK123.out 4; have hfz12_5 := blk_frozen BK123.out 5) | ((with_reducible refine gate_callee (f := 34) rfl ?_); refine goesL_ (some 18) rfl rfl Tryd.func34 (by kernel_rfl) rfl #[.agg #[.int .u32 ((rd_T31 l0 x13_1).f0.f0), .int .i64 ((rd_T31 l0 x13_1).f0.f1), .slice A122_2 ((rd_T31 l0 x13_1).f1).length c122_2, .int .i64 ((rd_T31 l0 x13_1).f2), .int .i64 ((rd_T31 l0 x13_1).f3), .slice A122_5 ((rd_T31 l0 x13_1).f4).length c122_5]] rfl zM ?_; (with_reducible refine (path_Check.calls k1 ((rd_T31 l0 x13_1).f0.f0) ((rd_T31 l0 x13_1).f0.f1) _ _ ((rd_T31 l0 x13_1).f1) ((rd_T31 l0 x13_1).f2) ((rd_T31 l0 x13_1).f3) _ _ ((rd_T31 l0 x13_1).f4) t124 _ ?side1 ?side2 ?side3 ?side4 A6.out).mono ?_); (case side1 => exact Kd.C_below HR122_2.out zB); (case side2 => exact HC122_2.out); (case side3 => exact Kd.C_below HR122_5.out zB); (case side4 => exact HC122_5.out); rintro e w13 ⟨rfl, hb⟩; refine ⟨_, rfl, ?_⟩; have n0_ := Aside0.mk (blk_below (g := gb123) (o := .cells #[.int .u32 ((rd_T31 l0 x13_1).f0.f0), .int .i64 ((rd_T31 l0 x13_1).f0.f1), .slice A122_2 ((rd_T31 l0 x13_1).f1).length c122_2, .int .i64 ((rd_T31 l0 x13_1).f2), .int .i64 ((rd_T31 l0 x13_1).f3), .slice A122_5 ((rd_T31 l0 x13_1).f4).length c122_5] 31 (0, 0)) (by (with_reducible repeat (first | refine blk_drewN ?_ _ | refine blk_drew ?_ | refine blk_alloc ?_ _)); refine blk_put (cs := #[.int .u32 ((rd_T31 l0 x13_1).f0.f0), .int .i64 ((rd_T31 l0 x13_1).f0.f1), .slice A122_2 ((rd_T31 l0 x13_1).f1).length c122_2, .int .i64 ((rd_T31 l0 x13_1).f2), .int .i64 ((rd_T31 l0 x13_1).f3), .slice none 0 0]) ?_ 5 _ rfl; (with_reducible repeat (first | refine blk_drewN ?_ _ | refine blk_drew ?_ | refine blk_alloc ?_ _)); refine blk_put (cs := #[.int .u32 ((rd_T31 l0 x13_1).f0.f0), .int .i64 ((rd_T31 l0 x13_1).f0.f1), .slice A122_2 ((rd_T31 l0 x13_1).f1).length c122_2, .int .i64 ((rd_T31 l0 x13_1).f2), .int .i64 0, .slice none 0 0]) ?_ 4 _ rfl; (with_reducible repeat (first | refine blk_drewN ?_ _ | refine blk_drew ?_ | refine blk_alloc ?_ _)); refine blk_put (cs := #[.int .u32 ((rd_T31 l0 x13_1).f0.f0), .int .i64 ((rd_T31 l0 x13_1).f0.f1), .slice A122_2 ((rd_T31 l0 x13_1).f1).length c122_2, .int .i64 0, .int .i64 0, .slice none 0 0]) ?_ 3 _ rfl; (with_reducible repeat (first | refine blk_drewN ?_ _ | refine blk_drew ?_ | refine blk_alloc ?_ _)); refine blk_put (cs := #[.int .u32 ((rd_T31 l0 x13_1).f0.f0), .int .i64 ((rd_T31 l0 x13_1).f0.f1), .slice none 0 0, .int .i64 0, .int .i64 0, .slice none 0 0]) ?_ 2 _ rfl; (with_reducible repeat (first | refine blk_drewN ?_ _ | refine blk_drew ?_ | refine blk_alloc ?_ _)); refine blk_put (cs := #[.int .u32 ((rd_T31 l0 x13_1).f0.f0), .int .i64 0, .slice none 0 0, .int .i64 0, .int .i64 0, .slice none 0 0]) ?_ 1 _ rfl; (with_reducible repeat (first | refine blk_drewN ?_ _ | refine blk_drew ?_ | refine blk_alloc ?_ _)); refine blk_put (cs := #[.int .u32 0, .int .i64 0, .slice none 0 0, .int .i64 0, .int .i64 0, .slice none 0 0]) ?_ 0 _ rfl; (with_reducible repeat (first | refine blk_drewN ?_ _ | refine blk_drew ?_ | refine blk_alloc ?_ _)); exact BK123.out) hb); have n1_ := Aside0.mk (below_step zB hb); clear BK123; clear HB; have BK123 := n0_; have HB := n1_; clear n0_ n1_; (try clear hb); (try clear hb2); (try clear hk); (try clear hi)))
   go_ret
   exact ⟨zE, zB⟩
  rw [if_pos c7] at H
  have c7b0 : (t124 == 0) = true := beq_iff_eq.mpr c7
  have c7b1 : (t124 != 0) = false := bne_eq_false_iff_eq.mpr c7
  clear c7
  have H' := Aside0.mk H
  clear H
  have p122 : 0 ≤ (x13_1 : Int) := od
  have q122 : x13_1 < (l0.length : Int) := od
  obtain ⟨ad122, A122_2, c122_2, A122_5, c122_5, e122, hx122_0, hx122_1, hx122_2, hx122_3, hx122_4, hx122_5, hl122_2, hi122_2, hl122_5, hi122_5⟩ := at_T31 HR0.out x13_1 p122 q122
  cases e122
  replace hx122_0 := zL HB hx122_0
  replace hx122_1 := zL HB hx122_1
  replace hx122_2 := zL HB hx122_2
  replace hx122_3 := zL HB hx122_3
  replace hx122_4 := zL HB hx122_4
  replace hx122_5 := zL HB hx122_5
  have HR122_2 := Aside0.mk hi122_2
  have HC122_2 := Aside0.mk hl122_2
  clear hi122_2 hl122_2
  have HR122_5 := Aside0.mk hi122_5
  have HC122_5 := Aside0.mk hl122_5
  clear hi122_5 hl122_5
  replace p122 := eq_true p122
  replace q122 := eq_true q122
  go_wp2_with (first | ((with_reducible refine gate_dst (N := 4) rfl ?_); refine bx 4 (#[.int .u32 0, .int .i64 0, .slice none 0 0, .int .i64 0, .int .i64 0, .slice none 0 0]) 31 ?_; intro gb123 hg w8 hbox hb; have n0_ := Aside0.mk (below_step zB hb); have n1_ := Aside0.mk (hbox); have n2_ := Aside0.mk ((zG hg : w.heap.size ≤ gb123)); have n3_ := Aside0.mk ((zG hg : w.heap.size ≤ gb123)); clear HB; have HB := n0_; have BK123 := n1_; have GW123 := n2_; have GE123 := n3_; clear n0_ n1_ n2_ n3_; clear hb hbox hg; have hcz9_0 : w8.cell? ⟨gb123, 0, none⟩ = some (.int .u32 0) := zT BK123 0; have hcz9_1 : w8.cell? ⟨gb123, 1, none⟩ = some (.int .i64 0) := zT BK123 1; have hcz9_2 : w8.cell? ⟨gb123, 2, none⟩ = some (.slice none 0 0) := zT BK123 2; have hcz9_3 : w8.cell? ⟨gb123, 3, none⟩ = some (.int .i64 0) := zT BK123 3; have hcz9_4 : w8.cell? ⟨gb123, 4, none⟩ = some (.int .i64 0) := zT BK123 4; have hcz9_5 : w8.cell? ⟨gb123, 5, none⟩ = some (.slice none 0 0) := zT BK123 5; have hfz9_0 := blk_frozen BK123.out 0; have hfz9_1 := blk_frozen BK123.out 1; have hfz9_2 := blk_frozen BK123.out 2; have hfz9_3 := blk_frozen BK123.out 3; have hfz9_4 := blk_frozen BK123.out 4; have hfz9_5 := blk_frozen BK123.out 5) | ((with_reducible refine gate_callee (f := 34) rfl ?_); refine goesL_ (some 18) rfl rfl Tryd.func34 (by kernel_rfl) rfl #[.agg #[.int .u32 ((rd_T31 l0 x13_1).f0.f0), .int .i64 ((rd_T31 l0 x13_1).f0.f1), .slice A122_2 ((rd_T31 l0 x13_1).f1).length c122_2, .int .i64 ((rd_T31 l0 x13_1).f2), .int .i64 ((rd_T31 l0 x13_1).f3), .slice A122_5 ((rd_T31 l0 x13_1).f4).length c122_5]] rfl zM ?_; (with_reducible refine (path_Check.calls k1 ((rd_T31 l0 x13_1).f0.f0) ((rd_T31 l0 x13_1).f0.f1) _ _ ((rd_T31 l0 x13_1).f1) ((rd_T31 l0 x13_1).f2) ((rd_T31 l0 x13_1).f3) _ _ ((rd_T31 l0 x13_1).f4) t124 _ ?side1 ?side2 ?side3 ?side4 A6.out).mono ?_); (case side1 => exact Kd.C_below HR122_2.out zB); (case side2 => exact HC122_2.out); (case side3 => exact Kd.C_below HR122_5.out zB); (case side4 => exact HC122_5.out); rintro e w10 ⟨rfl, hb⟩; refine ⟨_, rfl, ?_⟩; have n0_ := Aside0.mk (blk_below (g := gb123) (o := .cells #[.int .u32 ((rd_T31 l0 x13_1).f0.f0), .int .i64 ((rd_T31 l0 x13_1).f0.f1), .slice A122_2 ((rd_T31 l0 x13_1).f1).length c122_2, .int .i64 ((rd_T31 l0 x13_1).f2), .int .i64 ((rd_T31 l0 x13_1).f3), .slice A122_5 ((rd_T31 l0 x13_1).f4).length c122_5] 31 (0, 0)) (by (with_reducible repeat (first | refine blk_drewN ?_ _ | refine blk_drew ?_ | refine blk_alloc ?_ _)); refine blk_put (cs := #[.int .u32 ((rd_T31 l0 x13_1).f0.f0), .int .i64 ((rd_T31 l0 x13_1).f0.f1), .slice A122_2 ((rd_T31 l0 x13_1).f1).length c122_2, .int .i64 ((rd_T31 l0 x13_1).f2), .int .i64 ((rd_T31 l0 x13_1).f3), .slice none 0 0]) ?_ 5 _ rfl; (with_reducible repeat (first | refine blk_drewN ?_ _ | refine blk_drew ?_ | refine blk_alloc ?_ _)); refine blk_put (cs := #[.int .u32 ((rd_T31 l0 x13_1).f0.f0), .int .i64 ((rd_T31 l0 x13_1).f0.f1), .slice A122_2 ((rd_T31 l0 x13_1).f1).length c122_2, .int .i64 ((rd_T31 l0 x13_1).f2), .int .i64 0, .slice none 0 0]) ?_ 4 _ rfl; (with_reducible repeat (first | refine blk_drewN ?_ _ | refine blk_drew ?_ | refine blk_alloc ?_ _)); refine blk_put (cs := #[.int .u32 ((rd_T31 l0 x13_1).f0.f0), .int .i64 ((rd_T31 l0 x13_1).f0.f1), .slice A122_2 ((rd_T31 l0 x13_1).f1).length c122_2, .int .i64 0, .int .i64 0, .slice none 0 0]) ?_ 3 _ rfl; (with_reducible repeat (first | refine blk_drewN ?_ _ | refine blk_drew ?_ | refine blk_alloc ?_ _)); refine blk_put (cs := #[.int .u32 ((rd_T31 l0 x13_1).f0.f0), .int .i64 ((rd_T31 l0 x13_1).f0.f1), .slice none 0 0, .int .i64 0, .int .i64 0, .slice none 0 0]) ?_ 2 _ rfl; (with_reducible repeat (first | refine blk_drewN ?_ _ | refine blk_drew ?_ | refine blk_alloc ?_ _)); refine blk_put (cs := #[.int .u32 ((rd_T31 l0 x13_1).f0.f0), .int .i64 0, .slice none 0 0, .int .i64 0, .int .i64 0, .slice none 0 0]) ?_ 1 _ rfl; (with_reducible repeat (first | refine blk_drewN ?_ _ | refine blk_drew ?_ | refine blk_alloc ?_ _)); refine blk_put (cs := #[.int .u32 0, .int .i64 0, .slice none 0 0, .int .i64 0, .int .i64 0, .slice none 0 0]) ?_ 0 _ rfl; (with_reducible repeat (first | refine blk_drewN ?_ _ | refine blk_drew ?_ | refine blk_alloc ?_ _)); exact BK123.out) hb); have n1_ := Aside0.mk (below_step zB hb); clear BK123; clear HB; have BK123 := n0_; have HB := n1_; clear n0_ n1_; (try clear hb); (try clear hb2); (try clear hk); (try clear hi)))
  go_roundg k1
  case measure => have := HK1.out; omega
  case rel => exact ⟨(wrap64 (x13_1 + 1)), zR, H', ⟨by have := HK1.out; omega⟩, ⟨zB⟩⟩
 rw [if_neg c3] at H
 have c3b0 : decide (x13_1 < (l0.length : Int)) = false := decide_eq_false c3
 clear c3
 have H' := Aside0.mk H
 clear H
 go_wp2
 go_loopg [25] k1 (fun kq v25 w' => ∃ (x25_2 : Int), v25 = .int .i64 x25_2 ∧ Aside0 (best_wrong.l1 kq l0 l0 (l0.length : Int) x25_2 = some r) ∧ Aside0 (kq ≤ k1) ∧ Aside0 (Below w.heap.size w w'))
 case atStart => exact ⟨(0), zR, H', ⟨Nat.le_refl _⟩, ⟨zB⟩⟩
 clear H'
 try clear c1
 try clear p1
 try clear q1
 try clear hx1
 try clear c2
 try clear c2b0
 try clear c2b1
 try clear p2
 try clear c3
 try clear c3b0
 try clear c4
 try clear c4b0
 try clear c5
 try clear c5b0
 try clear p6
 try clear c7
 try clear c7b0
 try clear c7b1
 try clear c12
 try clear p12
 try clear q12
 try clear hx12
 try clear hcz12_0
 try clear hcz12_1
 try clear hcz12_2
 try clear hcz12_3
 try clear hcz12_4
 try clear hcz12_5
 try clear hcz9_0
 try clear hcz9_1
 try clear hcz9_2
 try clear hcz9_3
 try clear hcz9_4
 try clear hcz9_5
 try clear hfz12_0
 try clear hfz12_1
 try clear hfz12_2
 try clear hfz12_3
 try clear hfz12_4
 try clear hfz12_5
 try clear hfz9_0
 try clear hfz9_1
 try clear hfz9_2
 try clear hfz9_3
 try clear hfz9_4
 try clear hfz9_5
 try clear hx122_0
 try clear hx122_1
 try clear hx122_2
 try clear hx122_3
 try clear hx122_4
 try clear hx122_5
 try clear p122
 try clear p2
 try clear q122
 obtain ⟨x25_2, rfl, HA, HK2, HB⟩ := hrel
 rcases gk with _ | k2
 · exact absurd HA.out (by simp [best_wrong.l1])
 have H := HA.out
 clear HA
 simp only [best_wrong.l1] at H
 by_cases c14 : x25_2 < (l0.length : Int)
 rotate_left
 ·
  rw [if_neg c14] at H
  have c14b0 : decide (x25_2 < (l0.length : Int)) = false := decide_eq_false c14
  clear c14
  obtain rfl := Option.some.inj H
  go_wp2
  go_ret
  exact ⟨zE, zB⟩
 rw [if_pos c14] at H
 have c14b0 : decide (x25_2 < (l0.length : Int)) = true := decide_eq_true c14
 clear c14
 by_cases c15 : 0 ≤ x25_2
 rotate_left
 · rw [if_neg c15] at H; exact absurd H (by simp)
 rw [if_pos c15] at H
 have c15b0 : decide (0 ≤ x25_2) = true := decide_eq_true c15
 clear c15
 by_cases c16 : x25_2 < (l0.length : Int)
 rotate_left
 · rw [if_neg c16] at H; exact absurd H (by simp)
 rw [if_pos c16] at H
 have c16b0 : decide (x25_2 < (l0.length : Int)) = true := decide_eq_true c16
 clear c16
 by_cases c17 : 0 < (l0.length : Int)
 rotate_left
 · rw [if_neg c17] at H; exact absurd H (by simp)
 rw [if_pos c17] at H
 have c17b0 : decide (0 < (l0.length : Int)) = true := decide_eq_true c17
 have c17b1 : decide (0 < l0.length) = true := decide_eq_true (by omega)
 clear c17
 by_cases c18 : (!(((rd_T31 l0 x25_2).f0.f0) == ((rd_T31 l0 0).f0.f0)) || (!(((rd_T31 l0 x25_2).f0.f1) == ((rd_T31 l0 0).f0.f1)))) = true
 ·
  rw [if_pos c18] at H
  have c18b0 : (!(((rd_T31 l0 x25_2).f0.f0) == ((rd_T31 l0 0).f0.f0)) || (!(((rd_T31 l0 x25_2).f0.f1) == ((rd_T31 l0 0).f0.f1)))) = true := c18
  clear c18
  obtain rfl := Option.some.inj H
  have p125 : 0 ≤ (x25_2 : Int) := od
  have q125 : x25_2 < (l0.length : Int) := od
  obtain ⟨ad125, A125_2, c125_2, A125_5, c125_5, e125, hx125_0, hx125_1, hx125_2, hx125_3, hx125_4, hx125_5, hl125_2, hi125_2, hl125_5, hi125_5⟩ := at_T31 HR0.out x25_2 p125 q125
  cases e125
  replace hx125_0 := zL HB hx125_0
  replace hx125_1 := zL HB hx125_1
  replace hx125_2 := zL HB hx125_2
  replace hx125_3 := zL HB hx125_3
  replace hx125_4 := zL HB hx125_4
  replace hx125_5 := zL HB hx125_5
  have HR125_2 := Aside0.mk hi125_2
  have HC125_2 := Aside0.mk hl125_2
  clear hi125_2 hl125_2
  have HR125_5 := Aside0.mk hi125_5
  have HC125_5 := Aside0.mk hl125_5
  clear hi125_5 hl125_5
  replace p125 := eq_true p125
  replace q125 := eq_true q125
  try go_wp2_with (first | ((with_reducible refine gate_dst (N := 7) rfl ?_); refine bx 7 (#[.int .u32 0, .int .i64 0, .slice none 0 0, .int .i64 0, .int .i64 0, .slice none 0 0]) 31 ?_; intro gb126 hg w19 hbox hb; have n0_ := Aside0.mk (below_step zB hb); have n1_ := Aside0.mk (hbox); have n2_ := Aside0.mk ((zG hg : w.heap.size ≤ gb126)); have n3_ := Aside0.mk ((zG hg : w.heap.size ≤ gb126)); clear HB; have HB := n0_; have BK126 := n1_; have GW126 := n2_; have GE126 := n3_; clear n0_ n1_ n2_ n3_; clear hb hbox hg; have hcz20_0 : w19.cell? ⟨gb126, 0, none⟩ = some (.int .u32 0) := zT BK126 0; have hcz20_1 : w19.cell? ⟨gb126, 1, none⟩ = some (.int .i64 0) := zT BK126 1; have hcz20_2 : w19.cell? ⟨gb126, 2, none⟩ = some (.slice none 0 0) := zT BK126 2; have hcz20_3 : w19.cell? ⟨gb126, 3, none⟩ = some (.int .i64 0) := zT BK126 3; have hcz20_4 : w19.cell? ⟨gb126, 4, none⟩ = some (.int .i64 0) := zT BK126 4; have hcz20_5 : w19.cell? ⟨gb126, 5, none⟩ = some (.slice none 0 0) := zT BK126 5; have hfz20_0 := blk_frozen BK126.out 0; have hfz20_1 := blk_frozen BK126.out 1; have hfz20_2 := blk_frozen BK126.out 2; have hfz20_3 := blk_frozen BK126.out 3; have hfz20_4 := blk_frozen BK126.out 4; have hfz20_5 := blk_frozen BK126.out 5))
  have n0_ : Aside0 (((((((w19.setCell ⟨gb126, 0, none⟩ (.int .u32 ((rd_T31 l0 x25_2).f0.f0))).setCell ⟨gb126, 1, none⟩ (.int .i64 ((rd_T31 l0 x25_2).f0.f1))).setCell ⟨gb126, 2, none⟩ (.slice A125_2 ((rd_T31 l0 x25_2).f1).length c125_2)).setCell ⟨gb126, 3, none⟩ (.int .i64 ((rd_T31 l0 x25_2).f2))).setCell ⟨gb126, 4, none⟩ (.int .i64 ((rd_T31 l0 x25_2).f3))).setCell ⟨gb126, 5, none⟩ (.slice A125_5 ((rd_T31 l0 x25_2).f4).length c125_5)).heap[gb126]? = some (.cells #[.int .u32 ((rd_T31 l0 x25_2).f0.f0), .int .i64 ((rd_T31 l0 x25_2).f0.f1), .slice A125_2 ((rd_T31 l0 x25_2).f1).length c125_2, .int .i64 ((rd_T31 l0 x25_2).f2), .int .i64 ((rd_T31 l0 x25_2).f3), .slice A125_5 ((rd_T31 l0 x25_2).f4).length c125_5] 31 (0, 0))) := ⟨by (with_reducible repeat (first | refine blk_drewN ?_ _ | refine blk_drew ?_ | refine blk_alloc ?_ _)); refine blk_put (cs := #[.int .u32 ((rd_T31 l0 x25_2).f0.f0), .int .i64 ((rd_T31 l0 x25_2).f0.f1), .slice A125_2 ((rd_T31 l0 x25_2).f1).length c125_2, .int .i64 ((rd_T31 l0 x25_2).f2), .int .i64 ((rd_T31 l0 x25_2).f3), .slice none 0 0]) ?_ 5 _ rfl; (with_reducible repeat (first | refine blk_drewN ?_ _ | refine blk_drew ?_ | refine blk_alloc ?_ _)); refine blk_put (cs := #[.int .u32 ((rd_T31 l0 x25_2).f0.f0), .int .i64 ((rd_T31 l0 x25_2).f0.f1), .slice A125_2 ((rd_T31 l0 x25_2).f1).length c125_2, .int .i64 ((rd_T31 l0 x25_2).f2), .int .i64 0, .slice none 0 0]) ?_ 4 _ rfl; (with_reducible repeat (first | refine blk_drewN ?_ _ | refine blk_drew ?_ | refine blk_alloc ?_ _)); refine blk_put (cs := #[.int .u32 ((rd_T31 l0 x25_2).f0.f0), .int .i64 ((rd_T31 l0 x25_2).f0.f1), .slice A125_2 ((rd_T31 l0 x25_2).f1).length c125_2, .int .i64 0, .int .i64 0, .slice none 0 0]) ?_ 3 _ rfl; (with_reducible repeat (first | refine blk_drewN ?_ _ | refine blk_drew ?_ | refine blk_alloc ?_ _)); refine blk_put (cs := #[.int .u32 ((rd_T31 l0 x25_2).f0.f0), .int .i64 ((rd_T31 l0 x25_2).f0.f1), .slice none 0 0, .int .i64 0, .int .i64 0, .slice none 0 0]) ?_ 2 _ rfl; (with_reducible repeat (first | refine blk_drewN ?_ _ | refine blk_drew ?_ | refine blk_alloc ?_ _)); refine blk_put (cs := #[.int .u32 ((rd_T31 l0 x25_2).f0.f0), .int .i64 0, .slice none 0 0, .int .i64 0, .int .i64 0, .slice none 0 0]) ?_ 1 _ rfl; (with_reducible repeat (first | refine blk_drewN ?_ _ | refine blk_drew ?_ | refine blk_alloc ?_ _)); refine blk_put (cs := #[.int .u32 0, .int .i64 0, .slice none 0 0, .int .i64 0, .int .i64 0, .slice none 0 0]) ?_ 0 _ rfl; (with_reducible repeat (first | refine blk_drewN ?_ _ | refine blk_drew ?_ | refine blk_alloc ?_ _)); exact BK126.out⟩
  have n1_ : Aside0 (Below w.heap.size w ((((((w19.setCell ⟨gb126, 0, none⟩ (.int .u32 ((rd_T31 l0 x25_2).f0.f0))).setCell ⟨gb126, 1, none⟩ (.int .i64 ((rd_T31 l0 x25_2).f0.f1))).setCell ⟨gb126, 2, none⟩ (.slice A125_2 ((rd_T31 l0 x25_2).f1).length c125_2)).setCell ⟨gb126, 3, none⟩ (.int .i64 ((rd_T31 l0 x25_2).f2))).setCell ⟨gb126, 4, none⟩ (.int .i64 ((rd_T31 l0 x25_2).f3))).setCell ⟨gb126, 5, none⟩ (.slice A125_5 ((rd_T31 l0 x25_2).f4).length c125_5))) := ⟨zB⟩
  (try clear BK126)
  (try clear HB)
  generalize ((((((w19.setCell ⟨gb126, 0, none⟩ (.int .u32 ((rd_T31 l0 x25_2).f0.f0))).setCell ⟨gb126, 1, none⟩ (.int .i64 ((rd_T31 l0 x25_2).f0.f1))).setCell ⟨gb126, 2, none⟩ (.slice A125_2 ((rd_T31 l0 x25_2).f1).length c125_2)).setCell ⟨gb126, 3, none⟩ (.int .i64 ((rd_T31 l0 x25_2).f2))).setCell ⟨gb126, 4, none⟩ (.int .i64 ((rd_T31 l0 x25_2).f3))).setCell ⟨gb126, 5, none⟩ (.slice A125_5 ((rd_T31 l0 x25_2).f4).length c125_5)) = w21 at n0_ n1_ ⊢
  have BK126 := n0_
  have HB := n1_
  clear n0_ n1_
  have n0_ := Aside0.mk (blk_drew BK126.out)
  have n1_ := Aside0.mk (below_drew1 HB.out)
  clear BK126
  clear HB
  have BK126 := n0_
  have HB := n1_
  clear n0_ n1_
  have p127 : 0 ≤ (0 : Int) := (by omega)
  have q127 : 0 < (l0.length : Int) := od
  obtain ⟨ad127, A127_2, c127_2, A127_5, c127_5, e127, hx127_0, hx127_1, hx127_2, hx127_3, hx127_4, hx127_5, hl127_2, hi127_2, hl127_5, hi127_5⟩ := at_T31 HR0.out 0 p127 q127
  have hw127_5 := hx127_5
  (try rw [show ((0 : Int)).toNat = 0 from rfl] at hw127_5)
  (try rw [show 0 * 6 = 0 from rfl] at hw127_5)
  (try rw [Addr.add_zero'] at hw127_5)
  have hw127_4 := hx127_4
  (try rw [show ((0 : Int)).toNat = 0 from rfl] at hw127_4)
  (try rw [show 0 * 6 = 0 from rfl] at hw127_4)
  (try rw [Addr.add_zero'] at hw127_4)
  have hw127_3 := hx127_3
  (try rw [show ((0 : Int)).toNat = 0 from rfl] at hw127_3)
  (try rw [show 0 * 6 = 0 from rfl] at hw127_3)
  (try rw [Addr.add_zero'] at hw127_3)
  have hw127_2 := hx127_2
  (try rw [show ((0 : Int)).toNat = 0 from rfl] at hw127_2)
  (try rw [show 0 * 6 = 0 from rfl] at hw127_2)
  (try rw [Addr.add_zero'] at hw127_2)
  have hw127_1 := hx127_1
  (try rw [show ((0 : Int)).toNat = 0 from rfl] at hw127_1)
  (try rw [show 0 * 6 = 0 from rfl] at hw127_1)
  (try rw [Addr.add_zero'] at hw127_1)
  have hw127_0 := hx127_0
  (try rw [show ((0 : Int)).toNat = 0 from rfl] at hw127_0)
  (try rw [show 0 * 6 = 0 from rfl] at hw127_0)
  (try rw [Addr.add_zero'] at hw127_0)
  obtain rfl : ad125 = ad127 := (by injection e127)
  have qi127 : (0 < l0.length) = True := eq_true (by omega)
  (try rw [show ((0 : Int)).toNat = 0 from rfl] at hx127_0)
  (try rw [show 0 * 6 = 0 from rfl] at hx127_0)
  (try rw [Addr.add_zero'] at hx127_0)
  (try rw [show ((0 : Int)).toNat = 0 from rfl] at hx127_1)
  (try rw [show 0 * 6 = 0 from rfl] at hx127_1)
  (try rw [Addr.add_zero'] at hx127_1)
  (try rw [show ((0 : Int)).toNat = 0 from rfl] at hx127_2)
  (try rw [show 0 * 6 = 0 from rfl] at hx127_2)
  (try rw [Addr.add_zero'] at hx127_2)
  (try rw [show ((0 : Int)).toNat = 0 from rfl] at hx127_3)
  (try rw [show 0 * 6 = 0 from rfl] at hx127_3)
  (try rw [Addr.add_zero'] at hx127_3)
  (try rw [show ((0 : Int)).toNat = 0 from rfl] at hx127_4)
  (try rw [show 0 * 6 = 0 from rfl] at hx127_4)
  (try rw [Addr.add_zero'] at hx127_4)
  (try rw [show ((0 : Int)).toNat = 0 from rfl] at hx127_5)
  (try rw [show 0 * 6 = 0 from rfl] at hx127_5)
  (try rw [Addr.add_zero'] at hx127_5)
  replace hx127_0 := zL HB hx127_0
  replace hx127_1 := zL HB hx127_1
  replace hx127_2 := zL HB hx127_2
  replace hx127_3 := zL HB hx127_3
  replace hx127_4 := zL HB hx127_4
  replace hx127_5 := zL HB hx127_5
  have HR127_2 := Aside0.mk hi127_2
  have HC127_2 := Aside0.mk hl127_2
  clear hi127_2 hl127_2
  have HR127_5 := Aside0.mk hi127_5
  have HC127_5 := Aside0.mk hl127_5
  clear hi127_5 hl127_5
  replace p127 := eq_true p127
  replace q127 := eq_true q127
  refine start_ (n := 7) (S := fun w' => w'.cell? ⟨gb126, 0, none⟩ = some (.int .u32 ((rd_T31 l0 x25_2).f0.f0)) ∧ w'.cell? ⟨gb126, 1, none⟩ = some (.int .i64 ((rd_T31 l0 x25_2).f0.f1)) ∧ w'.cell? ⟨gb126, 2, none⟩ = some (.slice A125_2 ((rd_T31 l0 x25_2).f1).length c125_2) ∧ w'.cell? ⟨gb126, 3, none⟩ = some (.int .i64 ((rd_T31 l0 x25_2).f2)) ∧ w'.cell? ⟨gb126, 4, none⟩ = some (.int .i64 ((rd_T31 l0 x25_2).f3)) ∧ w'.cell? ⟨gb126, 5, none⟩ = some (.slice A125_5 ((rd_T31 l0 x25_2).f4).length c125_5) ∧ w'.cell? ad125 = some (.int .u32 ((rd_T31 l0 0).f0.f0)) ∧ w'.cell? ⟨ad125.block, ad125.off + 1, none⟩ = some (.int .i64 ((rd_T31 l0 0).f0.f1)) ∧ w'.cell? ⟨ad125.block, ad125.off + 2, none⟩ = some (.slice A127_2 ((rd_T31 l0 0).f1).length c127_2) ∧ w'.cell? ⟨ad125.block, ad125.off + 3, none⟩ = some (.int .i64 ((rd_T31 l0 0).f2)) ∧ w'.cell? ⟨ad125.block, ad125.off + 4, none⟩ = some (.int .i64 ((rd_T31 l0 0).f3)) ∧ w'.cell? ⟨ad125.block, ad125.off + 5, none⟩ = some (.slice A127_5 ((rd_T31 l0 0).f4).length c127_5)) (ds := []) (bm 7 0) (by kernel_rfl) rfl rfl ⟨zT BK126 0, zT BK126 1, zT BK126 2, zT BK126 3, zT BK126 4, zT BK126 5, (zL HB hw127_0), (zL HB hw127_1), (zL HB hw127_2), (zL HB hw127_3), (zL HB hw127_4), (zL HB hw127_5)⟩ (fun hHeld => ?_)
  generalize w21.drew = w22 at BK126 HB HR127_2 HR127_5 hx127_0 hx127_1 hx127_2 hx127_3 hx127_4 hx127_5 hHeld ⊢
  refine pv 0 (some 29) (bm 7 1) ?_
  refine pv 2 (some 31) (bm 7 5) ?_
  refine pv 3 (some 32) (bm 7 13) ?_
  refine pv 4 (some 33) (bm 7 29) ?_
  refine tv 1 (some 30) (bm 7 31) hHeld ?_
  refine tv 5 (some 34) (bm 7 63) hHeld ?_
  refine pv 6 (some 35) (bm 7 127) ?_
  refine done_ (by kernel_rfl) ?_
  try go_wp2
  go_ret
  exact ⟨zE, zB⟩
 rw [if_neg c18] at H
 have c18b0 : (!(((rd_T31 l0 x25_2).f0.f0) == ((rd_T31 l0 0).f0.f0)) || (!(((rd_T31 l0 x25_2).f0.f1) == ((rd_T31 l0 0).f0.f1)))) = false := by simpa using c18
 clear c18
 have H' := Aside0.mk H
 clear H
 have p125 : 0 ≤ (x25_2 : Int) := od
 have q125 : x25_2 < (l0.length : Int) := od
 obtain ⟨ad125, A125_2, c125_2, A125_5, c125_5, e125, hx125_0, hx125_1, hx125_2, hx125_3, hx125_4, hx125_5, hl125_2, hi125_2, hl125_5, hi125_5⟩ := at_T31 HR0.out x25_2 p125 q125
 cases e125
 replace hx125_0 := zL HB hx125_0
 replace hx125_1 := zL HB hx125_1
 replace hx125_2 := zL HB hx125_2
 replace hx125_3 := zL HB hx125_3
 replace hx125_4 := zL HB hx125_4
 replace hx125_5 := zL HB hx125_5
 have HR125_2 := Aside0.mk hi125_2
 have HC125_2 := Aside0.mk hl125_2
 clear hi125_2 hl125_2
 have HR125_5 := Aside0.mk hi125_5
 have HC125_5 := Aside0.mk hl125_5
 clear hi125_5 hl125_5
 replace p125 := eq_true p125
 replace q125 := eq_true q125
 try go_wp2_with (first | ((with_reducible refine gate_dst (N := 7) rfl ?_); refine bx 7 (#[.int .u32 0, .int .i64 0, .slice none 0 0, .int .i64 0, .int .i64 0, .slice none 0 0]) 31 ?_; intro gb126 hg w23 hbox hb; have n0_ := Aside0.mk (below_step zB hb); have n1_ := Aside0.mk (hbox); have n2_ := Aside0.mk ((zG hg : w.heap.size ≤ gb126)); have n3_ := Aside0.mk ((zG hg : w.heap.size ≤ gb126)); clear HB; have HB := n0_; have BK126 := n1_; have GW126 := n2_; have GE126 := n3_; clear n0_ n1_ n2_ n3_; clear hb hbox hg; have hcz24_0 : w23.cell? ⟨gb126, 0, none⟩ = some (.int .u32 0) := zT BK126 0; have hcz24_1 : w23.cell? ⟨gb126, 1, none⟩ = some (.int .i64 0) := zT BK126 1; have hcz24_2 : w23.cell? ⟨gb126, 2, none⟩ = some (.slice none 0 0) := zT BK126 2; have hcz24_3 : w23.cell? ⟨gb126, 3, none⟩ = some (.int .i64 0) := zT BK126 3; have hcz24_4 : w23.cell? ⟨gb126, 4, none⟩ = some (.int .i64 0) := zT BK126 4; have hcz24_5 : w23.cell? ⟨gb126, 5, none⟩ = some (.slice none 0 0) := zT BK126 5; have hfz24_0 := blk_frozen BK126.out 0; have hfz24_1 := blk_frozen BK126.out 1; have hfz24_2 := blk_frozen BK126.out 2; have hfz24_3 := blk_frozen BK126.out 3; have hfz24_4 := blk_frozen BK126.out 4; have hfz24_5 := blk_frozen BK126.out 5))
 have n0_ : Aside0 (((((((w23.setCell ⟨gb126, 0, none⟩ (.int .u32 ((rd_T31 l0 x25_2).f0.f0))).setCell ⟨gb126, 1, none⟩ (.int .i64 ((rd_T31 l0 x25_2).f0.f1))).setCell ⟨gb126, 2, none⟩ (.slice A125_2 ((rd_T31 l0 x25_2).f1).length c125_2)).setCell ⟨gb126, 3, none⟩ (.int .i64 ((rd_T31 l0 x25_2).f2))).setCell ⟨gb126, 4, none⟩ (.int .i64 ((rd_T31 l0 x25_2).f3))).setCell ⟨gb126, 5, none⟩ (.slice A125_5 ((rd_T31 l0 x25_2).f4).length c125_5)).heap[gb126]? = some (.cells #[.int .u32 ((rd_T31 l0 x25_2).f0.f0), .int .i64 ((rd_T31 l0 x25_2).f0.f1), .slice A125_2 ((rd_T31 l0 x25_2).f1).length c125_2, .int .i64 ((rd_T31 l0 x25_2).f2), .int .i64 ((rd_T31 l0 x25_2).f3), .slice A125_5 ((rd_T31 l0 x25_2).f4).length c125_5] 31 (0, 0))) := ⟨by (with_reducible repeat (first | refine blk_drewN ?_ _ | refine blk_drew ?_ | refine blk_alloc ?_ _)); refine blk_put (cs := #[.int .u32 ((rd_T31 l0 x25_2).f0.f0), .int .i64 ((rd_T31 l0 x25_2).f0.f1), .slice A125_2 ((rd_T31 l0 x25_2).f1).length c125_2, .int .i64 ((rd_T31 l0 x25_2).f2), .int .i64 ((rd_T31 l0 x25_2).f3), .slice none 0 0]) ?_ 5 _ rfl; (with_reducible repeat (first | refine blk_drewN ?_ _ | refine blk_drew ?_ | refine blk_alloc ?_ _)); refine blk_put (cs := #[.int .u32 ((rd_T31 l0 x25_2).f0.f0), .int .i64 ((rd_T31 l0 x25_2).f0.f1), .slice A125_2 ((rd_T31 l0 x25_2).f1).length c125_2, .int .i64 ((rd_T31 l0 x25_2).f2), .int .i64 0, .slice none 0 0]) ?_ 4 _ rfl; (with_reducible repeat (first | refine blk_drewN ?_ _ | refine blk_drew ?_ | refine blk_alloc ?_ _)); refine blk_put (cs := #[.int .u32 ((rd_T31 l0 x25_2).f0.f0), .int .i64 ((rd_T31 l0 x25_2).f0.f1), .slice A125_2 ((rd_T31 l0 x25_2).f1).length c125_2, .int .i64 0, .int .i64 0, .slice none 0 0]) ?_ 3 _ rfl; (with_reducible repeat (first | refine blk_drewN ?_ _ | refine blk_drew ?_ | refine blk_alloc ?_ _)); refine blk_put (cs := #[.int .u32 ((rd_T31 l0 x25_2).f0.f0), .int .i64 ((rd_T31 l0 x25_2).f0.f1), .slice none 0 0, .int .i64 0, .int .i64 0, .slice none 0 0]) ?_ 2 _ rfl; (with_reducible repeat (first | refine blk_drewN ?_ _ | refine blk_drew ?_ | refine blk_alloc ?_ _)); refine blk_put (cs := #[.int .u32 ((rd_T31 l0 x25_2).f0.f0), .int .i64 0, .slice none 0 0, .int .i64 0, .int .i64 0, .slice none 0 0]) ?_ 1 _ rfl; (with_reducible repeat (first | refine blk_drewN ?_ _ | refine blk_drew ?_ | refine blk_alloc ?_ _)); refine blk_put (cs := #[.int .u32 0, .int .i64 0, .slice none 0 0, .int .i64 0, .int .i64 0, .slice none 0 0]) ?_ 0 _ rfl; (with_reducible repeat (first | refine blk_drewN ?_ _ | refine blk_drew ?_ | refine blk_alloc ?_ _)); exact BK126.out⟩
 have n1_ : Aside0 (Below w.heap.size w ((((((w23.setCell ⟨gb126, 0, none⟩ (.int .u32 ((rd_T31 l0 x25_2).f0.f0))).setCell ⟨gb126, 1, none⟩ (.int .i64 ((rd_T31 l0 x25_2).f0.f1))).setCell ⟨gb126, 2, none⟩ (.slice A125_2 ((rd_T31 l0 x25_2).f1).length c125_2)).setCell ⟨gb126, 3, none⟩ (.int .i64 ((rd_T31 l0 x25_2).f2))).setCell ⟨gb126, 4, none⟩ (.int .i64 ((rd_T31 l0 x25_2).f3))).setCell ⟨gb126, 5, none⟩ (.slice A125_5 ((rd_T31 l0 x25_2).f4).length c125_5))) := ⟨zB⟩
 (try clear BK126)
 (try clear HB)
 generalize ((((((w23.setCell ⟨gb126, 0, none⟩ (.int .u32 ((rd_T31 l0 x25_2).f0.f0))).setCell ⟨gb126, 1, none⟩ (.int .i64 ((rd_T31 l0 x25_2).f0.f1))).setCell ⟨gb126, 2, none⟩ (.slice A125_2 ((rd_T31 l0 x25_2).f1).length c125_2)).setCell ⟨gb126, 3, none⟩ (.int .i64 ((rd_T31 l0 x25_2).f2))).setCell ⟨gb126, 4, none⟩ (.int .i64 ((rd_T31 l0 x25_2).f3))).setCell ⟨gb126, 5, none⟩ (.slice A125_5 ((rd_T31 l0 x25_2).f4).length c125_5)) = w25 at n0_ n1_ ⊢
 have BK126 := n0_
 have HB := n1_
 clear n0_ n1_
 have n0_ := Aside0.mk (blk_drew BK126.out)
 have n1_ := Aside0.mk (below_drew1 HB.out)
 clear BK126
 clear HB
 have BK126 := n0_
 have HB := n1_
 clear n0_ n1_
 have p127 : 0 ≤ (0 : Int) := (by omega)
 have q127 : 0 < (l0.length : Int) := od
 obtain ⟨ad127, A127_2, c127_2, A127_5, c127_5, e127, hx127_0, hx127_1, hx127_2, hx127_3, hx127_4, hx127_5, hl127_2, hi127_2, hl127_5, hi127_5⟩ := at_T31 HR0.out 0 p127 q127
 have hw127_5 := hx127_5
 (try rw [show ((0 : Int)).toNat = 0 from rfl] at hw127_5)
 (try rw [show 0 * 6 = 0 from rfl] at hw127_5)
 (try rw [Addr.add_zero'] at hw127_5)
 have hw127_4 := hx127_4
 (try rw [show ((0 : Int)).toNat = 0 from rfl] at hw127_4)
 (try rw [show 0 * 6 = 0 from rfl] at hw127_4)
 (try rw [Addr.add_zero'] at hw127_4)
 have hw127_3 := hx127_3
 (try rw [show ((0 : Int)).toNat = 0 from rfl] at hw127_3)
 (try rw [show 0 * 6 = 0 from rfl] at hw127_3)
 (try rw [Addr.add_zero'] at hw127_3)
 have hw127_2 := hx127_2
 (try rw [show ((0 : Int)).toNat = 0 from rfl] at hw127_2)
 (try rw [show 0 * 6 = 0 from rfl] at hw127_2)
 (try rw [Addr.add_zero'] at hw127_2)
 have hw127_1 := hx127_1
 (try rw [show ((0 : Int)).toNat = 0 from rfl] at hw127_1)
 (try rw [show 0 * 6 = 0 from rfl] at hw127_1)
 (try rw [Addr.add_zero'] at hw127_1)
 have hw127_0 := hx127_0
 (try rw [show ((0 : Int)).toNat = 0 from rfl] at hw127_0)
 (try rw [show 0 * 6 = 0 from rfl] at hw127_0)
 (try rw [Addr.add_zero'] at hw127_0)
 obtain rfl : ad125 = ad127 := (by injection e127)
 have qi127 : (0 < l0.length) = True := eq_true (by omega)
 (try rw [show ((0 : Int)).toNat = 0 from rfl] at hx127_0)
 (try rw [show 0 * 6 = 0 from rfl] at hx127_0)
 (try rw [Addr.add_zero'] at hx127_0)
 (try rw [show ((0 : Int)).toNat = 0 from rfl] at hx127_1)
 (try rw [show 0 * 6 = 0 from rfl] at hx127_1)
 (try rw [Addr.add_zero'] at hx127_1)
 (try rw [show ((0 : Int)).toNat = 0 from rfl] at hx127_2)
 (try rw [show 0 * 6 = 0 from rfl] at hx127_2)
 (try rw [Addr.add_zero'] at hx127_2)
 (try rw [show ((0 : Int)).toNat = 0 from rfl] at hx127_3)
 (try rw [show 0 * 6 = 0 from rfl] at hx127_3)
 (try rw [Addr.add_zero'] at hx127_3)
 (try rw [show ((0 : Int)).toNat = 0 from rfl] at hx127_4)
 (try rw [show 0 * 6 = 0 from rfl] at hx127_4)
 (try rw [Addr.add_zero'] at hx127_4)
 (try rw [show ((0 : Int)).toNat = 0 from rfl] at hx127_5)
 (try rw [show 0 * 6 = 0 from rfl] at hx127_5)
 (try rw [Addr.add_zero'] at hx127_5)
 replace hx127_0 := zL HB hx127_0
 replace hx127_1 := zL HB hx127_1
 replace hx127_2 := zL HB hx127_2
 replace hx127_3 := zL HB hx127_3
 replace hx127_4 := zL HB hx127_4
 replace hx127_5 := zL HB hx127_5
 have HR127_2 := Aside0.mk hi127_2
 have HC127_2 := Aside0.mk hl127_2
 clear hi127_2 hl127_2
 have HR127_5 := Aside0.mk hi127_5
 have HC127_5 := Aside0.mk hl127_5
 clear hi127_5 hl127_5
 replace p127 := eq_true p127
 replace q127 := eq_true q127
 refine start_ (n := 7) (S := fun w' => w'.cell? ⟨gb126, 0, none⟩ = some (.int .u32 ((rd_T31 l0 x25_2).f0.f0)) ∧ w'.cell? ⟨gb126, 1, none⟩ = some (.int .i64 ((rd_T31 l0 x25_2).f0.f1)) ∧ w'.cell? ⟨gb126, 2, none⟩ = some (.slice A125_2 ((rd_T31 l0 x25_2).f1).length c125_2) ∧ w'.cell? ⟨gb126, 3, none⟩ = some (.int .i64 ((rd_T31 l0 x25_2).f2)) ∧ w'.cell? ⟨gb126, 4, none⟩ = some (.int .i64 ((rd_T31 l0 x25_2).f3)) ∧ w'.cell? ⟨gb126, 5, none⟩ = some (.slice A125_5 ((rd_T31 l0 x25_2).f4).length c125_5) ∧ w'.cell? ad125 = some (.int .u32 ((rd_T31 l0 0).f0.f0)) ∧ w'.cell? ⟨ad125.block, ad125.off + 1, none⟩ = some (.int .i64 ((rd_T31 l0 0).f0.f1)) ∧ w'.cell? ⟨ad125.block, ad125.off + 2, none⟩ = some (.slice A127_2 ((rd_T31 l0 0).f1).length c127_2) ∧ w'.cell? ⟨ad125.block, ad125.off + 3, none⟩ = some (.int .i64 ((rd_T31 l0 0).f2)) ∧ w'.cell? ⟨ad125.block, ad125.off + 4, none⟩ = some (.int .i64 ((rd_T31 l0 0).f3)) ∧ w'.cell? ⟨ad125.block, ad125.off + 5, none⟩ = some (.slice A127_5 ((rd_T31 l0 0).f4).length c127_5)) (ds := []) (bm 7 0) (by kernel_rfl) rfl rfl ⟨zT BK126 0, zT BK126 1, zT BK126 2, zT BK126 3, zT BK126 4, zT BK126 5, (zL HB hw127_0), (zL HB hw127_1), (zL HB hw127_2), (zL HB hw127_3), (zL HB hw127_4), (zL HB hw127_5)⟩ (fun hHeld => ?_)
 generalize w25.drew = w26 at BK126 HB HR127_2 HR127_5 hx127_0 hx127_1 hx127_2 hx127_3 hx127_4 hx127_5 hHeld ⊢
 refine pv 0 (some 29) (bm 7 1) ?_
 refine pv 2 (some 31) (bm 7 5) ?_
 refine pv 3 (some 32) (bm 7 13) ?_
 refine pv 4 (some 33) (bm 7 29) ?_
 refine tv 1 (some 30) (bm 7 31) hHeld ?_
 refine tv 5 (some 34) (bm 7 63) hHeld ?_
 refine pv 6 (some 35) (bm 7 127) ?_
 refine done_ (by kernel_rfl) ?_
 try go_wp2
 go_roundg k2
 case measure => have := HK1.out; have := HK2.out; omega
 case rel => exact ⟨(wrap64 (x25_2 + 1)), zR, H', ⟨by have := HK1.out; have := HK2.out; omega⟩, ⟨zB⟩⟩
/-! ### best_steps: function 35 -/
def best_steps.f  : Option (List Int) := some (([46, 48, 49, 51] : List Int))
set_option maxHeartbeats 8000000 in
set_option maxRecDepth 100000 in
theorem best_steps.calls  (r : List Int) (w : World) (h : best_steps.f  = some r) :
 Calls Tryd.prog 35 #[] w fun e w' => ∃ v0_ : Value, e = .returned (v0_) ∧ Kd.R Kd.fn 65 w' w.heap.size (fun _ => True) v0_ r ∧ Below w.heap.size w w' := by
 have HB := Aside0.mk (Below.refl w.heap.size w)
 have H : (some (([46, 48, 49, 51] : List Int))) = some r := h
 clear h
 obtain ⟨y132, hy132⟩ : ∃ y_ : List Int, y_ = (([46, 48, 49, 51] : List Int)) := ⟨_, rfl⟩
 replace H : (some y132) = some r := by first | (rw [hy132]; with_reducible exact H) | (have H2_ := (Option.bind_some _ _).symm.trans H; rw [hy132]; with_reducible exact H2_) | (have H2_ := (Option.bind_some _ _).symm.trans H; with_reducible exact H2_) | with_reducible exact H | (rw [hy132]; exact H) | exact H
 have Ny132 := Aside0.mk hy132
 clear hy132
 obtain rfl := Option.some.inj H
 go_enter Tryd.func35, Tryd.ntmps35
 go_wp2_with (first | ((with_reducible refine gate_dst (N := 1) rfl ?_); refine Kd.R_lit Kd.fn _ 65 ?hg (N := 1) ?hd (xs := ([46, 48, 49, 51] : List Int)) (inner := [.func (.func 46) #[] #[], .func (.func 48) #[] #[], .func (.func 49) #[] #[], .func (.func 51) #[] #[]]) (ok := fun _ => True) (okp := fun _ => True) ?hr ?hp (fun _ hk => hk) trivial (Below.refl _ _) (Nat.le_refl _) (by simp) ?_; (case hd => rfl); (case hg => rfl); (case hr => first | (go_simp; done) | (go_simp; rfl)); (case hp => exact (Reps.one (show Kd.M Kd.fn _ _ _ 46 [.func (.func 46) #[] #[]] from rfl) (Reps.one (show Kd.M Kd.fn _ _ _ 48 [.func (.func 48) #[] #[]] from rfl) (Reps.one (show Kd.M Kd.fn _ _ _ 49 [.func (.func 49) #[] #[]] from rfl) (Reps.one (show Kd.M Kd.fn _ _ _ 51 [.func (.func 51) #[] #[]] from rfl) (Reps.none _ _)))))); intro v133 w1 ho2 hb hg_ hnew_; clear hg_ hnew_; (first | rw [← Ny132.out] at ho2 | (simp only [Int.reduceToNat] at ho2; rw [← Ny132.out] at ho2)); have n0_ := Aside0.mk (Kd.R_lower ho2 (below_size zB)); have n1_ := Aside0.mk (below_step zB hb); clear HB; have HO134 := n0_; have HB := n1_; clear n0_ n1_; clear hb ho2))
 go_ret
 exact ⟨_, zE, by (with_reducible repeat (first | apply Kd.R_alloc | apply Kd.R_drewN | apply Kd.R_drew)); exact HO134.out, zB⟩
/-! ### g16_: function 70 -/
def g16_.f (a0 : Int) : Option (Bool) := some (a0 != a0)
set_option maxHeartbeats 8000000 in
set_option maxRecDepth 100000 in
theorem g16_.calls (a0 : Int) (r : Bool) (w : World) (h : g16_.f a0 = some r) :
 Calls Tryd.prog 70 #[.int .i64 a0] w fun e w' => e = .returned (.bool r) ∧ Drawn0 w w' := by
 have H : (some (a0 != a0)) = some r := h
 clear h
 obtain rfl := Option.some.inj H
 go_enter Tryd.func70, Tryd.ntmps70
 go_wp2
 go_ret
 exact ⟨zR, by repeat (first | exact Drawn0.refl _ | apply Drawn0.step)⟩
/-! ### g20_: function 47 -/
def g20_.f (a0 : Int) (a1 : Int) : Option (Int) := (g16_.f a0).bind fun t144 => ((g16_.f a1).bind fun t145 => (if t144 = true then (if t145 = true then (some 0) else (some (-1))) else (if t145 = true then (some 1) else (if a0 < a1 then (some (-1)) else (if a0 > a1 then (some 1) else (some 0))))))
set_option maxHeartbeats 8000000 in
set_option maxRecDepth 100000 in
theorem g20_.calls (a0 : Int) (a1 : Int) (r : Int) (w : World) (h : g20_.f a0 a1 = some r) :
 Calls Tryd.prog 47 #[.int .i64 a0, .int .i64 a1] w fun e w' => e = .returned (.int .i64 r) ∧ Drawn0 w w' := by
 have H : ((g16_.f a0).bind fun t144 => ((g16_.f a1).bind fun t145 => (if t144 = true then (if t145 = true then (some 0) else (some (-1))) else (if t145 = true then (some 1) else (if a0 < a1 then (some (-1)) else (if a0 > a1 then (some 1) else (some 0))))))) = some r := h
 clear h
 replace H := Option.bind_eq_some_iff.mp H
 obtain ⟨t144, A30, H⟩ := H
 replace H : ((g16_.f a1).bind fun t145 => (if t144 = true then (if t145 = true then (some 0) else (some (-1))) else (if t145 = true then (some 1) else (if a0 < a1 then (some (-1)) else (if a0 > a1 then (some 1) else (some 0)))))) = some r := H
 have A3 := Aside0.mk A30
 clear A30
 replace H := Option.bind_eq_some_iff.mp H
 obtain ⟨t145, A40, H⟩ := H
 replace H : (if t144 = true then (if t145 = true then (some 0) else (some (-1))) else (if t145 = true then (some 1) else (if a0 < a1 then (some (-1)) else (if a0 > a1 then (some 1) else (some 0))))) = some r := H
 have A4 := Aside0.mk A40
 clear A40
 by_cases c5 : t144 = true
 ·
  subst c5
  have H1 : (if t145 = true then (some 0) else (some (-1))) = some r := by rw [if_pos rfl] at H; exact H
  clear H
  have H := H1
  clear H1
  by_cases c6 : t145 = true
  ·
   subst c6
   have H1 : (some 0) = some r := by rw [if_pos rfl] at H; exact H
   clear H
   have H := H1
   clear H1
   obtain rfl := Option.some.inj H
   go_enter Tryd.func47, Tryd.ntmps47
   go_wp2_with (first | ((with_reducible refine gate_callee (f := 70) rfl ?_); refine goesL_ (some 8) rfl rfl Tryd.func70 (by kernel_rfl) rfl #[.int .i64 a0] rfl zM ?_; (with_reducible refine (g16_.calls a0 true _ A3.out).mono ?_); rintro e w' ⟨rfl, ⟨nd, rfl⟩⟩; refine ⟨_, rfl, ?_⟩) | ((with_reducible refine gate_callee (f := 70) rfl ?_); refine goesL_ (some 10) rfl rfl Tryd.func70 (by kernel_rfl) rfl #[.int .i64 a1] rfl zM ?_; (with_reducible refine (g16_.calls a1 true _ A4.out).mono ?_); rintro e w' ⟨rfl, ⟨nd, rfl⟩⟩; refine ⟨_, rfl, ?_⟩))
   go_ret
   exact ⟨zR, by repeat (first | exact Drawn0.refl _ | apply Drawn0.step)⟩
  replace c6 := Bool.eq_false_iff.mpr c6
  subst c6
  have H1 : (some (-1)) = some r := by rw [if_neg (show ¬ (false = true) by decide)] at H; exact H
  clear H
  have H := H1
  clear H1
  obtain rfl := Option.some.inj H
  go_enter Tryd.func47, Tryd.ntmps47
  go_wp2_with (first | ((with_reducible refine gate_callee (f := 70) rfl ?_); refine goesL_ (some 8) rfl rfl Tryd.func70 (by kernel_rfl) rfl #[.int .i64 a0] rfl zM ?_; (with_reducible refine (g16_.calls a0 true _ A3.out).mono ?_); rintro e w' ⟨rfl, ⟨nd, rfl⟩⟩; refine ⟨_, rfl, ?_⟩) | ((with_reducible refine gate_callee (f := 70) rfl ?_); refine goesL_ (some 10) rfl rfl Tryd.func70 (by kernel_rfl) rfl #[.int .i64 a1] rfl zM ?_; (with_reducible refine (g16_.calls a1 false _ A4.out).mono ?_); rintro e w' ⟨rfl, ⟨nd, rfl⟩⟩; refine ⟨_, rfl, ?_⟩))
  go_ret
  exact ⟨zR, by repeat (first | exact Drawn0.refl _ | apply Drawn0.step)⟩
 replace c5 := Bool.eq_false_iff.mpr c5
 subst c5
 have H1 : (if t145 = true then (some 1) else (if a0 < a1 then (some (-1)) else (if a0 > a1 then (some 1) else (some 0)))) = some r := by rw [if_neg (show ¬ (false = true) by decide)] at H; exact H
 clear H
 have H := H1
 clear H1
 by_cases c7 : t145 = true
 ·
  subst c7
  have H1 : (some 1) = some r := by rw [if_pos rfl] at H; exact H
  clear H
  have H := H1
  clear H1
  obtain rfl := Option.some.inj H
  go_enter Tryd.func47, Tryd.ntmps47
  go_wp2_with (first | ((with_reducible refine gate_callee (f := 70) rfl ?_); refine goesL_ (some 8) rfl rfl Tryd.func70 (by kernel_rfl) rfl #[.int .i64 a0] rfl zM ?_; (with_reducible refine (g16_.calls a0 false _ A3.out).mono ?_); rintro e w' ⟨rfl, ⟨nd, rfl⟩⟩; refine ⟨_, rfl, ?_⟩) | ((with_reducible refine gate_callee (f := 70) rfl ?_); refine goesL_ (some 10) rfl rfl Tryd.func70 (by kernel_rfl) rfl #[.int .i64 a1] rfl zM ?_; (with_reducible refine (g16_.calls a1 true _ A4.out).mono ?_); rintro e w' ⟨rfl, ⟨nd, rfl⟩⟩; refine ⟨_, rfl, ?_⟩))
  go_ret
  exact ⟨zR, by repeat (first | exact Drawn0.refl _ | apply Drawn0.step)⟩
 replace c7 := Bool.eq_false_iff.mpr c7
 subst c7
 have H1 : (if a0 < a1 then (some (-1)) else (if a0 > a1 then (some 1) else (some 0))) = some r := by rw [if_neg (show ¬ (false = true) by decide)] at H; exact H
 clear H
 have H := H1
 clear H1
 by_cases c8 : a0 < a1
 ·
  rw [if_pos c8] at H
  have c8b0 : decide (a0 < a1) = true := decide_eq_true c8
  clear c8
  obtain rfl := Option.some.inj H
  go_enter Tryd.func47, Tryd.ntmps47
  go_wp2_with (first | ((with_reducible refine gate_callee (f := 70) rfl ?_); refine goesL_ (some 8) rfl rfl Tryd.func70 (by kernel_rfl) rfl #[.int .i64 a0] rfl zM ?_; (with_reducible refine (g16_.calls a0 false _ A3.out).mono ?_); rintro e w' ⟨rfl, ⟨nd, rfl⟩⟩; refine ⟨_, rfl, ?_⟩) | ((with_reducible refine gate_callee (f := 70) rfl ?_); refine goesL_ (some 10) rfl rfl Tryd.func70 (by kernel_rfl) rfl #[.int .i64 a1] rfl zM ?_; (with_reducible refine (g16_.calls a1 false _ A4.out).mono ?_); rintro e w' ⟨rfl, ⟨nd, rfl⟩⟩; refine ⟨_, rfl, ?_⟩))
  go_ret
  exact ⟨zR, by repeat (first | exact Drawn0.refl _ | apply Drawn0.step)⟩
 rw [if_neg c8] at H
 have c8b0 : decide (a0 < a1) = false := decide_eq_false c8
 clear c8
 by_cases c9 : a0 > a1
 ·
  rw [if_pos c9] at H
  have c9b0 : decide (a1 < a0) = true := decide_eq_true c9
  clear c9
  obtain rfl := Option.some.inj H
  go_enter Tryd.func47, Tryd.ntmps47
  go_wp2_with (first | ((with_reducible refine gate_callee (f := 70) rfl ?_); refine goesL_ (some 8) rfl rfl Tryd.func70 (by kernel_rfl) rfl #[.int .i64 a0] rfl zM ?_; (with_reducible refine (g16_.calls a0 false _ A3.out).mono ?_); rintro e w' ⟨rfl, ⟨nd, rfl⟩⟩; refine ⟨_, rfl, ?_⟩) | ((with_reducible refine gate_callee (f := 70) rfl ?_); refine goesL_ (some 10) rfl rfl Tryd.func70 (by kernel_rfl) rfl #[.int .i64 a1] rfl zM ?_; (with_reducible refine (g16_.calls a1 false _ A4.out).mono ?_); rintro e w' ⟨rfl, ⟨nd, rfl⟩⟩; refine ⟨_, rfl, ?_⟩))
  go_ret
  exact ⟨zR, by repeat (first | exact Drawn0.refl _ | apply Drawn0.step)⟩
 rw [if_neg c9] at H
 have c9b0 : decide (a1 < a0) = false := decide_eq_false c9
 clear c9
 obtain rfl := Option.some.inj H
 go_enter Tryd.func47, Tryd.ntmps47
 go_wp2_with (first | ((with_reducible refine gate_callee (f := 70) rfl ?_); refine goesL_ (some 8) rfl rfl Tryd.func70 (by kernel_rfl) rfl #[.int .i64 a0] rfl zM ?_; (with_reducible refine (g16_.calls a0 false _ A3.out).mono ?_); rintro e w' ⟨rfl, ⟨nd, rfl⟩⟩; refine ⟨_, rfl, ?_⟩) | ((with_reducible refine gate_callee (f := 70) rfl ?_); refine goesL_ (some 10) rfl rfl Tryd.func70 (by kernel_rfl) rfl #[.int .i64 a1] rfl zM ?_; (with_reducible refine (g16_.calls a1 false _ A4.out).mono ?_); rintro e w' ⟨rfl, ⟨nd, rfl⟩⟩; refine ⟨_, rfl, ?_⟩))
 go_ret
 exact ⟨zR, by repeat (first | exact Drawn0.refl _ | apply Drawn0.step)⟩
/-! ### best_steps_1: function 46 -/
def best_steps_1.f (a0_0 : Int) (a0_1 : Int) (l0_2 : List Int) (a0_3 : Int) (a0_4 : Int) (l0_5 : List Int) (a1_0 : Int) (a1_1 : Int) (l1_2 : List Int) (a1_3 : Int) (a1_4 : Int) (l1_5 : List Int) : Option (Int) := (g20_.f a0_3 a1_3).bind fun t148 => (some t148)
set_option maxHeartbeats 8000000 in
set_option maxRecDepth 100000 in
theorem best_steps_1.calls (a0_0 : Int) (a0_1 : Int) (A0_2 : Option Addr) (c0_2 : Nat) (l0_2 : List Int) (a0_3 : Int) (a0_4 : Int) (A0_5 : Option Addr) (c0_5 : Nat) (l0_5 : List Int) (a1_0 : Int) (a1_1 : Int) (A1_2 : Option Addr) (c1_2 : Nat) (l1_2 : List Int) (a1_3 : Int) (a1_4 : Int) (A1_5 : Option Addr) (c1_5 : Nat) (l1_5 : List Int) (r : Int) (w : World) (hr0_2 : Kd.C (Kd.int .i64) w A0_2 l0_2.length l0_2) (hc0_2 : l0_2.length ≤ c0_2) (hr0_5 : Kd.C (Kd.int .i64) w A0_5 l0_5.length l0_5) (hc0_5 : l0_5.length ≤ c0_5) (hr1_2 : Kd.C (Kd.int .i64) w A1_2 l1_2.length l1_2) (hc1_2 : l1_2.length ≤ c1_2) (hr1_5 : Kd.C (Kd.int .i64) w A1_5 l1_5.length l1_5) (hc1_5 : l1_5.length ≤ c1_5) (h : best_steps_1.f a0_0 a0_1 l0_2 a0_3 a0_4 l0_5 a1_0 a1_1 l1_2 a1_3 a1_4 l1_5 = some r) :
 Calls Tryd.prog 46 #[.agg #[.int .u32 a0_0, .int .i64 a0_1, .slice A0_2 l0_2.length c0_2, .int .i64 a0_3, .int .i64 a0_4, .slice A0_5 l0_5.length c0_5], .agg #[.int .u32 a1_0, .int .i64 a1_1, .slice A1_2 l1_2.length c1_2, .int .i64 a1_3, .int .i64 a1_4, .slice A1_5 l1_5.length c1_5]] w fun e w' => e = .returned (.int .i64 r) ∧ Below w.heap.size w w' := by
 have hu31 := Tryd.underlying31
 have hu3 := Tryd.underlying3
 have HR0_2 := Aside0.mk hr0_2
 have HC0_2 := Aside0.mk hc0_2
 clear hr0_2 hc0_2
 have HR0_5 := Aside0.mk hr0_5
 have HC0_5 := Aside0.mk hc0_5
 clear hr0_5 hc0_5
 have HR1_2 := Aside0.mk hr1_2
 have HC1_2 := Aside0.mk hc1_2
 clear hr1_2 hc1_2
 have HR1_5 := Aside0.mk hr1_5
 have HC1_5 := Aside0.mk hc1_5
 clear hr1_5 hc1_5
 have HB := Aside0.mk (Below.refl w.heap.size w)
 have H : ((g20_.f a0_3 a1_3).bind fun t148 => (some t148)) = some r := h
 clear h
 replace H := Option.bind_eq_some_iff.mp H
 obtain ⟨t148, A30, H⟩ := H
 replace H : (some t148) = some r := H
 have A3 := Aside0.mk A30
 clear A30
 obtain rfl := Option.some.inj H
 go_enter Tryd.func46, Tryd.ntmps46
 go_wp2_with (first | ((with_reducible refine gate_dst (N := 2) rfl ?_); refine bx 2 (#[.int .u32 a0_0, .int .i64 a0_1, .slice A0_2 l0_2.length c0_2, .int .i64 a0_3, .int .i64 a0_4, .slice A0_5 l0_5.length c0_5]) 31 ?_; intro gb146 hg w4 hbox hb; have n0_ := Aside0.mk (below_step zB hb); have n1_ := Aside0.mk (hbox); have n2_ := Aside0.mk ((zG hg : w.heap.size ≤ gb146)); have n3_ := Aside0.mk ((zG hg : w.heap.size ≤ gb146)); clear HB; have HB := n0_; have BK146 := n1_; have GW146 := n2_; have GE146 := n3_; clear n0_ n1_ n2_ n3_; clear hb hbox hg) | ((with_reducible refine gate_dst (N := 3) rfl ?_); refine bx 3 (#[.int .u32 a1_0, .int .i64 a1_1, .slice A1_2 l1_2.length c1_2, .int .i64 a1_3, .int .i64 a1_4, .slice A1_5 l1_5.length c1_5]) 31 ?_; intro gb147 hg w5 hbox hb; have n0_ := Aside0.mk (blk_below (g := gb146) (o := .cells #[.int .u32 a0_0, .int .i64 a0_1, .slice A0_2 l0_2.length c0_2, .int .i64 a0_3, .int .i64 a0_4, .slice A0_5 l0_5.length c0_5] 31 (0, 0)) (zK BK146) hb); have n1_ := Aside0.mk (below_step zB hb); have n2_ := Aside0.mk (hbox); have n3_ := Aside0.mk ((zG hg : w.heap.size ≤ gb147)); have n4_ := Aside0.mk ((zG hg : w.heap.size ≤ gb147)); have n5_ := Aside0.mk ((by rw [hg]; exact Nat.ne_of_lt (blk_lt (g := gb146) (o := .cells #[.int .u32 a0_0, .int .i64 a0_1, .slice A0_2 l0_2.length c0_2, .int .i64 a0_3, .int .i64 a0_4, .slice A0_5 l0_5.length c0_5] 31 (0, 0)) (zK BK146)) : gb146 ≠ gb147)); have n6_ := Aside0.mk ((by rw [hg]; exact Nat.ne_of_gt (blk_lt (g := gb146) (o := .cells #[.int .u32 a0_0, .int .i64 a0_1, .slice A0_2 l0_2.length c0_2, .int .i64 a0_3, .int .i64 a0_4, .slice A0_5 l0_5.length c0_5] 31 (0, 0)) (zK BK146)) : gb147 ≠ gb146)); clear BK146; clear HB; have BK146 := n0_; have HB := n1_; have BK147 := n2_; have GW147 := n3_; have GE147 := n4_; have NB146_147 := n5_; have NB147_146 := n6_; clear n0_ n1_ n2_ n3_ n4_ n5_ n6_; clear hb hbox hg; have hnb6 := NB146_147.out; have hnc6 := NB147_146.out; have hcz7_0 : w5.cell? ⟨gb146, 0, none⟩ = some (.int .u32 a0_0) := zT BK146 0; have hcz7_1 : w5.cell? ⟨gb146, 1, none⟩ = some (.int .i64 a0_1) := zT BK146 1; have hcz7_2 : w5.cell? ⟨gb146, 2, none⟩ = some (.slice A0_2 l0_2.length c0_2) := zT BK146 2; have hcz7_3 : w5.cell? ⟨gb146, 3, none⟩ = some (.int .i64 a0_3) := zT BK146 3; have hcz7_4 : w5.cell? ⟨gb146, 4, none⟩ = some (.int .i64 a0_4) := zT BK146 4; have hcz7_5 : w5.cell? ⟨gb146, 5, none⟩ = some (.slice A0_5 l0_5.length c0_5) := zT BK146 5; have hfz7_0 := blk_frozen BK146.out 0; have hfz7_1 := blk_frozen BK146.out 1; have hfz7_2 := blk_frozen BK146.out 2; have hfz7_3 := blk_frozen BK146.out 3; have hfz7_4 := blk_frozen BK146.out 4; have hfz7_5 := blk_frozen BK146.out 5; have hcz8_0 : w5.cell? ⟨gb147, 0, none⟩ = some (.int .u32 a1_0) := zT BK147 0; have hcz8_1 : w5.cell? ⟨gb147, 1, none⟩ = some (.int .i64 a1_1) := zT BK147 1; have hcz8_2 : w5.cell? ⟨gb147, 2, none⟩ = some (.slice A1_2 l1_2.length c1_2) := zT BK147 2; have hcz8_3 : w5.cell? ⟨gb147, 3, none⟩ = some (.int .i64 a1_3) := zT BK147 3; have hcz8_4 : w5.cell? ⟨gb147, 4, none⟩ = some (.int .i64 a1_4) := zT BK147 4; have hcz8_5 : w5.cell? ⟨gb147, 5, none⟩ = some (.slice A1_5 l1_5.length c1_5) := zT BK147 5; have hfz8_0 := blk_frozen BK147.out 0; have hfz8_1 := blk_frozen BK147.out 1; have hfz8_2 := blk_frozen BK147.out 2; have hfz8_3 := blk_frozen BK147.out 3; have hfz8_4 := blk_frozen BK147.out 4; have hfz8_5 := blk_frozen BK147.out 5) | ((with_reducible refine gate_callee (f := 47) rfl ?_); refine goesL_ (some 9) rfl rfl Tryd.func47 (by kernel_rfl) rfl #[.int .i64 a0_3, .int .i64 a1_3] rfl zM ?_; (with_reducible refine (g20_.calls a0_3 a1_3 t148 _ A3.out).mono ?_); rintro e w' ⟨rfl, ⟨nd, rfl⟩⟩; refine ⟨_, rfl, ?_⟩))
 go_ret
 exact ⟨zE, zB⟩
/-! ### g29_: function 32 -/
def g29_.f (l0 : List Int) : Option (List Int) := (some (([] : List Int) : List Int)).bind fun y152 => (if y152.length + l0.length < 17592186044416 then (some (y152 ++ l0)) else (none))
set_option maxHeartbeats 8000000 in
set_option maxRecDepth 100000 in
theorem g29_.calls (A0 : Option Addr) (c0 : Nat) (l0 : List Int) (r : List Int) (w : World) (hr0 : Kd.C (Kd.int .i64) w A0 l0.length l0) (hc0 : l0.length ≤ c0) (h : g29_.f l0 = some r) :
 Calls Tryd.prog 32 #[.slice A0 l0.length c0] w fun e w' => ∃ v0_ : Value, e = .returned (v0_) ∧ Kd.R (Kd.int .i64) 3 w' w.heap.size (fun _ => True) v0_ r ∧ Below w.heap.size w w' := by
 have HR0 := Aside0.mk hr0
 have HC0 := Aside0.mk hc0
 clear hr0 hc0
 have HB := Aside0.mk (Below.refl w.heap.size w)
 have H : ((some (([] : List Int) : List Int)).bind fun y152 => (if y152.length + l0.length < 17592186044416 then (some (y152 ++ l0)) else (none))) = some r := h
 clear h
 cases A0 with
 | none =>
  have hl_ : l0 = [] := by
   obtain ⟨_, _, h3_⟩ := HR0.out
   rcases Nat.eq_zero_or_pos l0.length with h_ | h_
   · exact List.eq_nil_of_length_eq_zero h_
   · obtain ⟨_, e_, _⟩ := h3_ h_; cases e_
  subst hl_
  obtain rfl : r = [] := by
   simp only [Option.bind_some, List.length_nil, Nat.add_zero, List.append_nil] at H
   rw [if_pos (by omega)] at H
   exact (Option.some.inj H).symm
  go_enter Tryd.func32, Tryd.ntmps32
  have hnil_ := fun (w : World) => Lib.run_eql_slice_nil (P := Tryd.prog) w 23 3 none 0 c0 0 0 Tryd.underlying23
  go_wp2
  go_ret
  exact ⟨_, rfl, by first | exact Kd.R_nil _ _ _ _ _ | exact Kd.S_nil _ _ _ _ _ | exact Kd.N_nil _ _ _ _ _ | exact Kd.V_nil _ _ _ _ _, HB.out⟩
 | some adn_ =>
 have hnil_ := fun (w : World) => Lib.run_eql_slice_nil (P := Tryd.prog) w 23 3 (some adn_) l0.length c0 0 0 Tryd.underlying23
 obtain ⟨y152, hy152⟩ : ∃ y_ : List Int, y_ = (([] : List Int)) := ⟨_, rfl⟩
 replace H : (if y152.length + l0.length < 17592186044416 then (some (y152 ++ l0)) else (none)) = some r := by first | (rw [hy152]; with_reducible exact H) | (have H2_ := (Option.bind_some _ _).symm.trans H; rw [hy152]; with_reducible exact H2_) | (have H2_ := (Option.bind_some _ _).symm.trans H; with_reducible exact H2_) | with_reducible exact H | (rw [hy152]; exact H) | exact H
 have Ny152 := Aside0.mk hy152
 clear hy152
 by_cases c2 : y152.length + l0.length < 17592186044416
 rotate_left
 · rw [if_neg c2] at H; exact absurd H (by simp)
 rw [if_pos c2] at H
 have LMc2 := Aside0.mk c2
 clear c2
 obtain ⟨y155, hy155⟩ : ∃ y_ : List Int, y_ = (y152 ++ l0) := ⟨_, rfl⟩
 replace H : (some y155) = some r := by first | (rw [hy155]; with_reducible exact H) | (have H2_ := (Option.bind_some _ _).symm.trans H; rw [hy155]; with_reducible exact H2_) | (have H2_ := (Option.bind_some _ _).symm.trans H; with_reducible exact H2_) | with_reducible exact H | (rw [hy155]; exact H) | exact H
 have Ny155 := Aside0.mk hy155
 clear hy155
 obtain rfl := Option.some.inj H
 go_enter Tryd.func32, Tryd.ntmps32
 go_wp2_with (first | ((with_reducible refine gate_dst (N := 5) rfl ?_); refine Kd.R_lit (Kd.int .i64) _ 3 ?hg (N := 5) ?hd (xs := ([] : List Int)) (inner := []) (ok := fun _ => True) (okp := fun _ => True) ?hr ?hp (fun _ hk => hk) trivial (Below.refl _ _) (Nat.le_refl _) (by simp) ?_; (case hd => rfl); (case hg => rfl); (case hr => first | (go_simp; done) | (go_simp; rfl)); (case hp => exact (Reps.none _ _)); intro v153 w3 ho4 hb hg_ hnew_; clear hg_ hnew_; (first | rw [← Ny152.out] at ho4 | (simp only [Int.reduceToNat] at ho4; rw [← Ny152.out] at ho4)); have n0_ := Aside0.mk (Kd.R_lower ho4 (below_size zB)); have n1_ := Aside0.mk (below_step zB hb); clear HB; have HO154 := n0_; have HB := n1_; clear n0_ n1_; clear hb ho4) | ((with_reducible refine gate_builtin (b := .append) (xs := #[.tmp 5, .tmp 6]) rfl ?_); at_builtin; refine Kd.R_append_rows (Kd.int .i64) (w0 := w) w.heap.size rfl (.tmp 5) (.tmp 6) 23 3 (.int .i64 0) 8 rfl Tryd.underlying23 info3 rfl (by decide) (by omega) v153 y152 l0 _ _ _ (fun _ => True) (fun _ => False) rfl rfl ?aO ?aR (fun _ _ h => h) (fun _ h => h.elim) ?aF ?aB ?aS ?aL ?_; (case aR => exact zC HR0 HB); (case aB => exact zB); (case aF => exact (fun _ _ => trivial)); (case aO => exact (zO HO154)); (case aS => exact (below_size zB)); (case aL => have := LMc2.out; omega); intro v156 w5 ho hb hg hat; rw [← Ny155.out] at ho; have n0_ := Aside0.mk (hb); have n1_ := Aside0.mk (ho); clear HB; clear HO154; have HB := n0_; have HO157 := n1_; clear n0_ n1_; clear ho hb hg hat))
 go_ret
 exact ⟨_, zE, by (with_reducible repeat (first | apply Kd.R_alloc | apply Kd.R_drewN | apply Kd.R_drew)); exact HO157.out, zB⟩
end Go.Proofs.YtplcdbhklepkgaaDoor.BO
