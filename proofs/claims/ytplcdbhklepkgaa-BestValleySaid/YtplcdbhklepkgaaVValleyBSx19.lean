-- Made by gen.py, a program of this session's, over the kit's print.
import Derived.Test.YtplcdbhklepkgaaVValleyShort
import Derived.Test.YtplcdbhklepkgaaVValleyBSx0
import Derived.Test.YtplcdbhklepkgaaVValleyBSx8
import Derived.Test.YtplcdbhklepkgaaVValleyBSx9
import Derived.Test.YtplcdbhklepkgaaVValleyBSx17
import Derived.Test.YtplcdbhklepkgaaVValleyBSx18
namespace Go.Proofs.Ytplcdbhklepkgaa.BS
open Go.RowKit Go.Proofs.YtplcdbhklepkgaaW.PrintWords Go.Proofs.YtplcdbhklepkgaaW.PrintLast Go.Proofs.YtplcdbhklepkgaaW.PrintMore Go.Proofs.Ytplcdbhklepkgaa.GenWords
attribute [local go_sem] max2_int min2_int max_two min_two max_three min_three max_four min_four   -- for this text's walks alone
set_option linter.unusedVariables false
set_option linter.unusedSimpArgs false

/-! ### g0_: function 19 -/
def g0_.l0 : Nat → List (S52) → List (S52) → Int → Int → Option (Bool)
  | 0, _, _, _, _ => none
  | k + 1, x1, x15, x16, x17 => if x17 < x16 then (if 0 ≤ x17 then (if x17 < (x15.length : Int) then (if x17 < (x1.length : Int) then ((g24_.f k ((rd_T52 x15 x17).f0) ((rd_T52 x1 x17).f0)).bind fun t829 => (if t829 = true then (g0_.l0 k x1 x15 x16 (wrap64 (x17 + 1))) else (some false))) else (none)) else (none)) else (none)) else (some true)
def g0_.f (k : Nat) (l0 : List (S52)) (l1 : List (S52))  : Option (Bool) := if (l0.length : Int) = (l1.length : Int) then (g0_.l0 k l1 l0 (l0.length : Int) 0) else (some false)
theorem g0_.mono_l : ∀ k, (∀ y0 y1 y2 y3, LeO (g0_.l0 k y0 y1 y2 y3) (g0_.l0 (k + 1) y0 y1 y2 y3))
  | 0 => fun _ _ _ _ r h => by simp [g0_.l0] at h
  | k + 1 => by
    have ih0 := g0_.mono_l k
    · intro y0 y1 y2 y3
      unfold g0_.l0
      repeat' (with_reducible first | exact ih0 _ _ _ _ | exact g24_.mono _ _ _ | exact LeO.refl _ | exact LeO.none _ | refine LeO.ite ?_ ?_ | refine LeO.bind ?_ (fun _ => ?_))
theorem g0_.mono : ∀ a0 a1 k, LeO (g0_.f k a0 a1) (g0_.f (k + 1) a0 a1) := by
  intro a0 a1 k
  have ih0 := g0_.mono_l k
  unfold g0_.f
  repeat' (with_reducible first | exact ih0 _ _ _ _ | exact g24_.mono _ _ _ | exact LeO.refl _ | exact LeO.none _ | refine LeO.ite ?_ ?_ | refine LeO.bind ?_ (fun _ => ?_))
set_option maxHeartbeats 8000000 in
set_option maxRecDepth 100000 in
theorem g0_.calls (k : Nat) (A0 : Option Addr) (c0 : Nat) (l0 : List (S52)) (A1 : Option Addr) (c1 : Nat) (l1 : List (S52))  (r : Bool) (w : World) (hr0 : Kd.C k52 w A0 l0.length l0) (hc0 : l0.length ≤ c0) (hr1 : Kd.C k52 w A1 l1.length l1) (hc1 : l1.length ≤ c1) (h : g0_.f k l0 l1 = some r) :
 Calls Try.prog 19 #[.slice A0 l0.length c0, .slice A1 l1.length c1, .func (.func 20) #[] #[]] w fun e w' => e = .returned (.bool r) ∧ Below w.heap.size w w' := by
 have hu52 := Try.underlying52
 have HR0 := Aside0.mk hr0
 have HC0 := Aside0.mk hc0
 clear hr0 hc0
 have HR1 := Aside0.mk hr1
 have HC1 := Aside0.mk hc1
 clear hr1 hc1
 have HB := Aside0.mk (Below.refl w.heap.size w)
 have H : (if (l0.length : Int) = (l1.length : Int) then (g0_.l0 k l1 l0 (l0.length : Int) 0) else (some false)) = some r := h
 clear h
 by_cases c4 : (l0.length : Int) = (l1.length : Int)
 rotate_left
 ·
  rw [if_neg c4] at H
  have c4b0 : ((l0.length : Int) == (l1.length : Int)) = false := beq_eq_false_iff_ne.mpr c4
  have c4b1 : ((l0.length : Int) != (l1.length : Int)) = true := bne_iff_ne.mpr c4
  have c4b2 : (l0.length == l1.length) = false := by first | simpa using c4 | (simp at c4 ⊢; omega)
  obtain rfl := Option.some.inj H
  go_enter Try.func19, Try.ntmps19
  go_wp2
  go_ret
  exact ⟨zE, zB⟩
 rw [if_pos c4] at H
 have c4b0 : ((l0.length : Int) == (l1.length : Int)) = true := beq_iff_eq.mpr c4
 have c4b1 : ((l0.length : Int) != (l1.length : Int)) = false := bne_eq_false_iff_eq.mpr c4
 have c4b2 : (l0.length == l1.length) = true := by first | simpa using c4 | (simp at c4 ⊢; omega)
 clear c4
 have H' := Aside0.mk H
 clear H
 go_enter Try.func19, Try.ntmps19
 go_wp2
 go_loopg [17] k (fun kq v17 w' => ∃ (x17_1 : Int), v17 = .int .i64 x17_1 ∧ Aside0 (g0_.l0 kq l1 l0 (l0.length : Int) x17_1 = some r) ∧ Aside0 (kq ≤ k) ∧ Aside0 (Below w.heap.size w w'))
 case atStart => exact ⟨(0), zR, H', ⟨Nat.le_refl _⟩, ⟨zB⟩⟩
 clear H'
 try clear c1
 try clear p2
 try clear c4
 try clear c4b0
 try clear c4b1
 try clear c4b2
 obtain ⟨x17_1, rfl, HA, HK1, HB⟩ := hrel
 rcases gk with _ | k1
 · exact absurd HA.out (by simp [g0_.l0])
 have H := HA.out
 clear HA
 simp only [g0_.l0] at H
 by_cases c5 : x17_1 < (l0.length : Int)
 rotate_left
 ·
  rw [if_neg c5] at H
  have c5b0 : decide (x17_1 < (l0.length : Int)) = false := decide_eq_false c5
  clear c5
  obtain rfl := Option.some.inj H
  go_wp2
  go_ret
  exact ⟨zE, zB⟩
 rw [if_pos c5] at H
 have c5b0 : decide (x17_1 < (l0.length : Int)) = true := decide_eq_true c5
 clear c5
 by_cases c6 : 0 ≤ x17_1
 rotate_left
 · rw [if_neg c6] at H; exact absurd H (by simp)
 rw [if_pos c6] at H
 have c6b0 : decide (0 ≤ x17_1) = true := decide_eq_true c6
 clear c6
 by_cases c7 : x17_1 < (l0.length : Int)
 rotate_left
 · rw [if_neg c7] at H; exact absurd H (by simp)
 rw [if_pos c7] at H
 have c7b0 : decide (x17_1 < (l0.length : Int)) = true := decide_eq_true c7
 clear c7
 by_cases c8 : x17_1 < (l1.length : Int)
 rotate_left
 · rw [if_neg c8] at H; exact absurd H (by simp)
 rw [if_pos c8] at H
 have c8b0 : decide (x17_1 < (l1.length : Int)) = true := decide_eq_true c8
 clear c8
 replace H := Option.bind_eq_some_iff.mp H
 obtain ⟨t829, A90, H⟩ := H
 replace H : (if t829 = true then (g0_.l0 k1 l1 l0 (l0.length : Int) (wrap64 (x17_1 + 1))) else (some false)) = some r := H
 have A9 := Aside0.mk A90
 clear A90
 by_cases c10 : t829 = true
 ·
  subst c10
  have H1 : (g0_.l0 k1 l1 l0 (l0.length : Int) (wrap64 (x17_1 + 1))) = some r := by rw [if_pos rfl] at H; exact H
  clear H
  have H := H1
  clear H1
  have H' := Aside0.mk H
  clear H
  have p825 : 0 ≤ (x17_1 : Int) := od
  have q825 : x17_1 < (l0.length : Int) := od
  obtain ⟨ad825, A825_0, c825_0, e825, hx825_0, hl825_0, hi825_0⟩ := at_T52 HR0.out x17_1 p825 q825
  cases e825
  replace hx825_0 := zL HB hx825_0
  have HR825_0 := Aside0.mk hi825_0
  have HC825_0 := Aside0.mk hl825_0
  clear hi825_0 hl825_0
  replace p825 := eq_true p825
  replace q825 := eq_true q825
  go_wp2_with (first | ((with_reducible refine gate_dst (N := 8) rfl ?_); refine bx 8 (#[.slice none 0 0]) 52 ?_; intro gb826 hg w11 hbox hb; have n0_ := Aside0.mk (below_step zB hb); have n1_ := Aside0.mk (hbox); have n2_ := Aside0.mk ((zG hg : w.heap.size ≤ gb826)); have n3_ := Aside0.mk ((zG hg : w.heap.size ≤ gb826)); clear HB; have HB := n0_; have BK826 := n1_; have GW826 := n2_; have GE826 := n3_; clear n0_ n1_ n2_ n3_; clear hb hbox hg; have hcz12_0 : w11.cell? ⟨gb826, 0, none⟩ = some (.slice none 0 0) := zT BK826 0; have hfz12_0 := blk_frozen BK826.out 0; have p827 : 0 ≤ (x17_1 : Int) := od; have q827 : x17_1 < (l1.length : Int) := od; obtain ⟨ad827, A827_0, c827_0, e827, hx827_0, hl827_0, hi827_0⟩ := at_T52 HR1.out x17_1 p827 q827; cases e827; have hn827_0 : ad827.block ≠ gb826 := Nat.ne_of_lt (Nat.lt_of_lt_of_le (by have := World.block_lt_of_cell? _ _ hx827_0; first | rwa [add_block] at this | exact this) GW826.out); replace hx827_0 := zL HB hx827_0; have HR827_0 := Aside0.mk hi827_0; have HC827_0 := Aside0.mk hl827_0; clear hi827_0 hl827_0; replace hx827_0 := (cell_far (p := ⟨gb826, 0, none⟩) (by first | (rw [add_block]; exact hn827_0) | (show (Addr.add _ _).block ≠ _; rw [add_block]; exact hn827_0) | exact hn827_0) (.slice A825_0 ((rd_T52 l0 x17_1).f0).length c825_0)).trans hx827_0; clear hn827_0; replace p827 := eq_true p827; replace q827 := eq_true q827) | ((with_reducible refine gate_dst (N := 9) rfl ?_); refine bx 9 (#[.slice none 0 0]) 52 ?_; intro gb828 hg w13 hbox hb; have n0_ := Aside0.mk (blk_below (g := gb826) (o := .cells #[.slice A825_0 ((rd_T52 l0 x17_1).f0).length c825_0] 52 (0, 0)) (by (with_reducible repeat (first | refine blk_drewN ?_ _ | refine blk_drew ?_ | refine blk_alloc ?_ _)); refine blk_put (cs := #[.slice none 0 0]) ?_ 0 _ rfl; (with_reducible repeat (first | refine blk_drewN ?_ _ | refine blk_drew ?_ | refine blk_alloc ?_ _)); exact BK826.out) hb); have n1_ := Aside0.mk (below_step zB hb); have n2_ := Aside0.mk (hbox); have n3_ := Aside0.mk ((zG hg : w.heap.size ≤ gb828)); have n4_ := Aside0.mk ((zG hg : w.heap.size ≤ gb828)); have n5_ := Aside0.mk ((by rw [hg]; exact Nat.ne_of_lt (blk_lt (g := gb826) (o := .cells #[.slice A825_0 ((rd_T52 l0 x17_1).f0).length c825_0] 52 (0, 0)) (by (with_reducible repeat (first | refine blk_drewN ?_ _ | refine blk_drew ?_ | refine blk_alloc ?_ _)); refine blk_put (cs := #[.slice none 0 0]) ?_ 0 _ rfl; (with_reducible repeat (first | refine blk_drewN ?_ _ | refine blk_drew ?_ | refine blk_alloc ?_ _)); exact BK826.out)) : gb826 ≠ gb828)); have n6_ := Aside0.mk ((by rw [hg]; exact Nat.ne_of_gt (blk_lt (g := gb826) (o := .cells #[.slice A825_0 ((rd_T52 l0 x17_1).f0).length c825_0] 52 (0, 0)) (by (with_reducible repeat (first | refine blk_drewN ?_ _ | refine blk_drew ?_ | refine blk_alloc ?_ _)); refine blk_put (cs := #[.slice none 0 0]) ?_ 0 _ rfl; (with_reducible repeat (first | refine blk_drewN ?_ _ | refine blk_drew ?_ | refine blk_alloc ?_ _)); exact BK826.out)) : gb828 ≠ gb826)); clear BK826; clear HB; have BK826 := n0_; have HB := n1_; have BK828 := n2_; have GW828 := n3_; have GE828 := n4_; have NB826_828 := n5_; have NB828_826 := n6_; clear n0_ n1_ n2_ n3_ n4_ n5_ n6_; clear hb hbox hg; have hnb14 := NB828_826.out; have hnc14 := NB826_828.out; have hcz15_0 : w13.cell? ⟨gb828, 0, none⟩ = some (.slice none 0 0) := zT BK828 0; have hfz15_0 := blk_frozen BK828.out 0; have hcz16_0 : w13.cell? ⟨gb826, 0, none⟩ = some (.slice A825_0 ((rd_T52 l0 x17_1).f0).length c825_0) := zT BK826 0; have hfz16_0 := blk_frozen BK826.out 0) | (go_at_call 20; (with_reducible refine (g24_.calls k1 _ _ ((rd_T52 l0 x17_1).f0) _ _ ((rd_T52 l1 x17_1).f0) true _ ?side1 ?side2 ?side3 ?side4 A9.out).mono ?_); (case side1 => exact Kd.C_below HR825_0.out zB); (case side2 => exact HC825_0.out); (case side3 => exact Kd.C_below HR827_0.out zB); (case side4 => exact HC827_0.out); rintro e w17 ⟨rfl, hb⟩; have n0_ := Aside0.mk (blk_below (g := gb826) (o := .cells #[.slice A825_0 ((rd_T52 l0 x17_1).f0).length c825_0] 52 (0, 0)) (by (with_reducible repeat (first | refine blk_drewN ?_ _ | refine blk_drew ?_ | refine blk_alloc ?_ _)); refine blk_far ?_ NB826_828.out _; (with_reducible repeat (first | refine blk_drewN ?_ _ | refine blk_drew ?_ | refine blk_alloc ?_ _)); exact BK826.out) hb); have n1_ := Aside0.mk (blk_below (g := gb828) (o := .cells #[.slice A827_0 ((rd_T52 l1 x17_1).f0).length c827_0] 52 (0, 0)) (by (with_reducible repeat (first | refine blk_drewN ?_ _ | refine blk_drew ?_ | refine blk_alloc ?_ _)); refine blk_put (cs := #[.slice none 0 0]) ?_ 0 _ rfl; (with_reducible repeat (first | refine blk_drewN ?_ _ | refine blk_drew ?_ | refine blk_alloc ?_ _)); exact BK828.out) hb); have n2_ := Aside0.mk (below_step zB hb); clear BK826; clear BK828; clear HB; have BK826 := n0_; have BK828 := n1_; have HB := n2_; clear n0_ n1_ n2_; (try clear hb); (try clear hb2); (try clear hk); (try clear hi)))
  go_roundg k1
  case measure => have := HK1.out; omega
  case rel => exact ⟨(wrap64 (x17_1 + 1)), zR, H', ⟨by have := HK1.out; omega⟩, ⟨zB⟩⟩
 replace c10 := Bool.eq_false_iff.mpr c10
 subst c10
 have H1 : (some false) = some r := by rw [if_neg (show ¬ (false = true) by decide)] at H; exact H
 clear H
 have H := H1
 clear H1
 obtain rfl := Option.some.inj H
 have p825 : 0 ≤ (x17_1 : Int) := od
 have q825 : x17_1 < (l0.length : Int) := od
 obtain ⟨ad825, A825_0, c825_0, e825, hx825_0, hl825_0, hi825_0⟩ := at_T52 HR0.out x17_1 p825 q825
 cases e825
 replace hx825_0 := zL HB hx825_0
 have HR825_0 := Aside0.mk hi825_0
 have HC825_0 := Aside0.mk hl825_0
 clear hi825_0 hl825_0
 replace p825 := eq_true p825
 replace q825 := eq_true q825
 go_wp2_with (first | ((with_reducible refine gate_dst (N := 8) rfl ?_); refine bx 8 (#[.slice none 0 0]) 52 ?_; intro gb826 hg w18 hbox hb; have n0_ := Aside0.mk (below_step zB hb); have n1_ := Aside0.mk (hbox); have n2_ := Aside0.mk ((zG hg : w.heap.size ≤ gb826)); have n3_ := Aside0.mk ((zG hg : w.heap.size ≤ gb826)); clear HB; have HB := n0_; have BK826 := n1_; have GW826 := n2_; have GE826 := n3_; clear n0_ n1_ n2_ n3_; clear hb hbox hg; have hcz19_0 : w18.cell? ⟨gb826, 0, none⟩ = some (.slice none 0 0) := zT BK826 0; have hfz19_0 := blk_frozen BK826.out 0; have p827 : 0 ≤ (x17_1 : Int) := od; have q827 : x17_1 < (l1.length : Int) := od; obtain ⟨ad827, A827_0, c827_0, e827, hx827_0, hl827_0, hi827_0⟩ := at_T52 HR1.out x17_1 p827 q827; cases e827; have hn827_0 : ad827.block ≠ gb826 := Nat.ne_of_lt (Nat.lt_of_lt_of_le (by have := World.block_lt_of_cell? _ _ hx827_0; first | rwa [add_block] at this | exact this) GW826.out); replace hx827_0 := zL HB hx827_0; have HR827_0 := Aside0.mk hi827_0; have HC827_0 := Aside0.mk hl827_0; clear hi827_0 hl827_0; replace hx827_0 := (cell_far (p := ⟨gb826, 0, none⟩) (by first | (rw [add_block]; exact hn827_0) | (show (Addr.add _ _).block ≠ _; rw [add_block]; exact hn827_0) | exact hn827_0) (.slice A825_0 ((rd_T52 l0 x17_1).f0).length c825_0)).trans hx827_0; clear hn827_0; replace p827 := eq_true p827; replace q827 := eq_true q827) | ((with_reducible refine gate_dst (N := 9) rfl ?_); refine bx 9 (#[.slice none 0 0]) 52 ?_; intro gb828 hg w20 hbox hb; have n0_ := Aside0.mk (blk_below (g := gb826) (o := .cells #[.slice A825_0 ((rd_T52 l0 x17_1).f0).length c825_0] 52 (0, 0)) (by (with_reducible repeat (first | refine blk_drewN ?_ _ | refine blk_drew ?_ | refine blk_alloc ?_ _)); refine blk_put (cs := #[.slice none 0 0]) ?_ 0 _ rfl; (with_reducible repeat (first | refine blk_drewN ?_ _ | refine blk_drew ?_ | refine blk_alloc ?_ _)); exact BK826.out) hb); have n1_ := Aside0.mk (below_step zB hb); have n2_ := Aside0.mk (hbox); have n3_ := Aside0.mk ((zG hg : w.heap.size ≤ gb828)); have n4_ := Aside0.mk ((zG hg : w.heap.size ≤ gb828)); have n5_ := Aside0.mk ((by rw [hg]; exact Nat.ne_of_lt (blk_lt (g := gb826) (o := .cells #[.slice A825_0 ((rd_T52 l0 x17_1).f0).length c825_0] 52 (0, 0)) (by (with_reducible repeat (first | refine blk_drewN ?_ _ | refine blk_drew ?_ | refine blk_alloc ?_ _)); refine blk_put (cs := #[.slice none 0 0]) ?_ 0 _ rfl; (with_reducible repeat (first | refine blk_drewN ?_ _ | refine blk_drew ?_ | refine blk_alloc ?_ _)); exact BK826.out)) : gb826 ≠ gb828)); have n6_ := Aside0.mk ((by rw [hg]; exact Nat.ne_of_gt (blk_lt (g := gb826) (o := .cells #[.slice A825_0 ((rd_T52 l0 x17_1).f0).length c825_0] 52 (0, 0)) (by (with_reducible repeat (first | refine blk_drewN ?_ _ | refine blk_drew ?_ | refine blk_alloc ?_ _)); refine blk_put (cs := #[.slice none 0 0]) ?_ 0 _ rfl; (with_reducible repeat (first | refine blk_drewN ?_ _ | refine blk_drew ?_ | refine blk_alloc ?_ _)); exact BK826.out)) : gb828 ≠ gb826)); clear BK826; clear HB; have BK826 := n0_; have HB := n1_; have BK828 := n2_; have GW828 := n3_; have GE828 := n4_; have NB826_828 := n5_; have NB828_826 := n6_; clear n0_ n1_ n2_ n3_ n4_ n5_ n6_; clear hb hbox hg; have hnb21 := NB828_826.out; have hnc21 := NB826_828.out; have hcz22_0 : w20.cell? ⟨gb828, 0, none⟩ = some (.slice none 0 0) := zT BK828 0; have hfz22_0 := blk_frozen BK828.out 0; have hcz23_0 : w20.cell? ⟨gb826, 0, none⟩ = some (.slice A825_0 ((rd_T52 l0 x17_1).f0).length c825_0) := zT BK826 0; have hfz23_0 := blk_frozen BK826.out 0) | (go_at_call 20; (with_reducible refine (g24_.calls k1 _ _ ((rd_T52 l0 x17_1).f0) _ _ ((rd_T52 l1 x17_1).f0) false _ ?side1 ?side2 ?side3 ?side4 A9.out).mono ?_); (case side1 => exact Kd.C_below HR825_0.out zB); (case side2 => exact HC825_0.out); (case side3 => exact Kd.C_below HR827_0.out zB); (case side4 => exact HC827_0.out); rintro e w24 ⟨rfl, hb⟩; have n0_ := Aside0.mk (blk_below (g := gb826) (o := .cells #[.slice A825_0 ((rd_T52 l0 x17_1).f0).length c825_0] 52 (0, 0)) (by (with_reducible repeat (first | refine blk_drewN ?_ _ | refine blk_drew ?_ | refine blk_alloc ?_ _)); refine blk_far ?_ NB826_828.out _; (with_reducible repeat (first | refine blk_drewN ?_ _ | refine blk_drew ?_ | refine blk_alloc ?_ _)); exact BK826.out) hb); have n1_ := Aside0.mk (blk_below (g := gb828) (o := .cells #[.slice A827_0 ((rd_T52 l1 x17_1).f0).length c827_0] 52 (0, 0)) (by (with_reducible repeat (first | refine blk_drewN ?_ _ | refine blk_drew ?_ | refine blk_alloc ?_ _)); refine blk_put (cs := #[.slice none 0 0]) ?_ 0 _ rfl; (with_reducible repeat (first | refine blk_drewN ?_ _ | refine blk_drew ?_ | refine blk_alloc ?_ _)); exact BK828.out) hb); have n2_ := Aside0.mk (below_step zB hb); clear BK826; clear BK828; clear HB; have BK826 := n0_; have BK828 := n1_; have HB := n2_; clear n0_ n1_ n2_; (try clear hb); (try clear hb2); (try clear hk); (try clear hi)))
 go_ret
 exact ⟨zE, zB⟩
/-! ### g17_: function 6 -/
def g17_.j0 : Nat → Int → Bool → Int → List (S71) → Option (Bool)
  | 0, _, _, _, _ => none
  | k + 1, x1, x24, x831000, x831001 => if x24 = true then (some false) else ((g5_.f k x831000 x831001 7).bind fun bt841 => (if (IntKind.u64.wrap (bt841.1)) = 0 then (none) else ((best_Settle.f k bt841.1 bt841.2 (wrap64 (Int.tmod (IntKind.u64.wrap (x1)) (IntKind.u64.wrap (bt841.1)))) 40).bind fun bt845 => ((best_Round.f k bt841.1 bt841.2 (wrap64 (Int.tmod (IntKind.u64.wrap (x1)) (IntKind.u64.wrap (bt841.1)))) bt845.1).bind fun bt850 => (if bt845.2.2 = 0 then (if bt850.2 = 0 then (if (bt845.1.length : Int) = bt841.1 then ((g0_.f k bt845.1 bt850.1).bind fun t854 => (some t854)) else (some false)) else (some false)) else (some false))))))
def g17_.f (k : Nat) (a0_0 : Int) (l0_1 : List (S71)) (a1 : Int) : Option (Bool) := (g16_.f k).bind fun bt831 => ((best_Settle.f k bt831.1 bt831.2 0 50).bind fun bt835 => ((g18_.f k).bind fun t840 => (if t840 = true then (g17_.j0 k a1 (bt835.2.2 != 12) a0_0 l0_1) else (g17_.j0 k a1 true a0_0 l0_1))))
theorem g17_.mono_l : ∀ k, (∀ y0 y1 y2 y3, LeO (g17_.j0 k y0 y1 y2 y3) (g17_.j0 (k + 1) y0 y1 y2 y3))
  | 0 => fun _ _ _ _ r h => by simp [g17_.j0] at h
  | k + 1 => by
    have ih0 := g17_.mono_l k
    · intro y0 y1 y2 y3
      unfold g17_.j0
      repeat' (with_reducible first | exact ih0 _ _ _ _ | exact best_Round.mono _ _ _ _ _ | exact best_Settle.mono _ _ _ _ _ | exact g18_.mono _ | exact g16_.mono _ | exact g5_.mono _ _ _ _ | exact g0_.mono _ _ _ | exact LeO.refl _ | exact LeO.none _ | refine LeO.ite ?_ ?_ | refine LeO.bind ?_ (fun _ => ?_))
theorem g17_.mono : ∀ a0 a1 a2 k, LeO (g17_.f k a0 a1 a2) (g17_.f (k + 1) a0 a1 a2) := by
  intro a0 a1 a2 k
  have ih0 := g17_.mono_l k
  unfold g17_.f
  repeat' (with_reducible first | exact ih0 _ _ _ _ | exact best_Round.mono _ _ _ _ _ | exact best_Settle.mono _ _ _ _ _ | exact g18_.mono _ | exact g16_.mono _ | exact g5_.mono _ _ _ _ | exact g0_.mono _ _ _ | exact LeO.refl _ | exact LeO.none _ | refine LeO.ite ?_ ?_ | refine LeO.bind ?_ (fun _ => ?_))
set_option maxHeartbeats 8000000 in
set_option maxRecDepth 100000 in
theorem g17_.calls (k : Nat) (a0_0 : Int) (A0_1 : Option Addr) (c0_1 : Nat) (l0_1 : List (S71)) (a1 : Int) (r : Bool) (w : World) (hr0_1 : Kd.C k71 w A0_1 l0_1.length l0_1) (hc0_1 : l0_1.length ≤ c0_1) (h : g17_.f k a0_0 l0_1 a1 = some r) :
 Calls Try.prog 6 #[.agg #[.int .i64 a0_0, .slice A0_1 l0_1.length c0_1], .int .i64 a1] w fun e w' => e = .returned (.bool r) ∧ Below w.heap.size w w' := by
 have hu42 := Try.underlying42
 have hu3 := Try.underlying3
 have HR0_1 := Aside0.mk hr0_1
 have HC0_1 := Aside0.mk hc0_1
 clear hr0_1 hc0_1
 have HB := Aside0.mk (Below.refl w.heap.size w)
 have H : ((g16_.f k).bind fun bt831 => ((best_Settle.f k bt831.1 bt831.2 0 50).bind fun bt835 => ((g18_.f k).bind fun t840 => (if t840 = true then (g17_.j0 k a1 (bt835.2.2 != 12) a0_0 l0_1) else (g17_.j0 k a1 true a0_0 l0_1))))) = some r := h
 clear h
 replace H := Option.bind_eq_some_iff.mp H
 obtain ⟨⟨t831, t832⟩, A30, H⟩ := H
 replace H : ((best_Settle.f k t831 t832 0 50).bind fun bt835 => ((g18_.f k).bind fun t840 => (if t840 = true then (g17_.j0 k a1 (bt835.2.2 != 12) a0_0 l0_1) else (g17_.j0 k a1 true a0_0 l0_1)))) = some r := H
 have A3 := Aside0.mk A30
 clear A30
 replace H := Option.bind_eq_some_iff.mp H
 obtain ⟨⟨t835, t838, t839⟩, A40, H⟩ := H
 replace H : ((g18_.f k).bind fun t840 => (if t840 = true then (g17_.j0 k a1 (t839 != 12) a0_0 l0_1) else (g17_.j0 k a1 true a0_0 l0_1))) = some r := H
 have A4 := Aside0.mk A40
 clear A40
 have HC5 := Aside0.mk H
 clear H
 go_enter Try.func6, Try.ntmps6
 go_upto_region 2 with (first | ((with_reducible refine gate_dst (N := 2) rfl ?_); (try (refine gate_guard (by rfl) ?_; dsimp only)); refine bx 2 (#[.int .i64 a0_0, .slice A0_1 l0_1.length c0_1]) 42 ?_; intro gb830 hg w6 hbox hb; have n0_ := Aside0.mk (below_step zB hb); have n1_ := Aside0.mk (hbox); have n2_ := Aside0.mk ((zG hg : w.heap.size ≤ gb830)); have n3_ := Aside0.mk ((zG hg : w.heap.size ≤ gb830)); clear HB; have HB := n0_; have BK830 := n1_; have GW830 := n2_; have GE830 := n3_; clear n0_ n1_ n2_ n3_; clear hb hbox hg) | ((with_reducible refine gate_callee (f := 15) rfl ?_); refine goesL_ (some 14) rfl rfl Try.func15 (by kernel_rfl) rfl #[] rfl zM ?_; (with_reducible refine (g16_.calls k  t831 t832 _ A3.out).mono ?_); rintro e w7 ⟨v833, rfl, ho0, hb⟩; refine ⟨_, rfl, ?_⟩; have n0_ := Aside0.mk (Kd.R_lower ho0 (below_size zB)); have n1_ := Aside0.mk (blk_below (g := gb830) (o := .cells #[.int .i64 a0_0, .slice A0_1 l0_1.length c0_1] 42 (0, 0)) (zK BK830) hb); have n2_ := Aside0.mk (below_step zB hb); clear BK830; clear HB; have HO834 := n0_; have BK830 := n1_; have HB := n2_; clear n0_ n1_ n2_; (try clear hb); (try clear hb2); (try clear hk); (try clear hi); (try clear ho0); obtain ⟨Ao8, co8, eo8⟩ := Kd.R_slice HO834.out; subst eo8) | ((with_reducible refine gate_callee (f := 14) rfl ?_); refine goesL_ (some 15) rfl rfl Try.func14 (by kernel_rfl) rfl #[.agg #[.int .i64 t831, .slice Ao8 t832.length co8], .int .i64 0, .int .i64 50] rfl zM ?_; (with_reducible refine (best_Settle.calls k t831 _ _ t832 0 50 t835 t838 t839 _ ?side1 ?side2 A4.out).mono ?_); (case side1 => repeat (first | exact (Kd.R_reads' HO834.out).2.2 | (with_reducible refine Kd.C_alloc ?_ _) | (with_reducible refine Kd.C_drewN ?_ _) | (with_reducible refine Kd.C_drew ?_))); (case side2 => exact (Kd.R_reads' HO834.out).2.1); rintro e w9 ⟨v836, rfl, ho0, hb⟩; refine ⟨_, rfl, ?_⟩; have n0_ := Aside0.mk (Kd.R_below (zO HO834) hb); have n1_ := Aside0.mk (Kd.S_lower ho0 (below_size zB)); have n2_ := Aside0.mk (blk_below (g := gb830) (o := .cells #[.int .i64 a0_0, .slice A0_1 l0_1.length c0_1] 42 (0, 0)) (zK BK830) hb); have n3_ := Aside0.mk (below_step zB hb); clear HO834; clear BK830; clear HB; have HO834 := n0_; have HO837 := n1_; have BK830 := n2_; have HB := n3_; clear n0_ n1_ n2_ n3_; (try clear hb); (try clear hb2); (try clear hk); (try clear hi); (try clear ho0)))
 (try simp only [Act.put, List.setIfInBounds_toArray, List.set_cons_zero, List.set_cons_succ])
 go_cut [24] (fun v24 wc => ∃ (kq : Nat) (x24_4 : Bool), v24 = .bool x24_4 ∧ Aside0 (g17_.j0 kq a1 x24_4 a0_0 l0_1 = some r) ∧ Aside0 (kq ≤ k) ∧ Aside0 (wc.heap[gb830]? = some (.cells #[.int .i64 a0_0, (.slice A0_1 l0_1.length c0_1)] 42 (0, 0))) ∧ Aside0 (Below w.heap.size w wc))
 case first =>
  have H := HC5.out
  clear HC5
  replace H := Option.bind_eq_some_iff.mp H
  obtain ⟨t840, A100, H⟩ := H
  replace H : (if t840 = true then (g17_.j0 k a1 (t839 != 12) a0_0 l0_1) else (g17_.j0 k a1 true a0_0 l0_1)) = some r := H
  have A10 := Aside0.mk A100
  clear A100
  by_cases c11 : t840 = true
  ·
   subst c11
   have H1 : (g17_.j0 k a1 (t839 != 12) a0_0 l0_1) = some r := by rw [if_pos rfl] at H; exact H
   clear H
   have H := H1
   clear H1
   have H' := Aside0.mk H
   clear H
   go_wp2_with (first | ((with_reducible refine gate_callee (f := 16) rfl ?_); refine goesL_ (some 19) rfl rfl Try.func16 (by kernel_rfl) rfl #[] rfl zM ?_; (with_reducible refine (g18_.calls k  true _ A10.out).mono ?_); rintro e w12 ⟨rfl, hb⟩; refine ⟨_, rfl, ?_⟩; have n0_ := Aside0.mk (Kd.R_below (zO HO834) hb); have n1_ := Aside0.mk (Kd.S_below (zS HO837) hb); have n2_ := Aside0.mk (blk_below (g := gb830) (o := .cells #[.int .i64 a0_0, .slice A0_1 l0_1.length c0_1] 42 (0, 0)) (zK BK830) hb); have n3_ := Aside0.mk (below_step zB hb); clear HO834; clear HO837; clear BK830; clear HB; have HO834 := n0_; have HO837 := n1_; have BK830 := n2_; have HB := n3_; clear n0_ n1_ n2_ n3_; (try clear hb); (try clear hb2); (try clear hk); (try clear hi)))
   go_meet
   case rel => exact ⟨_, ((t839 != 12)), zR, H', ⟨by first | omega | exact Nat.le_refl _⟩, ⟨zK BK830⟩, ⟨zB⟩⟩
  replace c11 := Bool.eq_false_iff.mpr c11
  subst c11
  have H1 : (g17_.j0 k a1 true a0_0 l0_1) = some r := by rw [if_neg (show ¬ (false = true) by decide)] at H; exact H
  clear H
  have H := H1
  clear H1
  have H' := Aside0.mk H
  clear H
  go_wp2_with (first | ((with_reducible refine gate_callee (f := 16) rfl ?_); refine goesL_ (some 19) rfl rfl Try.func16 (by kernel_rfl) rfl #[] rfl zM ?_; (with_reducible refine (g18_.calls k  false _ A10.out).mono ?_); rintro e w13 ⟨rfl, hb⟩; refine ⟨_, rfl, ?_⟩; have n0_ := Aside0.mk (Kd.R_below (zO HO834) hb); have n1_ := Aside0.mk (Kd.S_below (zS HO837) hb); have n2_ := Aside0.mk (blk_below (g := gb830) (o := .cells #[.int .i64 a0_0, .slice A0_1 l0_1.length c0_1] 42 (0, 0)) (zK BK830) hb); have n3_ := Aside0.mk (below_step zB hb); clear HO834; clear HO837; clear BK830; clear HB; have HO834 := n0_; have HO837 := n1_; have BK830 := n2_; have HB := n3_; clear n0_ n1_ n2_ n3_; (try clear hb); (try clear hb2); (try clear hk); (try clear hi)))
  go_meet
  case rel => exact ⟨_, (true), zR, H', ⟨by first | omega | exact Nat.le_refl _⟩, ⟨zK BK830⟩, ⟨zB⟩⟩
 clear HC5
 try clear c1
 try clear p2
 try clear c6
 try clear c11
 obtain ⟨kq, x24_4, rfl, HA, HJ4, BK830, HB⟩ := hcut
 rcases kq with _ | kj4
 · exact absurd HA.out (by simp [g17_.j0])
 have H := HA.out
 clear HA
 simp only [g17_.j0] at H
 by_cases c14 : x24_4 = true
 ·
  subst c14
  have H1 : (some false) = some r := by rw [if_pos rfl] at H; exact H
  clear H
  have H := H1
  clear H1
  obtain rfl := Option.some.inj H
  go_wp2
  go_ret
  exact ⟨zE, zB⟩
 replace c14 := Bool.eq_false_iff.mpr c14
 subst c14
 have H1 : ((g5_.f kj4 a0_0 l0_1 7).bind fun bt841 => (if (IntKind.u64.wrap (bt841.1)) = 0 then (none) else ((best_Settle.f kj4 bt841.1 bt841.2 (wrap64 (Int.tmod (IntKind.u64.wrap (a1)) (IntKind.u64.wrap (bt841.1)))) 40).bind fun bt845 => ((best_Round.f kj4 bt841.1 bt841.2 (wrap64 (Int.tmod (IntKind.u64.wrap (a1)) (IntKind.u64.wrap (bt841.1)))) bt845.1).bind fun bt850 => (if bt845.2.2 = 0 then (if bt850.2 = 0 then (if (bt845.1.length : Int) = bt841.1 then ((g0_.f kj4 bt845.1 bt850.1).bind fun t854 => (some t854)) else (some false)) else (some false)) else (some false)))))) = some r := by rw [if_neg (show ¬ (false = true) by decide)] at H; exact H
 clear H
 have H := H1
 clear H1
 replace H := Option.bind_eq_some_iff.mp H
 obtain ⟨⟨t841, t842⟩, A150, H⟩ := H
 replace H : (if (IntKind.u64.wrap (t841)) = 0 then (none) else ((best_Settle.f kj4 t841 t842 (wrap64 (Int.tmod (IntKind.u64.wrap (a1)) (IntKind.u64.wrap (t841)))) 40).bind fun bt845 => ((best_Round.f kj4 t841 t842 (wrap64 (Int.tmod (IntKind.u64.wrap (a1)) (IntKind.u64.wrap (t841)))) bt845.1).bind fun bt850 => (if bt845.2.2 = 0 then (if bt850.2 = 0 then (if (bt845.1.length : Int) = t841 then ((g0_.f kj4 bt845.1 bt850.1).bind fun t854 => (some t854)) else (some false)) else (some false)) else (some false))))) = some r := H
 have A15 := Aside0.mk A150
 clear A150
 by_cases c16 : (IntKind.u64.wrap (t841)) = 0
 · rw [if_pos c16] at H; exact absurd H (by simp)
 rw [if_neg c16] at H
 have c16b0 : ((IntKind.u64.wrap (t841)) == 0) = false := beq_eq_false_iff_ne.mpr c16
 have c16b1 : ((IntKind.u64.wrap (t841)) != 0) = true := bne_iff_ne.mpr c16
 replace H := Option.bind_eq_some_iff.mp H
 obtain ⟨⟨t845, t848, t849⟩, A170, H⟩ := H
 replace H : ((best_Round.f kj4 t841 t842 (wrap64 (Int.tmod (IntKind.u64.wrap (a1)) (IntKind.u64.wrap (t841)))) t845).bind fun bt850 => (if t849 = 0 then (if bt850.2 = 0 then (if (t845.length : Int) = t841 then ((g0_.f kj4 t845 bt850.1).bind fun t854 => (some t854)) else (some false)) else (some false)) else (some false))) = some r := H
 have A17 := Aside0.mk A170
 clear A170
 replace H := Option.bind_eq_some_iff.mp H
 obtain ⟨⟨t850, t853⟩, A180, H⟩ := H
 replace H : (if t849 = 0 then (if t853 = 0 then (if (t845.length : Int) = t841 then ((g0_.f kj4 t845 t850).bind fun t854 => (some t854)) else (some false)) else (some false)) else (some false)) = some r := H
 have A18 := Aside0.mk A180
 clear A180
 by_cases c19 : t849 = 0
 rotate_left
 ·
  rw [if_neg c19] at H
  have c19b0 : (t849 == 0) = false := beq_eq_false_iff_ne.mpr c19
  have c19b1 : (t849 != 0) = true := bne_iff_ne.mpr c19
  obtain rfl := Option.some.inj H
  have hcz51_0 : wc.cell? ⟨gb830, 0, none⟩ = some (.int .i64 a0_0) := zT BK830 0
  have hcz51_1 : wc.cell? ⟨gb830, 1, none⟩ = some (.slice A0_1 l0_1.length c0_1) := zT BK830 1
  have hfz51_0 := blk_frozen BK830.out 0
  have hfz51_1 := blk_frozen BK830.out 1
  go_wp2_with (first | ((with_reducible refine gate_callee (f := 17) rfl ?_); refine goesL_ (some 26) rfl rfl Try.func17 (by kernel_rfl) rfl #[.agg #[.int .i64 a0_0, .slice A0_1 l0_1.length c0_1], .int .i64 7] rfl zM ?_; (with_reducible refine (g5_.calls kj4 a0_0 _ _ l0_1 7 t841 t842 _ ?side1 ?side2 A15.out).mono ?_); (case side1 => exact zC HR0_1 HB); (case side2 => exact HC0_1.out); rintro e w52 ⟨v843, rfl, ho0, hb⟩; refine ⟨_, rfl, ?_⟩; have n0_ := Aside0.mk (Kd.R_lower ho0 (below_size zB)); have n1_ := Aside0.mk (blk_below (g := gb830) (o := .cells #[.int .i64 a0_0, .slice A0_1 l0_1.length c0_1] 42 (0, 0)) (zK BK830) hb); have n2_ := Aside0.mk (below_step zB hb); clear BK830; clear HB; have HO844 := n0_; have BK830 := n1_; have HB := n2_; clear n0_ n1_ n2_; (try clear hb); (try clear hb2); (try clear hk); (try clear hi); (try clear ho0); have hcz53_0 : w52.cell? ⟨gb830, 0, none⟩ = some (.int .i64 a0_0) := zT BK830 0; have hcz53_1 : w52.cell? ⟨gb830, 1, none⟩ = some (.slice A0_1 l0_1.length c0_1) := zT BK830 1; have hfz53_0 := blk_frozen BK830.out 0; have hfz53_1 := blk_frozen BK830.out 1; obtain ⟨Ao54, co54, eo54⟩ := Kd.R_slice HO844.out; subst eo54) | ((with_reducible refine gate_callee (f := 14) rfl ?_); refine goesL_ (some 37) rfl rfl Try.func14 (by kernel_rfl) rfl #[.agg #[.int .i64 t841, .slice Ao54 t842.length co54], .int .i64 (wrap64 (Int.tmod (IntKind.u64.wrap (a1)) (IntKind.u64.wrap (t841)))), .int .i64 40] rfl zM ?_; (with_reducible refine (best_Settle.calls kj4 t841 _ _ t842 (wrap64 (Int.tmod (IntKind.u64.wrap (a1)) (IntKind.u64.wrap (t841)))) 40 t845 t848 t849 _ ?side1 ?side2 A17.out).mono ?_); (case side1 => refine (Kd.R_reads' (e := 71) (base := w.heap.size) (ok := fun k_ => True) (n := t842.length) (c := co54) ?_).2.2; exact (by (with_reducible repeat (first | apply Kd.R_alloc | apply Kd.R_drewN | apply Kd.R_drew)); exact (Kd.R_mono (Kd.R_far (p := ⟨gb830, 1, none⟩) (Kd.R_far (p := ⟨gb830, 0, none⟩) (Kd.R_types HO844.out BK830.out (by decide)) (fun _ hk => hk.2) (.int .i64 t841)) (fun _ hk => hk.2) (.slice Ao54 t842.length co54)) (fun _ h_ => h_.1)))); (case side2 => exact (Kd.R_reads' HO844.out).2.1); rintro e w55 ⟨v846, rfl, ho0, hb⟩; refine ⟨_, rfl, ?_⟩; have n0_ := Aside0.mk (Kd.R_below (by (with_reducible repeat (first | apply Kd.R_alloc | apply Kd.R_drewN | apply Kd.R_drew)); exact (Kd.R_mono (Kd.R_far (p := ⟨gb830, 1, none⟩) (Kd.R_far (p := ⟨gb830, 0, none⟩) (Kd.R_types HO844.out BK830.out (by decide)) (fun _ hk => hk.2) (.int .i64 t841)) (fun _ hk => hk.2) (.slice Ao54 t842.length co54)) (fun _ h_ => h_.1))) hb); have n1_ := Aside0.mk (Kd.S_lower ho0 (below_size zB)); have n2_ := Aside0.mk (blk_below (g := gb830) (o := .cells #[.int .i64 t841, .slice Ao54 t842.length co54] 42 (0, 0)) (by (with_reducible repeat (first | refine blk_drewN ?_ _ | refine blk_drew ?_ | refine blk_alloc ?_ _)); refine blk_put (cs := #[.int .i64 t841, .slice A0_1 l0_1.length c0_1]) ?_ 1 _ rfl; (with_reducible repeat (first | refine blk_drewN ?_ _ | refine blk_drew ?_ | refine blk_alloc ?_ _)); refine blk_put (cs := #[.int .i64 a0_0, .slice A0_1 l0_1.length c0_1]) ?_ 0 _ rfl; (with_reducible repeat (first | refine blk_drewN ?_ _ | refine blk_drew ?_ | refine blk_alloc ?_ _)); exact BK830.out) hb); have n3_ := Aside0.mk (below_step zB hb); clear HO844; clear BK830; clear HB; have HO844 := n0_; have HO847 := n1_; have BK830 := n2_; have HB := n3_; clear n0_ n1_ n2_ n3_; (try clear hb); (try clear hb2); (try clear hk); (try clear hi); (try clear ho0); have hcz56_0 : w55.cell? ⟨gb830, 0, none⟩ = some (.int .i64 t841) := zT BK830 0; have hcz56_1 : w55.cell? ⟨gb830, 1, none⟩ = some (.slice Ao54 t842.length co54) := zT BK830 1; have hfz56_0 := blk_frozen BK830.out 0; have hfz56_1 := blk_frozen BK830.out 1; obtain ⟨Ao57, co57, eo57⟩ := Kd.S_slice HO847.out; subst eo57) | ((with_reducible refine gate_callee (f := 18) rfl ?_); refine goesL_ (some 45) rfl rfl Try.func18 (by kernel_rfl) rfl #[.agg #[.int .i64 t841, .slice Ao54 t842.length co54], .int .i64 (wrap64 (Int.tmod (IntKind.u64.wrap (a1)) (IntKind.u64.wrap (t841)))), .slice Ao57 t845.length co57] rfl zM ?_; (with_reducible refine (best_Round.calls kj4 t841 _ _ t842 (wrap64 (Int.tmod (IntKind.u64.wrap (a1)) (IntKind.u64.wrap (t841)))) _ _ t845 t850 t853 _ ?side1 ?side2 ?side3 ?side4 A18.out).mono ?_); (case side1 => repeat (first | exact (Kd.R_reads' HO844.out).2.2 | (with_reducible refine Kd.C_alloc ?_ _) | (with_reducible refine Kd.C_drewN ?_ _) | (with_reducible refine Kd.C_drew ?_))); (case side2 => exact (Kd.R_reads' HO844.out).2.1); (case side3 => repeat (first | exact (Kd.S_reads' HO847.out).2.2 | (with_reducible refine Kd.C_alloc ?_ _) | (with_reducible refine Kd.C_drewN ?_ _) | (with_reducible refine Kd.C_drew ?_))); (case side4 => exact (Kd.S_reads' HO847.out).2.1); rintro e w58 ⟨v851, rfl, ho0, hb⟩; refine ⟨_, rfl, ?_⟩; have n0_ := Aside0.mk (Kd.R_below (zO HO844) hb); have n1_ := Aside0.mk (Kd.S_elder' (zS HO847) (Kd.S_base ho0) hb); have n2_ := Aside0.mk (Kd.S_lower (Kd.S_new' ho0 (Kd.S_lt (zS HO847))) (below_size zB)); have n3_ := Aside0.mk (blk_below (g := gb830) (o := .cells #[.int .i64 t841, .slice Ao54 t842.length co54] 42 (0, 0)) (zK BK830) hb); have n4_ := Aside0.mk (below_step zB hb); clear HO844; clear HO847; clear BK830; clear HB; have HO844 := n0_; have HO847 := n1_; have HO852 := n2_; have BK830 := n3_; have HB := n4_; clear n0_ n1_ n2_ n3_ n4_; (try clear hb); (try clear hb2); (try clear hk); (try clear hi); (try clear ho0)))
  go_ret
  exact ⟨zE, zB⟩
 rw [if_pos c19] at H
 have c19b0 : (t849 == 0) = true := beq_iff_eq.mpr c19
 have c19b1 : (t849 != 0) = false := bne_eq_false_iff_eq.mpr c19
 clear c19
 by_cases c20 : t853 = 0
 rotate_left
 ·
  rw [if_neg c20] at H
  have c20b0 : (t853 == 0) = false := beq_eq_false_iff_ne.mpr c20
  have c20b1 : (t853 != 0) = true := bne_iff_ne.mpr c20
  obtain rfl := Option.some.inj H
  have hcz43_0 : wc.cell? ⟨gb830, 0, none⟩ = some (.int .i64 a0_0) := zT BK830 0
  have hcz43_1 : wc.cell? ⟨gb830, 1, none⟩ = some (.slice A0_1 l0_1.length c0_1) := zT BK830 1
  have hfz43_0 := blk_frozen BK830.out 0
  have hfz43_1 := blk_frozen BK830.out 1
  go_wp2_with (first | ((with_reducible refine gate_callee (f := 17) rfl ?_); refine goesL_ (some 26) rfl rfl Try.func17 (by kernel_rfl) rfl #[.agg #[.int .i64 a0_0, .slice A0_1 l0_1.length c0_1], .int .i64 7] rfl zM ?_; (with_reducible refine (g5_.calls kj4 a0_0 _ _ l0_1 7 t841 t842 _ ?side1 ?side2 A15.out).mono ?_); (case side1 => exact zC HR0_1 HB); (case side2 => exact HC0_1.out); rintro e w44 ⟨v843, rfl, ho0, hb⟩; refine ⟨_, rfl, ?_⟩; have n0_ := Aside0.mk (Kd.R_lower ho0 (below_size zB)); have n1_ := Aside0.mk (blk_below (g := gb830) (o := .cells #[.int .i64 a0_0, .slice A0_1 l0_1.length c0_1] 42 (0, 0)) (zK BK830) hb); have n2_ := Aside0.mk (below_step zB hb); clear BK830; clear HB; have HO844 := n0_; have BK830 := n1_; have HB := n2_; clear n0_ n1_ n2_; (try clear hb); (try clear hb2); (try clear hk); (try clear hi); (try clear ho0); have hcz45_0 : w44.cell? ⟨gb830, 0, none⟩ = some (.int .i64 a0_0) := zT BK830 0; have hcz45_1 : w44.cell? ⟨gb830, 1, none⟩ = some (.slice A0_1 l0_1.length c0_1) := zT BK830 1; have hfz45_0 := blk_frozen BK830.out 0; have hfz45_1 := blk_frozen BK830.out 1; obtain ⟨Ao46, co46, eo46⟩ := Kd.R_slice HO844.out; subst eo46) | ((with_reducible refine gate_callee (f := 14) rfl ?_); refine goesL_ (some 37) rfl rfl Try.func14 (by kernel_rfl) rfl #[.agg #[.int .i64 t841, .slice Ao46 t842.length co46], .int .i64 (wrap64 (Int.tmod (IntKind.u64.wrap (a1)) (IntKind.u64.wrap (t841)))), .int .i64 40] rfl zM ?_; (with_reducible refine (best_Settle.calls kj4 t841 _ _ t842 (wrap64 (Int.tmod (IntKind.u64.wrap (a1)) (IntKind.u64.wrap (t841)))) 40 t845 t848 t849 _ ?side1 ?side2 A17.out).mono ?_); (case side1 => refine (Kd.R_reads' (e := 71) (base := w.heap.size) (ok := fun k_ => True) (n := t842.length) (c := co46) ?_).2.2; exact (by (with_reducible repeat (first | apply Kd.R_alloc | apply Kd.R_drewN | apply Kd.R_drew)); exact (Kd.R_mono (Kd.R_far (p := ⟨gb830, 1, none⟩) (Kd.R_far (p := ⟨gb830, 0, none⟩) (Kd.R_types HO844.out BK830.out (by decide)) (fun _ hk => hk.2) (.int .i64 t841)) (fun _ hk => hk.2) (.slice Ao46 t842.length co46)) (fun _ h_ => h_.1)))); (case side2 => exact (Kd.R_reads' HO844.out).2.1); rintro e w47 ⟨v846, rfl, ho0, hb⟩; refine ⟨_, rfl, ?_⟩; have n0_ := Aside0.mk (Kd.R_below (by (with_reducible repeat (first | apply Kd.R_alloc | apply Kd.R_drewN | apply Kd.R_drew)); exact (Kd.R_mono (Kd.R_far (p := ⟨gb830, 1, none⟩) (Kd.R_far (p := ⟨gb830, 0, none⟩) (Kd.R_types HO844.out BK830.out (by decide)) (fun _ hk => hk.2) (.int .i64 t841)) (fun _ hk => hk.2) (.slice Ao46 t842.length co46)) (fun _ h_ => h_.1))) hb); have n1_ := Aside0.mk (Kd.S_lower ho0 (below_size zB)); have n2_ := Aside0.mk (blk_below (g := gb830) (o := .cells #[.int .i64 t841, .slice Ao46 t842.length co46] 42 (0, 0)) (by (with_reducible repeat (first | refine blk_drewN ?_ _ | refine blk_drew ?_ | refine blk_alloc ?_ _)); refine blk_put (cs := #[.int .i64 t841, .slice A0_1 l0_1.length c0_1]) ?_ 1 _ rfl; (with_reducible repeat (first | refine blk_drewN ?_ _ | refine blk_drew ?_ | refine blk_alloc ?_ _)); refine blk_put (cs := #[.int .i64 a0_0, .slice A0_1 l0_1.length c0_1]) ?_ 0 _ rfl; (with_reducible repeat (first | refine blk_drewN ?_ _ | refine blk_drew ?_ | refine blk_alloc ?_ _)); exact BK830.out) hb); have n3_ := Aside0.mk (below_step zB hb); clear HO844; clear BK830; clear HB; have HO844 := n0_; have HO847 := n1_; have BK830 := n2_; have HB := n3_; clear n0_ n1_ n2_ n3_; (try clear hb); (try clear hb2); (try clear hk); (try clear hi); (try clear ho0); have hcz48_0 : w47.cell? ⟨gb830, 0, none⟩ = some (.int .i64 t841) := zT BK830 0; have hcz48_1 : w47.cell? ⟨gb830, 1, none⟩ = some (.slice Ao46 t842.length co46) := zT BK830 1; have hfz48_0 := blk_frozen BK830.out 0; have hfz48_1 := blk_frozen BK830.out 1; obtain ⟨Ao49, co49, eo49⟩ := Kd.S_slice HO847.out; subst eo49) | ((with_reducible refine gate_callee (f := 18) rfl ?_); refine goesL_ (some 45) rfl rfl Try.func18 (by kernel_rfl) rfl #[.agg #[.int .i64 t841, .slice Ao46 t842.length co46], .int .i64 (wrap64 (Int.tmod (IntKind.u64.wrap (a1)) (IntKind.u64.wrap (t841)))), .slice Ao49 t845.length co49] rfl zM ?_; (with_reducible refine (best_Round.calls kj4 t841 _ _ t842 (wrap64 (Int.tmod (IntKind.u64.wrap (a1)) (IntKind.u64.wrap (t841)))) _ _ t845 t850 t853 _ ?side1 ?side2 ?side3 ?side4 A18.out).mono ?_); (case side1 => repeat (first | exact (Kd.R_reads' HO844.out).2.2 | (with_reducible refine Kd.C_alloc ?_ _) | (with_reducible refine Kd.C_drewN ?_ _) | (with_reducible refine Kd.C_drew ?_))); (case side2 => exact (Kd.R_reads' HO844.out).2.1); (case side3 => repeat (first | exact (Kd.S_reads' HO847.out).2.2 | (with_reducible refine Kd.C_alloc ?_ _) | (with_reducible refine Kd.C_drewN ?_ _) | (with_reducible refine Kd.C_drew ?_))); (case side4 => exact (Kd.S_reads' HO847.out).2.1); rintro e w50 ⟨v851, rfl, ho0, hb⟩; refine ⟨_, rfl, ?_⟩; have n0_ := Aside0.mk (Kd.R_below (zO HO844) hb); have n1_ := Aside0.mk (Kd.S_elder' (zS HO847) (Kd.S_base ho0) hb); have n2_ := Aside0.mk (Kd.S_lower (Kd.S_new' ho0 (Kd.S_lt (zS HO847))) (below_size zB)); have n3_ := Aside0.mk (blk_below (g := gb830) (o := .cells #[.int .i64 t841, .slice Ao46 t842.length co46] 42 (0, 0)) (zK BK830) hb); have n4_ := Aside0.mk (below_step zB hb); clear HO844; clear HO847; clear BK830; clear HB; have HO844 := n0_; have HO847 := n1_; have HO852 := n2_; have BK830 := n3_; have HB := n4_; clear n0_ n1_ n2_ n3_ n4_; (try clear hb); (try clear hb2); (try clear hk); (try clear hi); (try clear ho0)))
  go_ret
  exact ⟨zE, zB⟩
 rw [if_pos c20] at H
 have c20b0 : (t853 == 0) = true := beq_iff_eq.mpr c20
 have c20b1 : (t853 != 0) = false := bne_eq_false_iff_eq.mpr c20
 clear c20
 by_cases c21 : (t845.length : Int) = t841
 rotate_left
 ·
  rw [if_neg c21] at H
  have c21b0 : ((t845.length : Int) == t841) = false := beq_eq_false_iff_ne.mpr c21
  have c21b1 : ((t845.length : Int) != t841) = true := bne_iff_ne.mpr c21
  obtain rfl := Option.some.inj H
  have hcz34_0 : wc.cell? ⟨gb830, 0, none⟩ = some (.int .i64 a0_0) := zT BK830 0
  have hcz34_1 : wc.cell? ⟨gb830, 1, none⟩ = some (.slice A0_1 l0_1.length c0_1) := zT BK830 1
  have hfz34_0 := blk_frozen BK830.out 0
  have hfz34_1 := blk_frozen BK830.out 1
  go_wp2_with (first | ((with_reducible refine gate_callee (f := 17) rfl ?_); refine goesL_ (some 26) rfl rfl Try.func17 (by kernel_rfl) rfl #[.agg #[.int .i64 a0_0, .slice A0_1 l0_1.length c0_1], .int .i64 7] rfl zM ?_; (with_reducible refine (g5_.calls kj4 a0_0 _ _ l0_1 7 t841 t842 _ ?side1 ?side2 A15.out).mono ?_); (case side1 => exact zC HR0_1 HB); (case side2 => exact HC0_1.out); rintro e w35 ⟨v843, rfl, ho0, hb⟩; refine ⟨_, rfl, ?_⟩; have n0_ := Aside0.mk (Kd.R_lower ho0 (below_size zB)); have n1_ := Aside0.mk (blk_below (g := gb830) (o := .cells #[.int .i64 a0_0, .slice A0_1 l0_1.length c0_1] 42 (0, 0)) (zK BK830) hb); have n2_ := Aside0.mk (below_step zB hb); clear BK830; clear HB; have HO844 := n0_; have BK830 := n1_; have HB := n2_; clear n0_ n1_ n2_; (try clear hb); (try clear hb2); (try clear hk); (try clear hi); (try clear ho0); have hcz36_0 : w35.cell? ⟨gb830, 0, none⟩ = some (.int .i64 a0_0) := zT BK830 0; have hcz36_1 : w35.cell? ⟨gb830, 1, none⟩ = some (.slice A0_1 l0_1.length c0_1) := zT BK830 1; have hfz36_0 := blk_frozen BK830.out 0; have hfz36_1 := blk_frozen BK830.out 1; obtain ⟨Ao37, co37, eo37⟩ := Kd.R_slice HO844.out; subst eo37) | ((with_reducible refine gate_callee (f := 14) rfl ?_); refine goesL_ (some 37) rfl rfl Try.func14 (by kernel_rfl) rfl #[.agg #[.int .i64 t841, .slice Ao37 t842.length co37], .int .i64 (wrap64 (Int.tmod (IntKind.u64.wrap (a1)) (IntKind.u64.wrap (t841)))), .int .i64 40] rfl zM ?_; (with_reducible refine (best_Settle.calls kj4 t841 _ _ t842 (wrap64 (Int.tmod (IntKind.u64.wrap (a1)) (IntKind.u64.wrap (t841)))) 40 t845 t848 t849 _ ?side1 ?side2 A17.out).mono ?_); (case side1 => refine (Kd.R_reads' (e := 71) (base := w.heap.size) (ok := fun k_ => True) (n := t842.length) (c := co37) ?_).2.2; exact (by (with_reducible repeat (first | apply Kd.R_alloc | apply Kd.R_drewN | apply Kd.R_drew)); exact (Kd.R_mono (Kd.R_far (p := ⟨gb830, 1, none⟩) (Kd.R_far (p := ⟨gb830, 0, none⟩) (Kd.R_types HO844.out BK830.out (by decide)) (fun _ hk => hk.2) (.int .i64 t841)) (fun _ hk => hk.2) (.slice Ao37 t842.length co37)) (fun _ h_ => h_.1)))); (case side2 => exact (Kd.R_reads' HO844.out).2.1); rintro e w38 ⟨v846, rfl, ho0, hb⟩; refine ⟨_, rfl, ?_⟩; have n0_ := Aside0.mk (Kd.R_below (by (with_reducible repeat (first | apply Kd.R_alloc | apply Kd.R_drewN | apply Kd.R_drew)); exact (Kd.R_mono (Kd.R_far (p := ⟨gb830, 1, none⟩) (Kd.R_far (p := ⟨gb830, 0, none⟩) (Kd.R_types HO844.out BK830.out (by decide)) (fun _ hk => hk.2) (.int .i64 t841)) (fun _ hk => hk.2) (.slice Ao37 t842.length co37)) (fun _ h_ => h_.1))) hb); have n1_ := Aside0.mk (Kd.S_lower ho0 (below_size zB)); have n2_ := Aside0.mk (blk_below (g := gb830) (o := .cells #[.int .i64 t841, .slice Ao37 t842.length co37] 42 (0, 0)) (by (with_reducible repeat (first | refine blk_drewN ?_ _ | refine blk_drew ?_ | refine blk_alloc ?_ _)); refine blk_put (cs := #[.int .i64 t841, .slice A0_1 l0_1.length c0_1]) ?_ 1 _ rfl; (with_reducible repeat (first | refine blk_drewN ?_ _ | refine blk_drew ?_ | refine blk_alloc ?_ _)); refine blk_put (cs := #[.int .i64 a0_0, .slice A0_1 l0_1.length c0_1]) ?_ 0 _ rfl; (with_reducible repeat (first | refine blk_drewN ?_ _ | refine blk_drew ?_ | refine blk_alloc ?_ _)); exact BK830.out) hb); have n3_ := Aside0.mk (below_step zB hb); clear HO844; clear BK830; clear HB; have HO844 := n0_; have HO847 := n1_; have BK830 := n2_; have HB := n3_; clear n0_ n1_ n2_ n3_; (try clear hb); (try clear hb2); (try clear hk); (try clear hi); (try clear ho0); have hcz39_0 : w38.cell? ⟨gb830, 0, none⟩ = some (.int .i64 t841) := zT BK830 0; have hcz39_1 : w38.cell? ⟨gb830, 1, none⟩ = some (.slice Ao37 t842.length co37) := zT BK830 1; have hfz39_0 := blk_frozen BK830.out 0; have hfz39_1 := blk_frozen BK830.out 1; obtain ⟨Ao40, co40, eo40⟩ := Kd.S_slice HO847.out; subst eo40) | ((with_reducible refine gate_callee (f := 18) rfl ?_); refine goesL_ (some 45) rfl rfl Try.func18 (by kernel_rfl) rfl #[.agg #[.int .i64 t841, .slice Ao37 t842.length co37], .int .i64 (wrap64 (Int.tmod (IntKind.u64.wrap (a1)) (IntKind.u64.wrap (t841)))), .slice Ao40 t845.length co40] rfl zM ?_; (with_reducible refine (best_Round.calls kj4 t841 _ _ t842 (wrap64 (Int.tmod (IntKind.u64.wrap (a1)) (IntKind.u64.wrap (t841)))) _ _ t845 t850 t853 _ ?side1 ?side2 ?side3 ?side4 A18.out).mono ?_); (case side1 => repeat (first | exact (Kd.R_reads' HO844.out).2.2 | (with_reducible refine Kd.C_alloc ?_ _) | (with_reducible refine Kd.C_drewN ?_ _) | (with_reducible refine Kd.C_drew ?_))); (case side2 => exact (Kd.R_reads' HO844.out).2.1); (case side3 => repeat (first | exact (Kd.S_reads' HO847.out).2.2 | (with_reducible refine Kd.C_alloc ?_ _) | (with_reducible refine Kd.C_drewN ?_ _) | (with_reducible refine Kd.C_drew ?_))); (case side4 => exact (Kd.S_reads' HO847.out).2.1); rintro e w41 ⟨v851, rfl, ho0, hb⟩; refine ⟨_, rfl, ?_⟩; have n0_ := Aside0.mk (Kd.R_below (zO HO844) hb); have n1_ := Aside0.mk (Kd.S_elder' (zS HO847) (Kd.S_base ho0) hb); have n2_ := Aside0.mk (Kd.S_lower (Kd.S_new' ho0 (Kd.S_lt (zS HO847))) (below_size zB)); have n3_ := Aside0.mk (blk_below (g := gb830) (o := .cells #[.int .i64 t841, .slice Ao37 t842.length co37] 42 (0, 0)) (zK BK830) hb); have n4_ := Aside0.mk (below_step zB hb); clear HO844; clear HO847; clear BK830; clear HB; have HO844 := n0_; have HO847 := n1_; have HO852 := n2_; have BK830 := n3_; have HB := n4_; clear n0_ n1_ n2_ n3_ n4_; (try clear hb); (try clear hb2); (try clear hk); (try clear hi); (try clear ho0); have hcz42_0 : w41.cell? ⟨gb830, 0, none⟩ = some (.int .i64 t841) := zT BK830 0; have hcz42_1 : w41.cell? ⟨gb830, 1, none⟩ = some (.slice Ao37 t842.length co37) := zT BK830 1; have hfz42_0 := blk_frozen BK830.out 0; have hfz42_1 := blk_frozen BK830.out 1))
  go_ret
  exact ⟨zE, zB⟩
 rw [if_pos c21] at H
 have c21b0 : ((t845.length : Int) == t841) = true := beq_iff_eq.mpr c21
 have c21b1 : ((t845.length : Int) != t841) = false := bne_eq_false_iff_eq.mpr c21
 clear c21
 replace H := Option.bind_eq_some_iff.mp H
 obtain ⟨t854, A220, H⟩ := H
 replace H : (some t854) = some r := H
 have A22 := Aside0.mk A220
 clear A220
 obtain rfl := Option.some.inj H
 have hcz23_0 : wc.cell? ⟨gb830, 0, none⟩ = some (.int .i64 a0_0) := zT BK830 0
 have hcz23_1 : wc.cell? ⟨gb830, 1, none⟩ = some (.slice A0_1 l0_1.length c0_1) := zT BK830 1
 have hfz23_0 := blk_frozen BK830.out 0
 have hfz23_1 := blk_frozen BK830.out 1
 go_wp2_with (first | ((with_reducible refine gate_callee (f := 17) rfl ?_); refine goesL_ (some 26) rfl rfl Try.func17 (by kernel_rfl) rfl #[.agg #[.int .i64 a0_0, .slice A0_1 l0_1.length c0_1], .int .i64 7] rfl zM ?_; (with_reducible refine (g5_.calls kj4 a0_0 _ _ l0_1 7 t841 t842 _ ?side1 ?side2 A15.out).mono ?_); (case side1 => exact zC HR0_1 HB); (case side2 => exact HC0_1.out); rintro e w24 ⟨v843, rfl, ho0, hb⟩; refine ⟨_, rfl, ?_⟩; have n0_ := Aside0.mk (Kd.R_lower ho0 (below_size zB)); have n1_ := Aside0.mk (blk_below (g := gb830) (o := .cells #[.int .i64 a0_0, .slice A0_1 l0_1.length c0_1] 42 (0, 0)) (zK BK830) hb); have n2_ := Aside0.mk (below_step zB hb); clear BK830; clear HB; have HO844 := n0_; have BK830 := n1_; have HB := n2_; clear n0_ n1_ n2_; (try clear hb); (try clear hb2); (try clear hk); (try clear hi); (try clear ho0); have hcz25_0 : w24.cell? ⟨gb830, 0, none⟩ = some (.int .i64 a0_0) := zT BK830 0; have hcz25_1 : w24.cell? ⟨gb830, 1, none⟩ = some (.slice A0_1 l0_1.length c0_1) := zT BK830 1; have hfz25_0 := blk_frozen BK830.out 0; have hfz25_1 := blk_frozen BK830.out 1; obtain ⟨Ao26, co26, eo26⟩ := Kd.R_slice HO844.out; subst eo26) | ((with_reducible refine gate_callee (f := 14) rfl ?_); refine goesL_ (some 37) rfl rfl Try.func14 (by kernel_rfl) rfl #[.agg #[.int .i64 t841, .slice Ao26 t842.length co26], .int .i64 (wrap64 (Int.tmod (IntKind.u64.wrap (a1)) (IntKind.u64.wrap (t841)))), .int .i64 40] rfl zM ?_; (with_reducible refine (best_Settle.calls kj4 t841 _ _ t842 (wrap64 (Int.tmod (IntKind.u64.wrap (a1)) (IntKind.u64.wrap (t841)))) 40 t845 t848 t849 _ ?side1 ?side2 A17.out).mono ?_); (case side1 => refine (Kd.R_reads' (e := 71) (base := w.heap.size) (ok := fun k_ => True) (n := t842.length) (c := co26) ?_).2.2; exact (by (with_reducible repeat (first | apply Kd.R_alloc | apply Kd.R_drewN | apply Kd.R_drew)); exact (Kd.R_mono (Kd.R_far (p := ⟨gb830, 1, none⟩) (Kd.R_far (p := ⟨gb830, 0, none⟩) (Kd.R_types HO844.out BK830.out (by decide)) (fun _ hk => hk.2) (.int .i64 t841)) (fun _ hk => hk.2) (.slice Ao26 t842.length co26)) (fun _ h_ => h_.1)))); (case side2 => exact (Kd.R_reads' HO844.out).2.1); rintro e w27 ⟨v846, rfl, ho0, hb⟩; refine ⟨_, rfl, ?_⟩; have n0_ := Aside0.mk (Kd.R_below (by (with_reducible repeat (first | apply Kd.R_alloc | apply Kd.R_drewN | apply Kd.R_drew)); exact (Kd.R_mono (Kd.R_far (p := ⟨gb830, 1, none⟩) (Kd.R_far (p := ⟨gb830, 0, none⟩) (Kd.R_types HO844.out BK830.out (by decide)) (fun _ hk => hk.2) (.int .i64 t841)) (fun _ hk => hk.2) (.slice Ao26 t842.length co26)) (fun _ h_ => h_.1))) hb); have n1_ := Aside0.mk (Kd.S_lower ho0 (below_size zB)); have n2_ := Aside0.mk (blk_below (g := gb830) (o := .cells #[.int .i64 t841, .slice Ao26 t842.length co26] 42 (0, 0)) (by (with_reducible repeat (first | refine blk_drewN ?_ _ | refine blk_drew ?_ | refine blk_alloc ?_ _)); refine blk_put (cs := #[.int .i64 t841, .slice A0_1 l0_1.length c0_1]) ?_ 1 _ rfl; (with_reducible repeat (first | refine blk_drewN ?_ _ | refine blk_drew ?_ | refine blk_alloc ?_ _)); refine blk_put (cs := #[.int .i64 a0_0, .slice A0_1 l0_1.length c0_1]) ?_ 0 _ rfl; (with_reducible repeat (first | refine blk_drewN ?_ _ | refine blk_drew ?_ | refine blk_alloc ?_ _)); exact BK830.out) hb); have n3_ := Aside0.mk (below_step zB hb); clear HO844; clear BK830; clear HB; have HO844 := n0_; have HO847 := n1_; have BK830 := n2_; have HB := n3_; clear n0_ n1_ n2_ n3_; (try clear hb); (try clear hb2); (try clear hk); (try clear hi); (try clear ho0); have hcz28_0 : w27.cell? ⟨gb830, 0, none⟩ = some (.int .i64 t841) := zT BK830 0; have hcz28_1 : w27.cell? ⟨gb830, 1, none⟩ = some (.slice Ao26 t842.length co26) := zT BK830 1; have hfz28_0 := blk_frozen BK830.out 0; have hfz28_1 := blk_frozen BK830.out 1; obtain ⟨Ao29, co29, eo29⟩ := Kd.S_slice HO847.out; subst eo29) | ((with_reducible refine gate_callee (f := 18) rfl ?_); refine goesL_ (some 45) rfl rfl Try.func18 (by kernel_rfl) rfl #[.agg #[.int .i64 t841, .slice Ao26 t842.length co26], .int .i64 (wrap64 (Int.tmod (IntKind.u64.wrap (a1)) (IntKind.u64.wrap (t841)))), .slice Ao29 t845.length co29] rfl zM ?_; (with_reducible refine (best_Round.calls kj4 t841 _ _ t842 (wrap64 (Int.tmod (IntKind.u64.wrap (a1)) (IntKind.u64.wrap (t841)))) _ _ t845 t850 t853 _ ?side1 ?side2 ?side3 ?side4 A18.out).mono ?_); (case side1 => repeat (first | exact (Kd.R_reads' HO844.out).2.2 | (with_reducible refine Kd.C_alloc ?_ _) | (with_reducible refine Kd.C_drewN ?_ _) | (with_reducible refine Kd.C_drew ?_))); (case side2 => exact (Kd.R_reads' HO844.out).2.1); (case side3 => repeat (first | exact (Kd.S_reads' HO847.out).2.2 | (with_reducible refine Kd.C_alloc ?_ _) | (with_reducible refine Kd.C_drewN ?_ _) | (with_reducible refine Kd.C_drew ?_))); (case side4 => exact (Kd.S_reads' HO847.out).2.1); rintro e w30 ⟨v851, rfl, ho0, hb⟩; refine ⟨_, rfl, ?_⟩; have n0_ := Aside0.mk (Kd.R_below (zO HO844) hb); have n1_ := Aside0.mk (Kd.S_elder' (zS HO847) (Kd.S_base ho0) hb); have n2_ := Aside0.mk (Kd.S_lower (Kd.S_new' ho0 (Kd.S_lt (zS HO847))) (below_size zB)); have n3_ := Aside0.mk (blk_below (g := gb830) (o := .cells #[.int .i64 t841, .slice Ao26 t842.length co26] 42 (0, 0)) (zK BK830) hb); have n4_ := Aside0.mk (below_step zB hb); clear HO844; clear HO847; clear BK830; clear HB; have HO844 := n0_; have HO847 := n1_; have HO852 := n2_; have BK830 := n3_; have HB := n4_; clear n0_ n1_ n2_ n3_ n4_; (try clear hb); (try clear hb2); (try clear hk); (try clear hi); (try clear ho0); have hcz31_0 : w30.cell? ⟨gb830, 0, none⟩ = some (.int .i64 t841) := zT BK830 0; have hcz31_1 : w30.cell? ⟨gb830, 1, none⟩ = some (.slice Ao26 t842.length co26) := zT BK830 1; have hfz31_0 := blk_frozen BK830.out 0; have hfz31_1 := blk_frozen BK830.out 1; obtain ⟨Ao32, co32, eo32⟩ := Kd.S_slice HO852.out; subst eo32) | (go_at_call 19; (with_reducible refine (g0_.calls kj4 _ _ t845 _ _ t850  t854 _ ?side1 ?side2 ?side3 ?side4 A22.out).mono ?_); (case side1 => repeat (first | exact (Kd.S_reads' HO847.out).2.2 | (with_reducible refine Kd.C_alloc ?_ _) | (with_reducible refine Kd.C_drewN ?_ _) | (with_reducible refine Kd.C_drew ?_))); (case side2 => exact (Kd.S_reads' HO847.out).2.1); (case side3 => repeat (first | exact (Kd.S_reads' HO852.out).2.2 | (with_reducible refine Kd.C_alloc ?_ _) | (with_reducible refine Kd.C_drewN ?_ _) | (with_reducible refine Kd.C_drew ?_))); (case side4 => exact (Kd.S_reads' HO852.out).2.1); rintro e w33 ⟨rfl, hb⟩; have n0_ := Aside0.mk (Kd.R_below (zO HO844) hb); have n1_ := Aside0.mk (Kd.S_below (zS HO847) hb); have n2_ := Aside0.mk (Kd.S_below (zS HO852) hb); have n3_ := Aside0.mk (blk_below (g := gb830) (o := .cells #[.int .i64 t841, .slice Ao26 t842.length co26] 42 (0, 0)) (zK BK830) hb); have n4_ := Aside0.mk (below_step zB hb); clear HO844; clear HO847; clear HO852; clear BK830; clear HB; have HO844 := n0_; have HO847 := n1_; have HO852 := n2_; have BK830 := n3_; have HB := n4_; clear n0_ n1_ n2_ n3_ n4_; (try clear hb); (try clear hb2); (try clear hk); (try clear hi)))
 go_ret
 exact ⟨zE, zB⟩
/-! ### g9_: function 23 -/
mutual
def g9_.l0 : Nat → Int → Int → List (S71) → Int → Int → Option (Int)
  | 0, _, _, _, _, _ => none
  | k + 1, x1, x2, x10, x11, x12 => if x12 < x11 then (if 0 ≤ x12 then (if x12 < (x10.length : Int) then (if ((rd_T71 x10 x12).f0) = x1 then (g9_.j1 k x1 x2 x10 x11 x12 (((rd_T71 x10 x12).f1) == x2) ((rd_T71 x10 x12).f0) ((rd_T71 x10 x12).f1) ((rd_T71 x10 x12).f2) ((rd_T71 x10 x12).f3) ((rd_T71 x10 x12).f4)) else (g9_.j1 k x1 x2 x10 x11 x12 false ((rd_T71 x10 x12).f0) ((rd_T71 x10 x12).f1) ((rd_T71 x10 x12).f2) ((rd_T71 x10 x12).f3) ((rd_T71 x10 x12).f4))) else (none)) else (none)) else (some 0)
def g9_.j1 : Nat → Int → Int → List (S71) → Int → Int → Bool → Int → Int → Int → Int → Int → Option (Int)
  | 0, _, _, _, _, _, _, _, _, _, _, _ => none
  | k + 1, x1, x2, x10, x11, x12, x25, x892000, x892001, x892002, x892003, x892004 => if x25 = true then (some x892002) else (if x892000 = x2 then (if x892001 = x1 then (some (wrap64 (4 - x892002))) else (g9_.l0 k x1 x2 x10 x11 (wrap64 (x12 + 1)))) else (g9_.l0 k x1 x2 x10 x11 (wrap64 (x12 + 1))))
end
def g9_.f (k : Nat) (a0_0 : Int) (l0_1 : List (S71)) (a1 : Int) (a2 : Int) : Option (Int) := g9_.l0 k a1 a2 l0_1 (l0_1.length : Int) 0
theorem g9_.mono_l : ∀ k, (∀ y0 y1 y2 y3 y4, LeO (g9_.l0 k y0 y1 y2 y3 y4) (g9_.l0 (k + 1) y0 y1 y2 y3 y4)) ∧ (∀ y0 y1 y2 y3 y4 y5 y6 y7 y8 y9 y10, LeO (g9_.j1 k y0 y1 y2 y3 y4 y5 y6 y7 y8 y9 y10) (g9_.j1 (k + 1) y0 y1 y2 y3 y4 y5 y6 y7 y8 y9 y10))
  | 0 => ⟨fun _ _ _ _ _ r h => by simp [g9_.l0] at h, fun _ _ _ _ _ _ _ _ _ _ _ r h => by simp [g9_.j1] at h⟩
  | k + 1 => by
    obtain ⟨ih0, ih1⟩ := g9_.mono_l k
    refine ⟨?_, ?_⟩
    · intro y0 y1 y2 y3 y4
      unfold g9_.l0
      repeat' (with_reducible first | exact ih0 _ _ _ _ _ | exact ih1 _ _ _ _ _ _ _ _ _ _ _ | exact LeO.refl _ | exact LeO.none _ | refine LeO.ite ?_ ?_ | refine LeO.bind ?_ (fun _ => ?_))
    · intro y0 y1 y2 y3 y4 y5 y6 y7 y8 y9 y10
      unfold g9_.j1
      repeat' (with_reducible first | exact ih0 _ _ _ _ _ | exact ih1 _ _ _ _ _ _ _ _ _ _ _ | exact LeO.refl _ | exact LeO.none _ | refine LeO.ite ?_ ?_ | refine LeO.bind ?_ (fun _ => ?_))
theorem g9_.mono : ∀ a0 a1 a2 a3 k, LeO (g9_.f k a0 a1 a2 a3) (g9_.f (k + 1) a0 a1 a2 a3) := by
  intro a0 a1 a2 a3 k
  obtain ⟨ih0, ih1⟩ := g9_.mono_l k
  unfold g9_.f
  repeat' (with_reducible first | exact ih0 _ _ _ _ _ | exact ih1 _ _ _ _ _ _ _ _ _ _ _ | exact LeO.refl _ | exact LeO.none _ | refine LeO.ite ?_ ?_ | refine LeO.bind ?_ (fun _ => ?_))
set_option maxHeartbeats 8000000 in
set_option maxRecDepth 100000 in
theorem g9_.calls (k : Nat) (a0_0 : Int) (A0_1 : Option Addr) (c0_1 : Nat) (l0_1 : List (S71)) (a1 : Int) (a2 : Int) (r : Int) (w : World) (hr0_1 : Kd.C k71 w A0_1 l0_1.length l0_1) (hc0_1 : l0_1.length ≤ c0_1) (h : g9_.f k a0_0 l0_1 a1 a2 = some r) :
 Calls Try.prog 23 #[.agg #[.int .i64 a0_0, .slice A0_1 l0_1.length c0_1], .int .i64 a1, .int .i64 a2] w fun e w' => e = .returned (.int .i64 r) ∧ Below w.heap.size w w' := by
 have hu42 := Try.underlying42
 have hu40 := Try.underlying40
 have hu71 := Try.underlying71
 have hu3 := Try.underlying3
 have HR0_1 := Aside0.mk hr0_1
 have HC0_1 := Aside0.mk hc0_1
 clear hr0_1 hc0_1
 have HB := Aside0.mk (Below.refl w.heap.size w)
 have H : (g9_.l0 k a1 a2 l0_1 (l0_1.length : Int) 0) = some r := h
 clear h
 have H' := Aside0.mk H
 clear H
 go_enter Try.func23, Try.ntmps23
 go_wp2_with (first | ((with_reducible refine gate_dst (N := 3) rfl ?_); refine bx 3 (#[.int .i64 a0_0, .slice A0_1 l0_1.length c0_1]) 42 ?_; intro gb889 hg w4 hbox hb; have n0_ := Aside0.mk (below_step zB hb); have n1_ := Aside0.mk (hbox); have n2_ := Aside0.mk ((zG hg : w.heap.size ≤ gb889)); have n3_ := Aside0.mk ((zG hg : w.heap.size ≤ gb889)); clear HB; have HB := n0_; have BK889 := n1_; have GW889 := n2_; have GE889 := n3_; clear n0_ n1_ n2_ n3_; clear hb hbox hg; have hcz5_0 : w4.cell? ⟨gb889, 0, none⟩ = some (.int .i64 a0_0) := zT BK889 0; have hcz5_1 : w4.cell? ⟨gb889, 1, none⟩ = some (.slice A0_1 l0_1.length c0_1) := zT BK889 1; have hfz5_0 := blk_frozen BK889.out 0; have hfz5_1 := blk_frozen BK889.out 1))
 go_loopg [12] k (fun kq v12 w' => ∃ (x12_1 : Int), v12 = .int .i64 x12_1 ∧ Aside0 (g9_.l0 kq a1 a2 l0_1 (l0_1.length : Int) x12_1 = some r) ∧ Aside0 (kq ≤ k) ∧ Aside0 (w'.heap[gb889]? = some (.cells #[.int .i64 a0_0, (.slice A0_1 l0_1.length c0_1)] 42 (0, 0))) ∧ Aside0 (Below w.heap.size w w'))
 case atStart => exact ⟨(0), zR, H', ⟨Nat.le_refl _⟩, ⟨zK BK889⟩, ⟨zB⟩⟩
 clear H'
 try clear c2
 try clear p2
 try clear hcz5_0
 try clear hcz5_1
 try clear hfz5_0
 try clear hfz5_1
 obtain ⟨x12_1, rfl, HA, HK1, BK889, HB⟩ := hrel
 rcases gk with _ | k1
 · exact absurd HA.out (by simp [g9_.l0])
 have H := HA.out
 clear HA
 simp only [g9_.l0] at H
 by_cases c6 : x12_1 < (l0_1.length : Int)
 rotate_left
 ·
  rw [if_neg c6] at H
  have c6b0 : decide (x12_1 < (l0_1.length : Int)) = false := decide_eq_false c6
  clear c6
  obtain rfl := Option.some.inj H
  go_wp2
  go_ret
  exact ⟨zE, zB⟩
 rw [if_pos c6] at H
 have c6b0 : decide (x12_1 < (l0_1.length : Int)) = true := decide_eq_true c6
 clear c6
 by_cases c7 : 0 ≤ x12_1
 rotate_left
 · rw [if_neg c7] at H; exact absurd H (by simp)
 rw [if_pos c7] at H
 have c7b0 : decide (0 ≤ x12_1) = true := decide_eq_true c7
 clear c7
 by_cases c8 : x12_1 < (l0_1.length : Int)
 rotate_left
 · rw [if_neg c8] at H; exact absurd H (by simp)
 rw [if_pos c8] at H
 have c8b0 : decide (x12_1 < (l0_1.length : Int)) = true := decide_eq_true c8
 clear c8
 have HC9 := Aside0.mk H
 clear H
 have p890 : 0 ≤ (x12_1 : Int) := od
 have q890 : x12_1 < (l0_1.length : Int) := od
 obtain ⟨ad890, e890, hx890_0, hx890_1, hx890_2, hx890_3, hx890_4⟩ := at_T71 HR0_1.out x12_1 p890 q890
 cases e890
 replace hx890_0 := zL HB hx890_0
 replace hx890_1 := zL HB hx890_1
 replace hx890_2 := zL HB hx890_2
 replace hx890_3 := zL HB hx890_3
 replace hx890_4 := zL HB hx890_4
 replace p890 := eq_true p890
 replace q890 := eq_true q890
 go_upto_region 4 with (first | ((with_reducible refine gate_dst (N := 8) rfl ?_); refine bx 8 (#[.int .i64 0, .int .i64 0, .int .i64 0, .int .i64 0, .int .i64 0]) 71 ?_; intro gb891 hg w10 hbox hb; have n0_ := Aside0.mk (blk_below (g := gb889) (o := .cells #[.int .i64 a0_0, .slice (some ad890) l0_1.length c0_1] 42 (0, 0)) (zK BK889) hb); have n1_ := Aside0.mk (below_step zB hb); have n2_ := Aside0.mk (hbox); have n3_ := Aside0.mk ((zG hg : w.heap.size ≤ gb891)); have n4_ := Aside0.mk ((zG hg : w.heap.size ≤ gb891)); have n5_ := Aside0.mk ((by rw [hg]; exact Nat.ne_of_lt (blk_lt (g := gb889) (o := .cells #[.int .i64 a0_0, .slice (some ad890) l0_1.length c0_1] 42 (0, 0)) (zK BK889)) : gb889 ≠ gb891)); have n6_ := Aside0.mk ((by rw [hg]; exact Nat.ne_of_gt (blk_lt (g := gb889) (o := .cells #[.int .i64 a0_0, .slice (some ad890) l0_1.length c0_1] 42 (0, 0)) (zK BK889)) : gb891 ≠ gb889)); clear BK889; clear HB; have BK889 := n0_; have HB := n1_; have BK891 := n2_; have GW891 := n3_; have GE891 := n4_; have NB889_891 := n5_; have NB891_889 := n6_; clear n0_ n1_ n2_ n3_ n4_ n5_ n6_; clear hb hbox hg; have hnb11 := NB891_889.out; have hnc11 := NB889_891.out; have hcz12_0 : w10.cell? ⟨gb891, 0, none⟩ = some (.int .i64 0) := zT BK891 0; have hcz12_1 : w10.cell? ⟨gb891, 1, none⟩ = some (.int .i64 0) := zT BK891 1; have hcz12_2 : w10.cell? ⟨gb891, 2, none⟩ = some (.int .i64 0) := zT BK891 2; have hcz12_3 : w10.cell? ⟨gb891, 3, none⟩ = some (.int .i64 0) := zT BK891 3; have hcz12_4 : w10.cell? ⟨gb891, 4, none⟩ = some (.int .i64 0) := zT BK891 4; have hfz12_0 := blk_frozen BK891.out 0; have hfz12_1 := blk_frozen BK891.out 1; have hfz12_2 := blk_frozen BK891.out 2; have hfz12_3 := blk_frozen BK891.out 3; have hfz12_4 := blk_frozen BK891.out 4))
 (try simp only [Act.put, List.setIfInBounds_toArray, List.set_cons_zero, List.set_cons_succ])
 go_cut [25] (fun v25 wc => ∃ (kq : Nat) (x25_8 : Bool), v25 = .bool x25_8 ∧ Aside0 (g9_.j1 kq a1 a2 l0_1 (l0_1.length : Int) x12_1 x25_8 ((rd_T71 l0_1 x12_1).f0) ((rd_T71 l0_1 x12_1).f1) ((rd_T71 l0_1 x12_1).f2) ((rd_T71 l0_1 x12_1).f3) ((rd_T71 l0_1 x12_1).f4) = some r) ∧ Aside0 (kq ≤ k1) ∧ Aside0 (wc.heap[gb889]? = some (.cells #[.int .i64 a0_0, (.slice (some ad890) l0_1.length c0_1)] 42 (0, 0))) ∧ Aside0 (wc.heap[gb891]? = some (.cells #[.int .i64 ((rd_T71 l0_1 x12_1).f0), .int .i64 ((rd_T71 l0_1 x12_1).f1), .int .i64 ((rd_T71 l0_1 x12_1).f2), .int .i64 ((rd_T71 l0_1 x12_1).f3), .int .i64 ((rd_T71 l0_1 x12_1).f4)] 71 (0, 0))) ∧ Aside0 (Below w.heap.size w wc))
 case first =>
  have H := HC9.out
  clear HC9
  by_cases c13 : ((rd_T71 l0_1 x12_1).f0) = a1
  ·
   rw [if_pos c13] at H
   have c13b0 : (((rd_T71 l0_1 x12_1).f0) == a1) = true := beq_iff_eq.mpr c13
   have c13b1 : (((rd_T71 l0_1 x12_1).f0) != a1) = false := bne_eq_false_iff_eq.mpr c13
   clear c13
   (first | rw [c13b0] | (simp only [i64_w, i32_w]; rw [c13b0]) | skip)
   have H' := Aside0.mk H
   clear H
   have hnb14 := NB891_889.out
   have hnc14 := NB889_891.out
   have hcz15_0 : w10.cell? ⟨gb891, 0, none⟩ = some (.int .i64 0) := zT BK891 0
   have hcz15_1 : w10.cell? ⟨gb891, 1, none⟩ = some (.int .i64 0) := zT BK891 1
   have hcz15_2 : w10.cell? ⟨gb891, 2, none⟩ = some (.int .i64 0) := zT BK891 2
   have hcz15_3 : w10.cell? ⟨gb891, 3, none⟩ = some (.int .i64 0) := zT BK891 3
   have hcz15_4 : w10.cell? ⟨gb891, 4, none⟩ = some (.int .i64 0) := zT BK891 4
   have hfz15_0 := blk_frozen BK891.out 0
   have hfz15_1 := blk_frozen BK891.out 1
   have hfz15_2 := blk_frozen BK891.out 2
   have hfz15_3 := blk_frozen BK891.out 3
   have hfz15_4 := blk_frozen BK891.out 4
   go_wp2
   go_meet
   case rel => exact ⟨_, ((((rd_T71 l0_1 x12_1).f1) == a2)), zR, H', ⟨by have := HK1.out; first | omega | exact Nat.le_refl _⟩, ⟨by (with_reducible repeat (first | refine blk_drewN ?_ _ | refine blk_drew ?_ | refine blk_alloc ?_ _)); refine blk_far ?_ NB889_891.out _; (with_reducible repeat (first | refine blk_drewN ?_ _ | refine blk_drew ?_ | refine blk_alloc ?_ _)); refine blk_far ?_ NB889_891.out _; (with_reducible repeat (first | refine blk_drewN ?_ _ | refine blk_drew ?_ | refine blk_alloc ?_ _)); refine blk_far ?_ NB889_891.out _; (with_reducible repeat (first | refine blk_drewN ?_ _ | refine blk_drew ?_ | refine blk_alloc ?_ _)); refine blk_far ?_ NB889_891.out _; (with_reducible repeat (first | refine blk_drewN ?_ _ | refine blk_drew ?_ | refine blk_alloc ?_ _)); refine blk_far ?_ NB889_891.out _; (with_reducible repeat (first | refine blk_drewN ?_ _ | refine blk_drew ?_ | refine blk_alloc ?_ _)); exact BK889.out⟩, ⟨by (with_reducible repeat (first | refine blk_drewN ?_ _ | refine blk_drew ?_ | refine blk_alloc ?_ _)); refine blk_put (cs := #[.int .i64 ((rd_T71 l0_1 x12_1).f0), .int .i64 ((rd_T71 l0_1 x12_1).f1), .int .i64 ((rd_T71 l0_1 x12_1).f2), .int .i64 ((rd_T71 l0_1 x12_1).f3), .int .i64 0]) ?_ 4 _ rfl; (with_reducible repeat (first | refine blk_drewN ?_ _ | refine blk_drew ?_ | refine blk_alloc ?_ _)); refine blk_put (cs := #[.int .i64 ((rd_T71 l0_1 x12_1).f0), .int .i64 ((rd_T71 l0_1 x12_1).f1), .int .i64 ((rd_T71 l0_1 x12_1).f2), .int .i64 0, .int .i64 0]) ?_ 3 _ rfl; (with_reducible repeat (first | refine blk_drewN ?_ _ | refine blk_drew ?_ | refine blk_alloc ?_ _)); refine blk_put (cs := #[.int .i64 ((rd_T71 l0_1 x12_1).f0), .int .i64 ((rd_T71 l0_1 x12_1).f1), .int .i64 0, .int .i64 0, .int .i64 0]) ?_ 2 _ rfl; (with_reducible repeat (first | refine blk_drewN ?_ _ | refine blk_drew ?_ | refine blk_alloc ?_ _)); refine blk_put (cs := #[.int .i64 ((rd_T71 l0_1 x12_1).f0), .int .i64 0, .int .i64 0, .int .i64 0, .int .i64 0]) ?_ 1 _ rfl; (with_reducible repeat (first | refine blk_drewN ?_ _ | refine blk_drew ?_ | refine blk_alloc ?_ _)); refine blk_put (cs := #[.int .i64 0, .int .i64 0, .int .i64 0, .int .i64 0, .int .i64 0]) ?_ 0 _ rfl; (with_reducible repeat (first | refine blk_drewN ?_ _ | refine blk_drew ?_ | refine blk_alloc ?_ _)); exact BK891.out⟩, ⟨zB⟩⟩
  rw [if_neg c13] at H
  have c13b0 : (((rd_T71 l0_1 x12_1).f0) == a1) = false := beq_eq_false_iff_ne.mpr c13
  have c13b1 : (((rd_T71 l0_1 x12_1).f0) != a1) = true := bne_iff_ne.mpr c13
  (first | rw [c13b0] | (simp only [i64_w, i32_w]; rw [c13b0]) | skip)
  have H' := Aside0.mk H
  clear H
  have hnb16 := NB891_889.out
  have hnc16 := NB889_891.out
  have hcz17_0 : w10.cell? ⟨gb891, 0, none⟩ = some (.int .i64 0) := zT BK891 0
  have hcz17_1 : w10.cell? ⟨gb891, 1, none⟩ = some (.int .i64 0) := zT BK891 1
  have hcz17_2 : w10.cell? ⟨gb891, 2, none⟩ = some (.int .i64 0) := zT BK891 2
  have hcz17_3 : w10.cell? ⟨gb891, 3, none⟩ = some (.int .i64 0) := zT BK891 3
  have hcz17_4 : w10.cell? ⟨gb891, 4, none⟩ = some (.int .i64 0) := zT BK891 4
  have hfz17_0 := blk_frozen BK891.out 0
  have hfz17_1 := blk_frozen BK891.out 1
  have hfz17_2 := blk_frozen BK891.out 2
  have hfz17_3 := blk_frozen BK891.out 3
  have hfz17_4 := blk_frozen BK891.out 4
  go_wp2
  go_meet
  case rel => exact ⟨_, (false), zR, H', ⟨by have := HK1.out; first | omega | exact Nat.le_refl _⟩, ⟨by (with_reducible repeat (first | refine blk_drewN ?_ _ | refine blk_drew ?_ | refine blk_alloc ?_ _)); refine blk_far ?_ NB889_891.out _; (with_reducible repeat (first | refine blk_drewN ?_ _ | refine blk_drew ?_ | refine blk_alloc ?_ _)); refine blk_far ?_ NB889_891.out _; (with_reducible repeat (first | refine blk_drewN ?_ _ | refine blk_drew ?_ | refine blk_alloc ?_ _)); refine blk_far ?_ NB889_891.out _; (with_reducible repeat (first | refine blk_drewN ?_ _ | refine blk_drew ?_ | refine blk_alloc ?_ _)); refine blk_far ?_ NB889_891.out _; (with_reducible repeat (first | refine blk_drewN ?_ _ | refine blk_drew ?_ | refine blk_alloc ?_ _)); refine blk_far ?_ NB889_891.out _; (with_reducible repeat (first | refine blk_drewN ?_ _ | refine blk_drew ?_ | refine blk_alloc ?_ _)); exact BK889.out⟩, ⟨by (with_reducible repeat (first | refine blk_drewN ?_ _ | refine blk_drew ?_ | refine blk_alloc ?_ _)); refine blk_put (cs := #[.int .i64 ((rd_T71 l0_1 x12_1).f0), .int .i64 ((rd_T71 l0_1 x12_1).f1), .int .i64 ((rd_T71 l0_1 x12_1).f2), .int .i64 ((rd_T71 l0_1 x12_1).f3), .int .i64 0]) ?_ 4 _ rfl; (with_reducible repeat (first | refine blk_drewN ?_ _ | refine blk_drew ?_ | refine blk_alloc ?_ _)); refine blk_put (cs := #[.int .i64 ((rd_T71 l0_1 x12_1).f0), .int .i64 ((rd_T71 l0_1 x12_1).f1), .int .i64 ((rd_T71 l0_1 x12_1).f2), .int .i64 0, .int .i64 0]) ?_ 3 _ rfl; (with_reducible repeat (first | refine blk_drewN ?_ _ | refine blk_drew ?_ | refine blk_alloc ?_ _)); refine blk_put (cs := #[.int .i64 ((rd_T71 l0_1 x12_1).f0), .int .i64 ((rd_T71 l0_1 x12_1).f1), .int .i64 0, .int .i64 0, .int .i64 0]) ?_ 2 _ rfl; (with_reducible repeat (first | refine blk_drewN ?_ _ | refine blk_drew ?_ | refine blk_alloc ?_ _)); refine blk_put (cs := #[.int .i64 ((rd_T71 l0_1 x12_1).f0), .int .i64 0, .int .i64 0, .int .i64 0, .int .i64 0]) ?_ 1 _ rfl; (with_reducible repeat (first | refine blk_drewN ?_ _ | refine blk_drew ?_ | refine blk_alloc ?_ _)); refine blk_put (cs := #[.int .i64 0, .int .i64 0, .int .i64 0, .int .i64 0, .int .i64 0]) ?_ 0 _ rfl; (with_reducible repeat (first | refine blk_drewN ?_ _ | refine blk_drew ?_ | refine blk_alloc ?_ _)); exact BK891.out⟩, ⟨zB⟩⟩
 clear HC9
 try clear c1
 try clear c2
 try clear p2
 try clear c6
 try clear c6b0
 try clear c7
 try clear c7b0
 try clear c8
 try clear c8b0
 try clear p8
 try clear q8
 try clear hx8
 try clear c11
 try clear c13
 try clear c13b0
 try clear c13b1
 try clear c14
 try clear c16
 try clear hcz12_0
 try clear hcz12_1
 try clear hcz12_2
 try clear hcz12_3
 try clear hcz12_4
 try clear hcz15_0
 try clear hcz15_1
 try clear hcz15_2
 try clear hcz15_3
 try clear hcz15_4
 try clear hcz17_0
 try clear hcz17_1
 try clear hcz17_2
 try clear hcz17_3
 try clear hcz17_4
 try clear hcz5_0
 try clear hcz5_1
 try clear hfz12_0
 try clear hfz12_1
 try clear hfz12_2
 try clear hfz12_3
 try clear hfz12_4
 try clear hfz15_0
 try clear hfz15_1
 try clear hfz15_2
 try clear hfz15_3
 try clear hfz15_4
 try clear hfz17_0
 try clear hfz17_1
 try clear hfz17_2
 try clear hfz17_3
 try clear hfz17_4
 try clear hfz5_0
 try clear hfz5_1
 try clear hx890_0
 try clear hx890_1
 try clear hx890_2
 try clear hx890_3
 try clear hx890_4
 try clear p2
 try clear p890
 try clear q890
 obtain ⟨kq, x25_8, rfl, HA, HJ8, BK889, BK891, HB⟩ := hcut
 rcases kq with _ | kj8
 · exact absurd HA.out (by simp [g9_.j1])
 have H := HA.out
 clear HA
 simp only [g9_.j1] at H
 by_cases c18 : x25_8 = true
 ·
  subst c18
  have H1 : (some ((rd_T71 l0_1 x12_1).f2)) = some r := by rw [if_pos rfl] at H; exact H
  clear H
  have H := H1
  clear H1
  obtain rfl := Option.some.inj H
  have hnb19 := NB891_889.out
  have hnc19 := NB889_891.out
  have hcz20_0 : wc.cell? ⟨gb891, 0, none⟩ = some (.int .i64 ((rd_T71 l0_1 x12_1).f0)) := zT BK891 0
  have hcz20_1 : wc.cell? ⟨gb891, 1, none⟩ = some (.int .i64 ((rd_T71 l0_1 x12_1).f1)) := zT BK891 1
  have hcz20_2 : wc.cell? ⟨gb891, 2, none⟩ = some (.int .i64 ((rd_T71 l0_1 x12_1).f2)) := zT BK891 2
  have hcz20_3 : wc.cell? ⟨gb891, 3, none⟩ = some (.int .i64 ((rd_T71 l0_1 x12_1).f3)) := zT BK891 3
  have hcz20_4 : wc.cell? ⟨gb891, 4, none⟩ = some (.int .i64 ((rd_T71 l0_1 x12_1).f4)) := zT BK891 4
  have hfz20_0 := blk_frozen BK891.out 0
  have hfz20_1 := blk_frozen BK891.out 1
  have hfz20_2 := blk_frozen BK891.out 2
  have hfz20_3 := blk_frozen BK891.out 3
  have hfz20_4 := blk_frozen BK891.out 4
  go_wp2
  go_ret
  exact ⟨zE, zB⟩
 replace c18 := Bool.eq_false_iff.mpr c18
 subst c18
 have H1 : (if ((rd_T71 l0_1 x12_1).f0) = a2 then (if ((rd_T71 l0_1 x12_1).f1) = a1 then (some (wrap64 (4 - ((rd_T71 l0_1 x12_1).f2)))) else (g9_.l0 kj8 a1 a2 l0_1 (l0_1.length : Int) (wrap64 (x12_1 + 1)))) else (g9_.l0 kj8 a1 a2 l0_1 (l0_1.length : Int) (wrap64 (x12_1 + 1)))) = some r := by rw [if_neg (show ¬ (false = true) by decide)] at H; exact H
 clear H
 have H := H1
 clear H1
 by_cases c21 : ((rd_T71 l0_1 x12_1).f0) = a2
 rotate_left
 ·
  rw [if_neg c21] at H
  have c21b0 : (((rd_T71 l0_1 x12_1).f0) == a2) = false := beq_eq_false_iff_ne.mpr c21
  have c21b1 : (((rd_T71 l0_1 x12_1).f0) != a2) = true := bne_iff_ne.mpr c21
  have H' := Aside0.mk H
  clear H
  have hnb27 := NB891_889.out
  have hnc27 := NB889_891.out
  have hcz28_0 : wc.cell? ⟨gb891, 0, none⟩ = some (.int .i64 ((rd_T71 l0_1 x12_1).f0)) := zT BK891 0
  have hcz28_1 : wc.cell? ⟨gb891, 1, none⟩ = some (.int .i64 ((rd_T71 l0_1 x12_1).f1)) := zT BK891 1
  have hcz28_2 : wc.cell? ⟨gb891, 2, none⟩ = some (.int .i64 ((rd_T71 l0_1 x12_1).f2)) := zT BK891 2
  have hcz28_3 : wc.cell? ⟨gb891, 3, none⟩ = some (.int .i64 ((rd_T71 l0_1 x12_1).f3)) := zT BK891 3
  have hcz28_4 : wc.cell? ⟨gb891, 4, none⟩ = some (.int .i64 ((rd_T71 l0_1 x12_1).f4)) := zT BK891 4
  have hfz28_0 := blk_frozen BK891.out 0
  have hfz28_1 := blk_frozen BK891.out 1
  have hfz28_2 := blk_frozen BK891.out 2
  have hfz28_3 := blk_frozen BK891.out 3
  have hfz28_4 := blk_frozen BK891.out 4
  go_wp2
  go_roundg kj8
  case measure => have := HK1.out; have := HJ8.out; omega
  case rel => exact ⟨(wrap64 (x12_1 + 1)), zR, H', ⟨by have := HK1.out; have := HJ8.out; omega⟩, ⟨zK BK889⟩, ⟨zB⟩⟩
 rw [if_pos c21] at H
 have c21b0 : (((rd_T71 l0_1 x12_1).f0) == a2) = true := beq_iff_eq.mpr c21
 have c21b1 : (((rd_T71 l0_1 x12_1).f0) != a2) = false := bne_eq_false_iff_eq.mpr c21
 clear c21
 by_cases c22 : ((rd_T71 l0_1 x12_1).f1) = a1
 ·
  rw [if_pos c22] at H
  have c22b0 : (((rd_T71 l0_1 x12_1).f1) == a1) = true := beq_iff_eq.mpr c22
  have c22b1 : (((rd_T71 l0_1 x12_1).f1) != a1) = false := bne_eq_false_iff_eq.mpr c22
  clear c22
  obtain rfl := Option.some.inj H
  have hnb23 := NB891_889.out
  have hnc23 := NB889_891.out
  have hcz24_0 : wc.cell? ⟨gb891, 0, none⟩ = some (.int .i64 ((rd_T71 l0_1 x12_1).f0)) := zT BK891 0
  have hcz24_1 : wc.cell? ⟨gb891, 1, none⟩ = some (.int .i64 ((rd_T71 l0_1 x12_1).f1)) := zT BK891 1
  have hcz24_2 : wc.cell? ⟨gb891, 2, none⟩ = some (.int .i64 ((rd_T71 l0_1 x12_1).f2)) := zT BK891 2
  have hcz24_3 : wc.cell? ⟨gb891, 3, none⟩ = some (.int .i64 ((rd_T71 l0_1 x12_1).f3)) := zT BK891 3
  have hcz24_4 : wc.cell? ⟨gb891, 4, none⟩ = some (.int .i64 ((rd_T71 l0_1 x12_1).f4)) := zT BK891 4
  have hfz24_0 := blk_frozen BK891.out 0
  have hfz24_1 := blk_frozen BK891.out 1
  have hfz24_2 := blk_frozen BK891.out 2
  have hfz24_3 := blk_frozen BK891.out 3
  have hfz24_4 := blk_frozen BK891.out 4
  go_wp2
  go_ret
  exact ⟨zE, zB⟩
 rw [if_neg c22] at H
 have c22b0 : (((rd_T71 l0_1 x12_1).f1) == a1) = false := beq_eq_false_iff_ne.mpr c22
 have c22b1 : (((rd_T71 l0_1 x12_1).f1) != a1) = true := bne_iff_ne.mpr c22
 have H' := Aside0.mk H
 clear H
 have hnb25 := NB891_889.out
 have hnc25 := NB889_891.out
 have hcz26_0 : wc.cell? ⟨gb891, 0, none⟩ = some (.int .i64 ((rd_T71 l0_1 x12_1).f0)) := zT BK891 0
 have hcz26_1 : wc.cell? ⟨gb891, 1, none⟩ = some (.int .i64 ((rd_T71 l0_1 x12_1).f1)) := zT BK891 1
 have hcz26_2 : wc.cell? ⟨gb891, 2, none⟩ = some (.int .i64 ((rd_T71 l0_1 x12_1).f2)) := zT BK891 2
 have hcz26_3 : wc.cell? ⟨gb891, 3, none⟩ = some (.int .i64 ((rd_T71 l0_1 x12_1).f3)) := zT BK891 3
 have hcz26_4 : wc.cell? ⟨gb891, 4, none⟩ = some (.int .i64 ((rd_T71 l0_1 x12_1).f4)) := zT BK891 4
 have hfz26_0 := blk_frozen BK891.out 0
 have hfz26_1 := blk_frozen BK891.out 1
 have hfz26_2 := blk_frozen BK891.out 2
 have hfz26_3 := blk_frozen BK891.out 3
 have hfz26_4 := blk_frozen BK891.out 4
 go_wp2
 go_roundg kj8
 case measure => have := HK1.out; have := HJ8.out; omega
 case rel => exact ⟨(wrap64 (x12_1 + 1)), zR, H', ⟨by have := HK1.out; have := HJ8.out; omega⟩, ⟨zK BK889⟩, ⟨zB⟩⟩
end Go.Proofs.Ytplcdbhklepkgaa.BS
