-- Made by gen.py, a program of this session's, over the kit's print.
import Derived.Test.YtplcdbhklepkgaaDoorVTwoShort
import Derived.Test.YtplcdbhklepkgaaDoorVTwoBOx0
import Derived.Test.YtplcdbhklepkgaaDoorVTwoBOx10
import Derived.Test.YtplcdbhklepkgaaDoorVTwoBOx13
import Derived.Test.YtplcdbhklepkgaaDoorVTwoBOx14
namespace Go.Proofs.YtplcdbhklepkgaaDoor.BO
open Go.RowKit Go.Proofs.YtplcdbhklepkgaaDoorW.PrintWords Go.Proofs.YtplcdbhklepkgaaDoorW.PrintLast Go.Proofs.YtplcdbhklepkgaaDoorW.PrintMore Go.Proofs.YtplcdbhklepkgaaDoor.GenWords
attribute [local go_sem] max2_int min2_int max_two min_two max_three min_three max_four min_four   -- for this text's walks alone
set_option linter.unusedVariables false
set_option linter.unusedSimpArgs false

/-! ### g8_: function 4 -/
def g8_.f (k : Nat) (l0 : List (S31)) : Option (Bool) := (g15_.f k).bind fun t736 => (if t736 = true then ((g11_.f k l0 5).bind fun t737 => (if (t737.length : Int) < 2 then (some true) else ((best_Choose.f k t737).bind fun bt740 => (if 0 < (t737.length : Int) then (if 1 < (t737.length : Int) then ((best_Better.f k ((rd_T31 t737 0).f0.f0) ((rd_T31 t737 0).f0.f1) ((rd_T31 t737 0).f1) ((rd_T31 t737 0).f2) ((rd_T31 t737 0).f3) ((rd_T31 t737 0).f4) ((rd_T31 t737 1).f0.f0) ((rd_T31 t737 1).f0.f1) ((rd_T31 t737 1).f1) ((rd_T31 t737 1).f2) ((rd_T31 t737 1).f3) ((rd_T31 t737 1).f4)).bind fun bt745 => ((best_Better.f k ((rd_T31 t737 1).f0.f0) ((rd_T31 t737 1).f0.f1) ((rd_T31 t737 1).f1) ((rd_T31 t737 1).f2) ((rd_T31 t737 1).f3) ((rd_T31 t737 1).f4) ((rd_T31 t737 0).f0.f0) ((rd_T31 t737 0).f0.f1) ((rd_T31 t737 0).f1) ((rd_T31 t737 0).f2) ((rd_T31 t737 0).f3) ((rd_T31 t737 0).f4)).bind fun bt749 => (if bt740.2 = 0 then (if bt745.2 = 0 then (if bt749.2 = 0 then (if bt745.1 = (wrap64 (-bt749.1)) then (if bt740.1 < 0 then (some false) else (if bt740.1 ≥ (t737.length : Int) then (some false) else ((g6_.f k t737 t737 bt740.1).bind fun t751 => (some (!t751))))) else (some false)) else (some false)) else (some false)) else (some false)))) else (none)) else (none))))) else (some false))
theorem g8_.mono : ∀ a0 k, LeO (g8_.f k a0) (g8_.f (k + 1) a0) := by
  intro a0 k
  unfold g8_.f
  repeat' (with_reducible first | exact best_Better.mono _ _ _ _ _ _ _ _ _ _ _ _ _ | exact best_Choose.mono _ _ | exact g15_.mono _ | exact g11_.mono _ _ _ | exact g6_.mono _ _ _ _ | exact LeO.refl _ | exact LeO.none _ | refine LeO.ite ?_ ?_ | refine LeO.bind ?_ (fun _ => ?_))
def g8_.T7 : Bool × List (List Nat × List Nat) := (true, [([], []), ([0], [0]), ([1], [1]), ([], []), ([3], [3]), ([4], [4]), ([2, 5], [2, 5]), ([6], [6]), ([7], [7]), ([7], [7]), ([8, 6, 0, 1, 2, 3, 4, 5, 6, 7, 8], [8]), ([9, 10, 0, 1, 2, 3, 4, 5, 6, 7, 8, 9, 10], [9])])
def g8_.B7 : List Nat := [0, 1, 3, 0, 8, 24, 63, 127, 255, 255, 511, 2047]
theorem g8_.tab7 : rtab .any (opsOf Tryd.f4 7) = g8_.T7 := by kernel_rfl
theorem g8_.bits7 : waitsOk g8_.T7.2 g8_.B7 = true := by kernel_rfl
def g8_.T8 : Bool × List (List Nat × List Nat) := (true, [([], []), ([0], [0]), ([1], [1]), ([], []), ([3], [3]), ([4], [4]), ([2, 5], [2, 5]), ([6], [6]), ([7], [7]), ([7], [7]), ([8, 6, 0, 1, 2, 3, 4, 5, 6, 7, 8], [8]), ([9, 10, 0, 1, 2, 3, 4, 5, 6, 7, 8, 9, 10], [9])])
def g8_.B8 : List Nat := [0, 1, 3, 0, 8, 24, 63, 127, 255, 255, 511, 2047]
theorem g8_.tab8 : rtab .any (opsOf Tryd.f4 8) = g8_.T8 := by kernel_rfl
theorem g8_.bits8 : waitsOk g8_.T8.2 g8_.B8 = true := by kernel_rfl
set_option maxHeartbeats 8000000 in
set_option maxRecDepth 100000 in
theorem g8_.calls (k : Nat) (A0 : Option Addr) (c0 : Nat) (l0 : List (S31)) (r : Bool) (w : World) (hr0 : Kd.C k31 w A0 l0.length l0) (hc0 : l0.length ≤ c0) (hgl0_0 : w.cell? ⟨0, 0, none⟩ = some (.int .u32 167772160)) (hgl0_1 : w.cell? ⟨0, 1, none⟩ = some (.int .i64 8)) (h : g8_.f k l0 = some r) :
 Calls Tryd.prog 4 #[.slice A0 l0.length c0] w fun e w' => e = .returned (.bool r) ∧ Below w.heap.size w w' := by
 have hu22 := Tryd.underlying22
 have hu3 := Tryd.underlying3
 have hu31 := Tryd.underlying31
 have HR0 := Aside0.mk hr0
 have HC0 := Aside0.mk hc0
 clear hr0 hc0
 have GL0_0 := Aside0.mk hgl0_0
 clear hgl0_0
 have GL0_1 := Aside0.mk hgl0_1
 clear hgl0_1
 have HB := Aside0.mk (Below.refl w.heap.size w)
 have H : ((g15_.f k).bind fun t736 => (if t736 = true then ((g11_.f k l0 5).bind fun t737 => (if (t737.length : Int) < 2 then (some true) else ((best_Choose.f k t737).bind fun bt740 => (if 0 < (t737.length : Int) then (if 1 < (t737.length : Int) then ((best_Better.f k ((rd_T31 t737 0).f0.f0) ((rd_T31 t737 0).f0.f1) ((rd_T31 t737 0).f1) ((rd_T31 t737 0).f2) ((rd_T31 t737 0).f3) ((rd_T31 t737 0).f4) ((rd_T31 t737 1).f0.f0) ((rd_T31 t737 1).f0.f1) ((rd_T31 t737 1).f1) ((rd_T31 t737 1).f2) ((rd_T31 t737 1).f3) ((rd_T31 t737 1).f4)).bind fun bt745 => ((best_Better.f k ((rd_T31 t737 1).f0.f0) ((rd_T31 t737 1).f0.f1) ((rd_T31 t737 1).f1) ((rd_T31 t737 1).f2) ((rd_T31 t737 1).f3) ((rd_T31 t737 1).f4) ((rd_T31 t737 0).f0.f0) ((rd_T31 t737 0).f0.f1) ((rd_T31 t737 0).f1) ((rd_T31 t737 0).f2) ((rd_T31 t737 0).f3) ((rd_T31 t737 0).f4)).bind fun bt749 => (if bt740.2 = 0 then (if bt745.2 = 0 then (if bt749.2 = 0 then (if bt745.1 = (wrap64 (-bt749.1)) then (if bt740.1 < 0 then (some false) else (if bt740.1 ≥ (t737.length : Int) then (some false) else ((g6_.f k t737 t737 bt740.1).bind fun t751 => (some (!t751))))) else (some false)) else (some false)) else (some false)) else (some false)))) else (none)) else (none))))) else (some false))) = some r := h
 clear h
 replace H := Option.bind_eq_some_iff.mp H
 obtain ⟨t736, A20, H⟩ := H
 replace H : (if t736 = true then ((g11_.f k l0 5).bind fun t737 => (if (t737.length : Int) < 2 then (some true) else ((best_Choose.f k t737).bind fun bt740 => (if 0 < (t737.length : Int) then (if 1 < (t737.length : Int) then ((best_Better.f k ((rd_T31 t737 0).f0.f0) ((rd_T31 t737 0).f0.f1) ((rd_T31 t737 0).f1) ((rd_T31 t737 0).f2) ((rd_T31 t737 0).f3) ((rd_T31 t737 0).f4) ((rd_T31 t737 1).f0.f0) ((rd_T31 t737 1).f0.f1) ((rd_T31 t737 1).f1) ((rd_T31 t737 1).f2) ((rd_T31 t737 1).f3) ((rd_T31 t737 1).f4)).bind fun bt745 => ((best_Better.f k ((rd_T31 t737 1).f0.f0) ((rd_T31 t737 1).f0.f1) ((rd_T31 t737 1).f1) ((rd_T31 t737 1).f2) ((rd_T31 t737 1).f3) ((rd_T31 t737 1).f4) ((rd_T31 t737 0).f0.f0) ((rd_T31 t737 0).f0.f1) ((rd_T31 t737 0).f1) ((rd_T31 t737 0).f2) ((rd_T31 t737 0).f3) ((rd_T31 t737 0).f4)).bind fun bt749 => (if bt740.2 = 0 then (if bt745.2 = 0 then (if bt749.2 = 0 then (if bt745.1 = (wrap64 (-bt749.1)) then (if bt740.1 < 0 then (some false) else (if bt740.1 ≥ (t737.length : Int) then (some false) else ((g6_.f k t737 t737 bt740.1).bind fun t751 => (some (!t751))))) else (some false)) else (some false)) else (some false)) else (some false)))) else (none)) else (none))))) else (some false)) = some r := H
 have A2 := Aside0.mk A20
 clear A20
 by_cases c3 : t736 = true
 rotate_left
 ·
  replace c3 := Bool.eq_false_iff.mpr c3
  subst c3
  have H1 : (some false) = some r := by rw [if_neg (show ¬ (false = true) by decide)] at H; exact H
  clear H
  have H := H1
  clear H1
  obtain rfl := Option.some.inj H
  go_enter Tryd.func4, Tryd.ntmps4
  go_wp2_with (first | ((with_reducible refine gate_dst (N := 1) rfl ?_); (try (refine gate_guard (by rfl) ?_; dsimp only)); refine bx 1 (#[.slice A0 l0.length c0]) 22 ?_; intro gb735 hg w135 hbox hb; have n0_ := Aside0.mk (below_step zB hb); have n1_ := Aside0.mk (hbox); have n2_ := Aside0.mk ((zG hg : w.heap.size ≤ gb735)); have n3_ := Aside0.mk ((zG hg : w.heap.size ≤ gb735)); clear HB; have HB := n0_; have BK735 := n1_; have GW735 := n2_; have GE735 := n3_; clear n0_ n1_ n2_ n3_; clear hb hbox hg) | ((with_reducible refine gate_callee (f := 6) rfl ?_); refine goesL_ (some 9) rfl rfl Tryd.func6 (by kernel_rfl) rfl #[] rfl zM ?_; (with_reducible refine (g15_.calls k  false _ A2.out).mono ?_); rintro e w136 ⟨rfl, hb⟩; refine ⟨_, rfl, ?_⟩; have n0_ := Aside0.mk (blk_below (g := gb735) (o := .cells #[.slice A0 l0.length c0] 22 (0, 0)) (zK BK735) hb); have n1_ := Aside0.mk (below_step zB hb); clear BK735; clear HB; have BK735 := n0_; have HB := n1_; clear n0_ n1_; (try clear hb); (try clear hb2); (try clear hk); (try clear hi)))
  go_ret
  exact ⟨zE, zB⟩
 subst c3
 have H1 : ((g11_.f k l0 5).bind fun t737 => (if (t737.length : Int) < 2 then (some true) else ((best_Choose.f k t737).bind fun bt740 => (if 0 < (t737.length : Int) then (if 1 < (t737.length : Int) then ((best_Better.f k ((rd_T31 t737 0).f0.f0) ((rd_T31 t737 0).f0.f1) ((rd_T31 t737 0).f1) ((rd_T31 t737 0).f2) ((rd_T31 t737 0).f3) ((rd_T31 t737 0).f4) ((rd_T31 t737 1).f0.f0) ((rd_T31 t737 1).f0.f1) ((rd_T31 t737 1).f1) ((rd_T31 t737 1).f2) ((rd_T31 t737 1).f3) ((rd_T31 t737 1).f4)).bind fun bt745 => ((best_Better.f k ((rd_T31 t737 1).f0.f0) ((rd_T31 t737 1).f0.f1) ((rd_T31 t737 1).f1) ((rd_T31 t737 1).f2) ((rd_T31 t737 1).f3) ((rd_T31 t737 1).f4) ((rd_T31 t737 0).f0.f0) ((rd_T31 t737 0).f0.f1) ((rd_T31 t737 0).f1) ((rd_T31 t737 0).f2) ((rd_T31 t737 0).f3) ((rd_T31 t737 0).f4)).bind fun bt749 => (if bt740.2 = 0 then (if bt745.2 = 0 then (if bt749.2 = 0 then (if bt745.1 = (wrap64 (-bt749.1)) then (if bt740.1 < 0 then (some false) else (if bt740.1 ≥ (t737.length : Int) then (some false) else ((g6_.f k t737 t737 bt740.1).bind fun t751 => (some (!t751))))) else (some false)) else (some false)) else (some false)) else (some false)))) else (none)) else (none))))) = some r := by rw [if_pos rfl] at H; exact H
 clear H
 have H := H1
 clear H1
 replace H := Option.bind_eq_some_iff.mp H
 obtain ⟨t737, A40, H⟩ := H
 replace H : (if (t737.length : Int) < 2 then (some true) else ((best_Choose.f k t737).bind fun bt740 => (if 0 < (t737.length : Int) then (if 1 < (t737.length : Int) then ((best_Better.f k ((rd_T31 t737 0).f0.f0) ((rd_T31 t737 0).f0.f1) ((rd_T31 t737 0).f1) ((rd_T31 t737 0).f2) ((rd_T31 t737 0).f3) ((rd_T31 t737 0).f4) ((rd_T31 t737 1).f0.f0) ((rd_T31 t737 1).f0.f1) ((rd_T31 t737 1).f1) ((rd_T31 t737 1).f2) ((rd_T31 t737 1).f3) ((rd_T31 t737 1).f4)).bind fun bt745 => ((best_Better.f k ((rd_T31 t737 1).f0.f0) ((rd_T31 t737 1).f0.f1) ((rd_T31 t737 1).f1) ((rd_T31 t737 1).f2) ((rd_T31 t737 1).f3) ((rd_T31 t737 1).f4) ((rd_T31 t737 0).f0.f0) ((rd_T31 t737 0).f0.f1) ((rd_T31 t737 0).f1) ((rd_T31 t737 0).f2) ((rd_T31 t737 0).f3) ((rd_T31 t737 0).f4)).bind fun bt749 => (if bt740.2 = 0 then (if bt745.2 = 0 then (if bt749.2 = 0 then (if bt745.1 = (wrap64 (-bt749.1)) then (if bt740.1 < 0 then (some false) else (if bt740.1 ≥ (t737.length : Int) then (some false) else ((g6_.f k t737 t737 bt740.1).bind fun t751 => (some (!t751))))) else (some false)) else (some false)) else (some false)) else (some false)))) else (none)) else (none)))) = some r := H
 have A4 := Aside0.mk A40
 clear A40
 by_cases c5 : (t737.length : Int) < 2
 ·
  rw [if_pos c5] at H
  have c5b0 : decide ((t737.length : Int) < 2) = true := decide_eq_true c5
  have c5b1 : decide (t737.length < 2) = true := decide_eq_true (by omega)
  clear c5
  obtain rfl := Option.some.inj H
  go_enter Tryd.func4, Tryd.ntmps4
  go_wp2_with (first | ((with_reducible refine gate_dst (N := 1) rfl ?_); (try (refine gate_guard (by rfl) ?_; dsimp only)); refine bx 1 (#[.slice A0 l0.length c0]) 22 ?_; intro gb735 hg w6 hbox hb; have n0_ := Aside0.mk (below_step zB hb); have n1_ := Aside0.mk (hbox); have n2_ := Aside0.mk ((zG hg : w.heap.size ≤ gb735)); have n3_ := Aside0.mk ((zG hg : w.heap.size ≤ gb735)); clear HB; have HB := n0_; have BK735 := n1_; have GW735 := n2_; have GE735 := n3_; clear n0_ n1_ n2_ n3_; clear hb hbox hg) | ((with_reducible refine gate_callee (f := 6) rfl ?_); refine goesL_ (some 9) rfl rfl Tryd.func6 (by kernel_rfl) rfl #[] rfl zM ?_; (with_reducible refine (g15_.calls k  true _ A2.out).mono ?_); rintro e w7 ⟨rfl, hb⟩; refine ⟨_, rfl, ?_⟩; have n0_ := Aside0.mk (blk_below (g := gb735) (o := .cells #[.slice A0 l0.length c0] 22 (0, 0)) (zK BK735) hb); have n1_ := Aside0.mk (below_step zB hb); clear BK735; clear HB; have BK735 := n0_; have HB := n1_; clear n0_ n1_; (try clear hb); (try clear hb2); (try clear hk); (try clear hi); have hcz8_0 : w7.cell? ⟨gb735, 0, none⟩ = some (.slice A0 l0.length c0) := zT BK735 0; have hfz8_0 := blk_frozen BK735.out 0) | ((with_reducible refine gate_callee (f := 7) rfl ?_); refine goesL_ (some 12) rfl rfl Tryd.func7 (by kernel_rfl) rfl #[.slice A0 l0.length c0, .int .i64 5] rfl zM ?_; (with_reducible refine (g11_.calls k _ _ l0 5 t737 _ ?side1 ?side2 ?side3 ?side4 A4.out).mono ?_); (case side1 => exact zC HR0 HB); (case side2 => exact HC0.out); (case side3 => exact (Below.cell zB (World.block_lt_of_cell? w _ GL0_0.out)).trans GL0_0.out); (case side4 => exact (Below.cell zB (World.block_lt_of_cell? w _ GL0_1.out)).trans GL0_1.out); rintro e w9 ⟨v738, rfl, ho0, hb⟩; refine ⟨_, rfl, ?_⟩; have n0_ := Aside0.mk (Kd.S_lower ho0 (below_size zB)); have n1_ := Aside0.mk (blk_below (g := gb735) (o := .cells #[.slice A0 l0.length c0] 22 (0, 0)) (zK BK735) hb); have n2_ := Aside0.mk (below_step zB hb); clear BK735; clear HB; have HO739 := n0_; have BK735 := n1_; have HB := n2_; clear n0_ n1_ n2_; (try clear hb); (try clear hb2); (try clear hk); (try clear hi); (try clear ho0); obtain ⟨Ao10, co10, eo10⟩ := Kd.S_slice HO739.out; subst eo10; have hcz11_0 : w9.cell? ⟨gb735, 0, none⟩ = some (.slice A0 l0.length c0) := zT BK735 0; have hfz11_0 := blk_frozen BK735.out 0))
  go_ret
  exact ⟨zE, zB⟩
 rw [if_neg c5] at H
 have c5b0 : decide ((t737.length : Int) < 2) = false := decide_eq_false c5
 have c5b1 : decide (t737.length < 2) = false := decide_eq_false (by omega)
 clear c5
 replace H := Option.bind_eq_some_iff.mp H
 obtain ⟨⟨t740, t741⟩, A120, H⟩ := H
 replace H : (if 0 < (t737.length : Int) then (if 1 < (t737.length : Int) then ((best_Better.f k ((rd_T31 t737 0).f0.f0) ((rd_T31 t737 0).f0.f1) ((rd_T31 t737 0).f1) ((rd_T31 t737 0).f2) ((rd_T31 t737 0).f3) ((rd_T31 t737 0).f4) ((rd_T31 t737 1).f0.f0) ((rd_T31 t737 1).f0.f1) ((rd_T31 t737 1).f1) ((rd_T31 t737 1).f2) ((rd_T31 t737 1).f3) ((rd_T31 t737 1).f4)).bind fun bt745 => ((best_Better.f k ((rd_T31 t737 1).f0.f0) ((rd_T31 t737 1).f0.f1) ((rd_T31 t737 1).f1) ((rd_T31 t737 1).f2) ((rd_T31 t737 1).f3) ((rd_T31 t737 1).f4) ((rd_T31 t737 0).f0.f0) ((rd_T31 t737 0).f0.f1) ((rd_T31 t737 0).f1) ((rd_T31 t737 0).f2) ((rd_T31 t737 0).f3) ((rd_T31 t737 0).f4)).bind fun bt749 => (if t741 = 0 then (if bt745.2 = 0 then (if bt749.2 = 0 then (if bt745.1 = (wrap64 (-bt749.1)) then (if t740 < 0 then (some false) else (if t740 ≥ (t737.length : Int) then (some false) else ((g6_.f k t737 t737 t740).bind fun t751 => (some (!t751))))) else (some false)) else (some false)) else (some false)) else (some false)))) else (none)) else (none)) = some r := H
 have A12 := Aside0.mk A120
 clear A120
 by_cases c13 : 0 < (t737.length : Int)
 rotate_left
 · rw [if_neg c13] at H; exact absurd H (by simp)
 rw [if_pos c13] at H
 have c13b0 : decide (0 < (t737.length : Int)) = true := decide_eq_true c13
 have c13b1 : decide (0 < t737.length) = true := decide_eq_true (by omega)
 clear c13
 by_cases c14 : 1 < (t737.length : Int)
 rotate_left
 · rw [if_neg c14] at H; exact absurd H (by simp)
 rw [if_pos c14] at H
 have c14b0 : decide (1 < (t737.length : Int)) = true := decide_eq_true c14
 have c14b1 : decide (1 < t737.length) = true := decide_eq_true (by omega)
 clear c14
 replace H := Option.bind_eq_some_iff.mp H
 obtain ⟨⟨t745, t746⟩, A150, H⟩ := H
 replace H : ((best_Better.f k ((rd_T31 t737 1).f0.f0) ((rd_T31 t737 1).f0.f1) ((rd_T31 t737 1).f1) ((rd_T31 t737 1).f2) ((rd_T31 t737 1).f3) ((rd_T31 t737 1).f4) ((rd_T31 t737 0).f0.f0) ((rd_T31 t737 0).f0.f1) ((rd_T31 t737 0).f1) ((rd_T31 t737 0).f2) ((rd_T31 t737 0).f3) ((rd_T31 t737 0).f4)).bind fun bt749 => (if t741 = 0 then (if t746 = 0 then (if bt749.2 = 0 then (if t745 = (wrap64 (-bt749.1)) then (if t740 < 0 then (some false) else (if t740 ≥ (t737.length : Int) then (some false) else ((g6_.f k t737 t737 t740).bind fun t751 => (some (!t751))))) else (some false)) else (some false)) else (some false)) else (some false))) = some r := H
 have A15 := Aside0.mk A150
 clear A150
 replace H := Option.bind_eq_some_iff.mp H
 obtain ⟨⟨t749, t750⟩, A160, H⟩ := H
 replace H : (if t741 = 0 then (if t746 = 0 then (if t750 = 0 then (if t745 = (wrap64 (-t749)) then (if t740 < 0 then (some false) else (if t740 ≥ (t737.length : Int) then (some false) else ((g6_.f k t737 t737 t740).bind fun t751 => (some (!t751))))) else (some false)) else (some false)) else (some false)) else (some false)) = some r := H
 have A16 := Aside0.mk A160
 clear A160
 by_cases c17 : t741 = 0
 rotate_left
 ·
  rw [if_neg c17] at H
  have c17b0 : (t741 == 0) = false := beq_eq_false_iff_ne.mpr c17
  have c17b1 : (t741 != 0) = true := bne_iff_ne.mpr c17
  obtain rfl := Option.some.inj H
  go_enter Tryd.func4, Tryd.ntmps4
  try go_wp2_with (first | ((with_reducible refine gate_dst (N := 1) rfl ?_); (try (refine gate_guard (by rfl) ?_; dsimp only)); refine bx 1 (#[.slice A0 l0.length c0]) 22 ?_; intro gb735 hg w120 hbox hb; have n0_ := Aside0.mk (below_step zB hb); have n1_ := Aside0.mk (hbox); have n2_ := Aside0.mk ((zG hg : w.heap.size ≤ gb735)); have n3_ := Aside0.mk ((zG hg : w.heap.size ≤ gb735)); clear HB; have HB := n0_; have BK735 := n1_; have GW735 := n2_; have GE735 := n3_; clear n0_ n1_ n2_ n3_; clear hb hbox hg) | ((with_reducible refine gate_callee (f := 6) rfl ?_); refine goesL_ (some 9) rfl rfl Tryd.func6 (by kernel_rfl) rfl #[] rfl zM ?_; (with_reducible refine (g15_.calls k  true _ A2.out).mono ?_); rintro e w121 ⟨rfl, hb⟩; refine ⟨_, rfl, ?_⟩; have n0_ := Aside0.mk (blk_below (g := gb735) (o := .cells #[.slice A0 l0.length c0] 22 (0, 0)) (zK BK735) hb); have n1_ := Aside0.mk (below_step zB hb); clear BK735; clear HB; have BK735 := n0_; have HB := n1_; clear n0_ n1_; (try clear hb); (try clear hb2); (try clear hk); (try clear hi); have hcz122_0 : w121.cell? ⟨gb735, 0, none⟩ = some (.slice A0 l0.length c0) := zT BK735 0; have hfz122_0 := blk_frozen BK735.out 0) | ((with_reducible refine gate_callee (f := 7) rfl ?_); refine goesL_ (some 12) rfl rfl Tryd.func7 (by kernel_rfl) rfl #[.slice A0 l0.length c0, .int .i64 5] rfl zM ?_; (with_reducible refine (g11_.calls k _ _ l0 5 t737 _ ?side1 ?side2 ?side3 ?side4 A4.out).mono ?_); (case side1 => exact zC HR0 HB); (case side2 => exact HC0.out); (case side3 => exact (Below.cell zB (World.block_lt_of_cell? w _ GL0_0.out)).trans GL0_0.out); (case side4 => exact (Below.cell zB (World.block_lt_of_cell? w _ GL0_1.out)).trans GL0_1.out); rintro e w123 ⟨v738, rfl, ho0, hb⟩; refine ⟨_, rfl, ?_⟩; have n0_ := Aside0.mk (Kd.S_lower ho0 (below_size zB)); have n1_ := Aside0.mk (blk_below (g := gb735) (o := .cells #[.slice A0 l0.length c0] 22 (0, 0)) (zK BK735) hb); have n2_ := Aside0.mk (below_step zB hb); clear BK735; clear HB; have HO739 := n0_; have BK735 := n1_; have HB := n2_; clear n0_ n1_ n2_; (try clear hb); (try clear hb2); (try clear hk); (try clear hi); (try clear ho0); obtain ⟨Ao124, co124, eo124⟩ := Kd.S_slice HO739.out; subst eo124; have hcz125_0 : w123.cell? ⟨gb735, 0, none⟩ = some (.slice A0 l0.length c0) := zT BK735 0; have hfz125_0 := blk_frozen BK735.out 0) | ((with_reducible refine gate_callee (f := 9) rfl ?_); refine goesL_ (some 18) rfl rfl Tryd.func9 (by kernel_rfl) rfl #[.slice Ao124 t737.length co124] rfl zM ?_; (with_reducible refine (best_Choose.calls k _ _ t737 t740 t741 _ ?side1 ?side2 A12.out).mono ?_); (case side1 => refine (Kd.S_reads' (e := 31) (base := w.heap.size) (ok := fun k_ => True) (n := t737.length) (c := co124) ?_).2.2; exact (by (with_reducible repeat (first | apply Kd.S_alloc | apply Kd.S_drewN | apply Kd.S_drew)); exact (Kd.S_mono (Kd.S_far (p := ⟨gb735, 0, none⟩) (Kd.S_types HO739.out BK735.out (by decide)) (fun _ hk => hk.2) (.slice Ao124 t737.length co124)) (fun _ h_ => h_.1)))); (case side2 => exact (Kd.S_reads' HO739.out).2.1); rintro e w126 ⟨rfl, hb⟩; refine ⟨_, rfl, ?_⟩; have n0_ := Aside0.mk (Kd.S_below (by (with_reducible repeat (first | apply Kd.S_alloc | apply Kd.S_drewN | apply Kd.S_drew)); exact (Kd.S_mono (Kd.S_far (p := ⟨gb735, 0, none⟩) (Kd.S_types HO739.out BK735.out (by decide)) (fun _ hk => hk.2) (.slice Ao124 t737.length co124)) (fun _ h_ => h_.1))) hb); have n1_ := Aside0.mk (blk_below (g := gb735) (o := .cells #[.slice Ao124 t737.length co124] 22 (0, 0)) (by (with_reducible repeat (first | refine blk_drewN ?_ _ | refine blk_drew ?_ | refine blk_alloc ?_ _)); refine blk_put (cs := #[.slice A0 l0.length c0]) ?_ 0 _ rfl; (with_reducible repeat (first | refine blk_drewN ?_ _ | refine blk_drew ?_ | refine blk_alloc ?_ _)); exact BK735.out) hb); have n2_ := Aside0.mk (below_step zB hb); clear HO739; clear BK735; clear HB; have HO739 := n0_; have BK735 := n1_; have HB := n2_; clear n0_ n1_ n2_; (try clear hb); (try clear hb2); (try clear hk); (try clear hi)) | ((with_reducible refine gate_dst (N := 3) rfl ?_); (try (refine gate_guard (by rfl) ?_; dsimp only)); refine bx 3 (#[.int .i64 0]) 3 ?_; intro gb742 hg w127 hbox hb; have n0_ := Aside0.mk (Kd.S_below (Kd.S_elderB (zS HO739) gb742 (Nat.le_of_eq hg.symm)) hb); have n1_ := Aside0.mk (blk_below (g := gb735) (o := .cells #[.slice Ao124 t737.length co124] 22 (0, 0)) (zK BK735) hb); have n2_ := Aside0.mk (below_step zB hb); have n3_ := Aside0.mk (hbox); have n4_ := Aside0.mk ((zG hg : w.heap.size ≤ gb742)); have n5_ := Aside0.mk ((zG hg : w.heap.size ≤ gb742)); have n6_ := Aside0.mk ((by rw [hg]; exact Nat.ne_of_lt (blk_lt (g := gb735) (o := .cells #[.slice Ao124 t737.length co124] 22 (0, 0)) (zK BK735)) : gb735 ≠ gb742)); have n7_ := Aside0.mk ((by rw [hg]; exact Nat.ne_of_gt (blk_lt (g := gb735) (o := .cells #[.slice Ao124 t737.length co124] 22 (0, 0)) (zK BK735)) : gb742 ≠ gb735)); clear HO739; clear BK735; clear HB; have HO739 := n0_; have BK735 := n1_; have HB := n2_; have BK742 := n3_; have GW742 := n4_; have GE742 := n5_; have NB735_742 := n6_; have NB742_735 := n7_; clear n0_ n1_ n2_ n3_ n4_ n5_ n6_ n7_; clear hb hbox hg; have hnb128 := NB742_735.out; have hnc128 := NB735_742.out; have hcz129_0 : w127.cell? ⟨gb742, 0, none⟩ = some (.int .i64 0) := zT BK742 0; have hfz129_0 := blk_frozen BK742.out 0))
  have n0_ : Aside0 (Kd.S k31 31 (w127.setCell ⟨gb742, 0, none⟩ (.int .i64 t740)) w.heap.size (fun k_ => k_ ≠ gb742) (.slice Ao124 t737.length co124) t737) := ⟨by (with_reducible repeat (first | apply Kd.S_alloc | apply Kd.S_drewN | apply Kd.S_drew)); exact Kd.S_mono (Kd.S_far (p := ⟨gb742, 0, none⟩) (Kd.S_mono HO739.out (fun k_ hk => (⟨hk, hk.2⟩ : _ ∧ k_ ≠ gb742))) (fun _ hk => hk.2) (.int .i64 t740)) (fun _ hk => hk.1.2)⟩
  have n1_ : Aside0 ((w127.setCell ⟨gb742, 0, none⟩ (.int .i64 t740)).heap[gb735]? = some (.cells #[.slice Ao124 t737.length co124] 22 (0, 0))) := ⟨by (with_reducible repeat (first | refine blk_drewN ?_ _ | refine blk_drew ?_ | refine blk_alloc ?_ _)); refine blk_far ?_ NB735_742.out _; (with_reducible repeat (first | refine blk_drewN ?_ _ | refine blk_drew ?_ | refine blk_alloc ?_ _)); exact BK735.out⟩
  have n2_ : Aside0 ((w127.setCell ⟨gb742, 0, none⟩ (.int .i64 t740)).heap[gb742]? = some (.cells #[.int .i64 t740] 3 (0, 0))) := ⟨by (with_reducible repeat (first | refine blk_drewN ?_ _ | refine blk_drew ?_ | refine blk_alloc ?_ _)); refine blk_put (cs := #[.int .i64 0]) ?_ 0 _ rfl; (with_reducible repeat (first | refine blk_drewN ?_ _ | refine blk_drew ?_ | refine blk_alloc ?_ _)); exact BK742.out⟩
  have n3_ : Aside0 (Below w.heap.size w (w127.setCell ⟨gb742, 0, none⟩ (.int .i64 t740))) := ⟨zB⟩
  (try clear HO739)
  (try clear BK735)
  (try clear BK742)
  (try clear HB)
  generalize (w127.setCell ⟨gb742, 0, none⟩ (.int .i64 t740)) = w130 at n0_ n1_ n2_ n3_ ⊢
  have HO739 := n0_
  have BK735 := n1_
  have BK742 := n2_
  have HB := n3_
  clear n0_ n1_ n2_ n3_
  have n0_ := Aside0.mk (Kd.S_drew HO739.out)
  have n1_ := Aside0.mk (blk_drew BK735.out)
  have n2_ := Aside0.mk (blk_drew BK742.out)
  have n3_ := Aside0.mk (below_drew1 HB.out)
  clear HO739
  clear BK735
  clear BK742
  clear HB
  have HO739 := n0_
  have BK735 := n1_
  have BK742 := n2_
  have HB := n3_
  clear n0_ n1_ n2_ n3_
  have p743 : 0 ≤ (0 : Int) := (by omega)
  have q743 : 0 < (t737.length : Int) := od
  obtain ⟨ad743, A743_2, c743_2, A743_5, c743_5, e743, hx743_0, hx743_1, hx743_2, hx743_3, hx743_4, hx743_5, hl743_2, hi743_2, hl743_5, hi743_5⟩ := at_T31 (Kd.S_reads' HO739.out).2.2 0 p743 q743
  cases e743
  obtain ⟨ce743, hce743, hMe743, hcc743⟩ := Kd.S_get HO739.out z31 0 p743 (by first | exact q743 | exact od | (have e_ := (Kd.S_reads' HO739.out).1; omega))
  obtain ⟨ve743_2, ve743_5, rfl, ge743_2, ge743_5⟩ := k31_openM hMe743
  have hv743_2 := hcc743 2 _ rfl
  rw [add_field _ _ 2 (by omega)] at hv743_2
  replace hv743_2 := Option.some.inj (hv743_2.symm.trans hx743_2)
  rw [hv743_2] at ge743_2
  have HL743_2 := Aside0.mk (show Kd.R (Kd.int .i64) 3 _ _ _ _ ((rd_T31 t737 0).f1) from ge743_2)
  clear hv743_2 ge743_2
  have hv743_5 := hcc743 5 _ rfl
  rw [add_field _ _ 5 (by omega)] at hv743_5
  replace hv743_5 := Option.some.inj (hv743_5.symm.trans hx743_5)
  rw [hv743_5] at ge743_5
  have HL743_5 := Aside0.mk (show Kd.R (Kd.int .i64) 3 _ _ _ _ ((rd_T31 t737 0).f4) from ge743_5)
  clear hv743_5 ge743_5
  clear hcc743 hce743
  have qi743 : (0 < t737.length) = True := eq_true (by omega)
  (try rw [show ((0 : Int)).toNat = 0 from rfl] at hx743_0)
  (try rw [show 0 * 6 = 0 from rfl] at hx743_0)
  (try rw [Addr.add_zero'] at hx743_0)
  (try rw [show ((0 : Int)).toNat = 0 from rfl] at hx743_1)
  (try rw [show 0 * 6 = 0 from rfl] at hx743_1)
  (try rw [Addr.add_zero'] at hx743_1)
  (try rw [show ((0 : Int)).toNat = 0 from rfl] at hx743_2)
  (try rw [show 0 * 6 = 0 from rfl] at hx743_2)
  (try rw [Addr.add_zero'] at hx743_2)
  (try rw [show ((0 : Int)).toNat = 0 from rfl] at hx743_3)
  (try rw [show 0 * 6 = 0 from rfl] at hx743_3)
  (try rw [Addr.add_zero'] at hx743_3)
  (try rw [show ((0 : Int)).toNat = 0 from rfl] at hx743_4)
  (try rw [show 0 * 6 = 0 from rfl] at hx743_4)
  (try rw [Addr.add_zero'] at hx743_4)
  (try rw [show ((0 : Int)).toNat = 0 from rfl] at hx743_5)
  (try rw [show 0 * 6 = 0 from rfl] at hx743_5)
  (try rw [Addr.add_zero'] at hx743_5)
  have HR743_2 := Aside0.mk hi743_2
  have HC743_2 := Aside0.mk hl743_2
  clear hi743_2 hl743_2
  have HR743_5 := Aside0.mk hi743_5
  have HC743_5 := Aside0.mk hl743_5
  clear hi743_5 hl743_5
  replace p743 := eq_true p743
  replace q743 := eq_true q743
  have p744 : 0 ≤ (1 : Int) := (by omega)
  have q744 : 1 < (t737.length : Int) := od
  obtain ⟨ad744, A744_2, c744_2, A744_5, c744_5, e744, hx744_0, hx744_1, hx744_2, hx744_3, hx744_4, hx744_5, hl744_2, hi744_2, hl744_5, hi744_5⟩ := at_T31 (Kd.S_reads' HO739.out).2.2 1 p744 q744
  obtain rfl : ad743 = ad744 := (by injection e744)
  obtain ⟨ce744, hce744, hMe744, hcc744⟩ := Kd.S_get HO739.out z31 1 p744 (by first | exact q744 | exact od | (have e_ := (Kd.S_reads' HO739.out).1; omega))
  obtain ⟨ve744_2, ve744_5, rfl, ge744_2, ge744_5⟩ := k31_openM hMe744
  have hv744_2 := hcc744 2 _ rfl
  rw [add_field _ _ 2 (by omega)] at hv744_2
  replace hv744_2 := Option.some.inj (hv744_2.symm.trans hx744_2)
  rw [hv744_2] at ge744_2
  have HL744_2 := Aside0.mk (show Kd.R (Kd.int .i64) 3 _ _ _ _ ((rd_T31 t737 1).f1) from ge744_2)
  clear hv744_2 ge744_2
  have hv744_5 := hcc744 5 _ rfl
  rw [add_field _ _ 5 (by omega)] at hv744_5
  replace hv744_5 := Option.some.inj (hv744_5.symm.trans hx744_5)
  rw [hv744_5] at ge744_5
  have HL744_5 := Aside0.mk (show Kd.R (Kd.int .i64) 3 _ _ _ _ ((rd_T31 t737 1).f4) from ge744_5)
  clear hv744_5 ge744_5
  clear hcc744 hce744
  (try simp only [show (1 : Int).toNat = 1 from rfl, Nat.reduceMul, Nat.reduceEqDiff, Go.Addr.add, ↓reduceIte] at hx744_0)
  (try simp only [show (1 : Int).toNat = 1 from rfl, Nat.reduceMul, Nat.reduceEqDiff, Go.Addr.add, ↓reduceIte] at hx744_1)
  (try simp only [show (1 : Int).toNat = 1 from rfl, Nat.reduceMul, Nat.reduceEqDiff, Go.Addr.add, ↓reduceIte] at hx744_2)
  (try simp only [show (1 : Int).toNat = 1 from rfl, Nat.reduceMul, Nat.reduceEqDiff, Go.Addr.add, ↓reduceIte] at hx744_3)
  (try simp only [show (1 : Int).toNat = 1 from rfl, Nat.reduceMul, Nat.reduceEqDiff, Go.Addr.add, ↓reduceIte] at hx744_4)
  (try simp only [show (1 : Int).toNat = 1 from rfl, Nat.reduceMul, Nat.reduceEqDiff, Go.Addr.add, ↓reduceIte] at hx744_5)
  have qi744 : (1 < t737.length) = True := eq_true (by omega)
  (try rw [show ((1 : Int)).toNat = 1 from rfl] at hx744_0)
  (try rw [show 1 * 6 = 6 from rfl] at hx744_0)
  (try rw [show ((1 : Int)).toNat = 1 from rfl] at hx744_1)
  (try rw [show 1 * 6 = 6 from rfl] at hx744_1)
  (try rw [show ((1 : Int)).toNat = 1 from rfl] at hx744_2)
  (try rw [show 1 * 6 = 6 from rfl] at hx744_2)
  (try rw [show ((1 : Int)).toNat = 1 from rfl] at hx744_3)
  (try rw [show 1 * 6 = 6 from rfl] at hx744_3)
  (try rw [show ((1 : Int)).toNat = 1 from rfl] at hx744_4)
  (try rw [show 1 * 6 = 6 from rfl] at hx744_4)
  (try rw [show ((1 : Int)).toNat = 1 from rfl] at hx744_5)
  (try rw [show 1 * 6 = 6 from rfl] at hx744_5)
  have HR744_2 := Aside0.mk hi744_2
  have HC744_2 := Aside0.mk hl744_2
  clear hi744_2 hl744_2
  have HR744_5 := Aside0.mk hi744_5
  have HC744_5 := Aside0.mk hl744_5
  clear hi744_5 hl744_5
  replace p744 := eq_true p744
  replace q744 := eq_true q744
  refine start_ (n := 12) (S := fun w' => w'.cell? ⟨gb735, 0, none⟩ = some (.slice (some ad743) t737.length co124) ∧ w'.cell? ad743 = some (.int .u32 ((rd_T31 t737 0).f0.f0)) ∧ w'.cell? ⟨ad743.block, ad743.off + 1, none⟩ = some (.int .i64 ((rd_T31 t737 0).f0.f1)) ∧ w'.cell? ⟨ad743.block, ad743.off + 2, none⟩ = some (.slice A743_2 ((rd_T31 t737 0).f1).length c743_2) ∧ w'.cell? ⟨ad743.block, ad743.off + 3, none⟩ = some (.int .i64 ((rd_T31 t737 0).f2)) ∧ w'.cell? ⟨ad743.block, ad743.off + 4, none⟩ = some (.int .i64 ((rd_T31 t737 0).f3)) ∧ w'.cell? ⟨ad743.block, ad743.off + 5, none⟩ = some (.slice A743_5 ((rd_T31 t737 0).f4).length c743_5) ∧ w'.cell? ⟨ad743.block, ad743.off + 6, none⟩ = some (.int .u32 ((rd_T31 t737 1).f0.f0)) ∧ w'.cell? ⟨ad743.block, ad743.off + 6 + 1, none⟩ = some (.int .i64 ((rd_T31 t737 1).f0.f1)) ∧ w'.cell? ⟨ad743.block, ad743.off + 6 + 2, none⟩ = some (.slice A744_2 ((rd_T31 t737 1).f1).length c744_2) ∧ w'.cell? ⟨ad743.block, ad743.off + 6 + 3, none⟩ = some (.int .i64 ((rd_T31 t737 1).f2)) ∧ w'.cell? ⟨ad743.block, ad743.off + 6 + 4, none⟩ = some (.int .i64 ((rd_T31 t737 1).f3)) ∧ w'.cell? ⟨ad743.block, ad743.off + 6 + 5, none⟩ = some (.slice A744_5 ((rd_T31 t737 1).f4).length c744_5)) (ds := []) (bm 12 0) (by kernel_rfl) rfl rfl ⟨zT BK735 0, hx743_0, hx743_1, hx743_2, hx743_3, hx743_4, hx743_5, hx744_0, hx744_1, hx744_2, hx744_3, hx744_4, hx744_5⟩ (fun hHeld => ?_); refine with_tabW g8_.tab7 g8_.bits7 (fun HT_ HW_ => ?_)
  generalize w130.drew = w131 at HO739 BK735 BK742 HB HL743_2 HL743_5 HL744_2 HL744_5 HR743_2 HR743_5 HR744_2 HR744_5 hx743_0 hx743_1 hx743_2 hx743_3 hx743_4 hx743_5 hx744_0 hx744_1 hx744_2 hx744_3 hx744_4 hx744_5 hHeld ⊢
  refine tk 0 (some 22) (bm 12 1) HT_ HW_ hHeld ?_
  refine pu 1 (some 23) (bm 12 3) HT_ ?_
  refine tk 2 (some 24) (bm 12 7) HT_ HW_ hHeld ?_
  refine tk 3 (some 25) (bm 12 15) HT_ HW_ hHeld ?_
  refine pu 4 (some 26) (bm 12 31) HT_ ?_
  refine tk 5 (some 27) (bm 12 63) HT_ HW_ hHeld ?_
  refine one_ (i := 6) (N := some 28) (bm 12 127) rfl rfl (one_of HT_.out (by kernel_rfl)) (by decide) (fun K hK => ?_)
  refine goes_ Tryd.func11 (by kernel_rfl) rfl #[.agg #[.int .u32 ((rd_T31 t737 0).f0.f0), .int .i64 ((rd_T31 t737 0).f0.f1), .slice A743_2 ((rd_T31 t737 0).f1).length c743_2, .int .i64 ((rd_T31 t737 0).f2), .int .i64 ((rd_T31 t737 0).f3), .slice A743_5 ((rd_T31 t737 0).f4).length c743_5], .agg #[.int .u32 ((rd_T31 t737 1).f0.f0), .int .i64 ((rd_T31 t737 1).f0.f1), .slice A744_2 ((rd_T31 t737 1).f1).length c744_2, .int .i64 ((rd_T31 t737 1).f2), .int .i64 ((rd_T31 t737 1).f3), .slice A744_5 ((rd_T31 t737 1).f4).length c744_5]] (by rfl) rfl rfl zM ?_
  with_reducible refine (best_Better.calls k ((rd_T31 t737 0).f0.f0) ((rd_T31 t737 0).f0.f1) _ _ ((rd_T31 t737 0).f1) ((rd_T31 t737 0).f2) ((rd_T31 t737 0).f3) _ _ ((rd_T31 t737 0).f4) ((rd_T31 t737 1).f0.f0) ((rd_T31 t737 1).f0.f1) _ _ ((rd_T31 t737 1).f1) ((rd_T31 t737 1).f2) ((rd_T31 t737 1).f3) _ _ ((rd_T31 t737 1).f4) t745 t746 _ ?side1 ?side2 ?side3 ?side4 ?side5 ?side6 ?side7 ?side8 A15.out).mono ?_
  (case side1 => repeat (first | exact (by repeat (first | (with_reducible exact HR743_2.out) | (with_reducible refine Kd.C_alloc ?_ _) | (with_reducible refine Kd.C_drewN ?_ _) | (with_reducible refine Kd.C_drew ?_) | exact HR743_2.out)) | (with_reducible refine Kd.C_alloc ?_ _) | (with_reducible refine Kd.C_drewN ?_ _) | (with_reducible refine Kd.C_drew ?_)))
  (case side2 => exact HC743_2.out)
  (case side3 => repeat (first | exact (by repeat (first | (with_reducible exact HR743_5.out) | (with_reducible refine Kd.C_alloc ?_ _) | (with_reducible refine Kd.C_drewN ?_ _) | (with_reducible refine Kd.C_drew ?_) | exact HR743_5.out)) | (with_reducible refine Kd.C_alloc ?_ _) | (with_reducible refine Kd.C_drewN ?_ _) | (with_reducible refine Kd.C_drew ?_)))
  (case side4 => exact HC743_5.out)
  (case side5 => repeat (first | exact (by repeat (first | (with_reducible exact HR744_2.out) | (with_reducible refine Kd.C_alloc ?_ _) | (with_reducible refine Kd.C_drewN ?_ _) | (with_reducible refine Kd.C_drew ?_) | exact HR744_2.out)) | (with_reducible refine Kd.C_alloc ?_ _) | (with_reducible refine Kd.C_drewN ?_ _) | (with_reducible refine Kd.C_drew ?_)))
  (case side6 => exact HC744_2.out)
  (case side7 => repeat (first | exact (by repeat (first | (with_reducible exact HR744_5.out) | (with_reducible refine Kd.C_alloc ?_ _) | (with_reducible refine Kd.C_drewN ?_ _) | (with_reducible refine Kd.C_drew ?_) | exact HR744_5.out)) | (with_reducible refine Kd.C_alloc ?_ _) | (with_reducible refine Kd.C_drewN ?_ _) | (with_reducible refine Kd.C_drew ?_)))
  (case side8 => exact HC744_5.out)
  rintro e w132 ⟨rfl, hb⟩
  have HS1_ := (hb.cell (World.block_lt_of_cell? _ _ (hHeld.2.1))).trans (hHeld.2.1)
  have HS2_ := (hb.cell (World.block_lt_of_cell? _ _ (hHeld.2.2.1))).trans (hHeld.2.2.1)
  have HS3_ := (hb.cell (World.block_lt_of_cell? _ _ (hHeld.2.2.2.1))).trans (hHeld.2.2.2.1)
  have HS4_ := (hb.cell (World.block_lt_of_cell? _ _ (hHeld.2.2.2.2.1))).trans (hHeld.2.2.2.2.1)
  have HS5_ := (hb.cell (World.block_lt_of_cell? _ _ (hHeld.2.2.2.2.2.1))).trans (hHeld.2.2.2.2.2.1)
  have HS6_ := (hb.cell (World.block_lt_of_cell? _ _ (hHeld.2.2.2.2.2.2.1))).trans (hHeld.2.2.2.2.2.2.1)
  have HS7_ := (hb.cell (World.block_lt_of_cell? _ _ (hHeld.2.2.2.2.2.2.2.1))).trans (hHeld.2.2.2.2.2.2.2.1)
  have HS8_ := (hb.cell (World.block_lt_of_cell? _ _ (hHeld.2.2.2.2.2.2.2.2.1))).trans (hHeld.2.2.2.2.2.2.2.2.1)
  have HS9_ := (hb.cell (World.block_lt_of_cell? _ _ (hHeld.2.2.2.2.2.2.2.2.2.1))).trans (hHeld.2.2.2.2.2.2.2.2.2.1)
  have HS10_ := (hb.cell (World.block_lt_of_cell? _ _ (hHeld.2.2.2.2.2.2.2.2.2.2.1))).trans (hHeld.2.2.2.2.2.2.2.2.2.2.1)
  have HS11_ := (hb.cell (World.block_lt_of_cell? _ _ (hHeld.2.2.2.2.2.2.2.2.2.2.2.1))).trans (hHeld.2.2.2.2.2.2.2.2.2.2.2.1)
  have HS12_ := (hb.cell (World.block_lt_of_cell? _ _ (hHeld.2.2.2.2.2.2.2.2.2.2.2.2))).trans (hHeld.2.2.2.2.2.2.2.2.2.2.2.2)
  refine ⟨_, rfl, ?_⟩
  have n0_ := Aside0.mk (Kd.S_below (zS HO739) hb)
  have n1_ := Aside0.mk (Kd.R_below (zO HL743_2) hb)
  have n2_ := Aside0.mk (Kd.R_below (zO HL743_5) hb)
  have n3_ := Aside0.mk (Kd.R_below (zO HL744_2) hb)
  have n4_ := Aside0.mk (Kd.R_below (zO HL744_5) hb)
  have n5_ := Aside0.mk (blk_below (g := gb735) (o := .cells #[.slice (some ad743) t737.length co124] 22 (0, 0)) (zK BK735) hb)
  have n6_ := Aside0.mk (blk_below (g := gb742) (o := .cells #[.int .i64 t740] 3 (0, 0)) (zK BK742) hb)
  have n7_ := Aside0.mk (Kd.C_below (by repeat (first | (with_reducible exact HR743_2.out) | (with_reducible refine Kd.C_alloc ?_ _) | (with_reducible refine Kd.C_drewN ?_ _) | (with_reducible refine Kd.C_drew ?_) | exact HR743_2.out)) hb)
  have n8_ := Aside0.mk (Kd.C_below (by repeat (first | (with_reducible exact HR743_5.out) | (with_reducible refine Kd.C_alloc ?_ _) | (with_reducible refine Kd.C_drewN ?_ _) | (with_reducible refine Kd.C_drew ?_) | exact HR743_5.out)) hb)
  have n9_ := Aside0.mk (Kd.C_below (by repeat (first | (with_reducible exact HR744_2.out) | (with_reducible refine Kd.C_alloc ?_ _) | (with_reducible refine Kd.C_drewN ?_ _) | (with_reducible refine Kd.C_drew ?_) | exact HR744_2.out)) hb)
  have n10_ := Aside0.mk (Kd.C_below (by repeat (first | (with_reducible exact HR744_5.out) | (with_reducible refine Kd.C_alloc ?_ _) | (with_reducible refine Kd.C_drewN ?_ _) | (with_reducible refine Kd.C_drew ?_) | exact HR744_5.out)) hb)
  have n11_ := Aside0.mk (below_step zB hb)
  clear HO739
  clear HL743_2
  clear HL743_5
  clear HL744_2
  clear HL744_5
  clear BK735
  clear BK742
  clear HR743_2
  clear HR743_5
  clear HR744_2
  clear HR744_5
  clear HB
  have HO739 := n0_
  have HL743_2 := n1_
  have HL743_5 := n2_
  have HL744_2 := n3_
  have HL744_5 := n4_
  have BK735 := n5_
  have BK742 := n6_
  have HR743_2 := n7_
  have HR743_5 := n8_
  have HR744_2 := n9_
  have HR744_5 := n10_
  have HB := n11_
  clear n0_ n1_ n2_ n3_ n4_ n5_ n6_ n7_ n8_ n9_ n10_ n11_
  (try clear hb)
  (try clear hb2)
  (try clear hk)
  (try clear hi)
  refine hK.out _ _ ⟨zT BK735 0, HS1_, HS2_, HS3_, HS4_, HS5_, HS6_, HS7_, HS8_, HS9_, HS10_, HS11_, HS12_⟩ (fun hHeld => ?_)
  clear hK K
  refine norm_ (a' := ?_) ?_ ?_
  rotate_left
  · show Act.put _ (some 28) _ = _; simp only [Act.put, sA, s0, sS, i64_w, i32_w]; rfl
  refine pu 7 (some 21) (bm 12 255) HT_ ?_
  refine pu 8 (some 29) (bm 12 511) HT_ ?_
  refine pu 9 (some 30) (bm 12 1023) HT_ ?_
  refine pu 10 (some 5) (bm 12 2047) HT_ ?_
  refine pu 11 (some 6) (bm 12 4095) HT_ ?_
  refine done_ (done_of HT_.out (by kernel_rfl)) ?_
  try go_wp2
  have n0_ := Aside0.mk (Kd.S_drew HO739.out)
  have n1_ := Aside0.mk (Kd.R_drew HL743_2.out)
  have n2_ := Aside0.mk (Kd.R_drew HL743_5.out)
  have n3_ := Aside0.mk (Kd.R_drew HL744_2.out)
  have n4_ := Aside0.mk (Kd.R_drew HL744_5.out)
  have n5_ := Aside0.mk (blk_drew BK735.out)
  have n6_ := Aside0.mk (blk_drew BK742.out)
  have n7_ := Aside0.mk (Kd.C_drew HR743_2.out)
  have n8_ := Aside0.mk (Kd.C_drew HR743_5.out)
  have n9_ := Aside0.mk (Kd.C_drew HR744_2.out)
  have n10_ := Aside0.mk (Kd.C_drew HR744_5.out)
  have n11_ := Aside0.mk (below_drew1 HB.out)
  clear HO739
  clear HL743_2
  clear HL743_5
  clear HL744_2
  clear HL744_5
  clear BK735
  clear BK742
  clear HR743_2
  clear HR743_5
  clear HR744_2
  clear HR744_5
  clear HB
  have HO739 := n0_
  have HL743_2 := n1_
  have HL743_5 := n2_
  have HL744_2 := n3_
  have HL744_5 := n4_
  have BK735 := n5_
  have BK742 := n6_
  have HR743_2 := n7_
  have HR743_5 := n8_
  have HR744_2 := n9_
  have HR744_5 := n10_
  have HB := n11_
  clear n0_ n1_ n2_ n3_ n4_ n5_ n6_ n7_ n8_ n9_ n10_ n11_
  have p747 : 0 ≤ (1 : Int) := (by omega)
  have q747 : 1 < (t737.length : Int) := od
  obtain ⟨ad747, A747_2, c747_2, A747_5, c747_5, e747, hx747_0, hx747_1, hx747_2, hx747_3, hx747_4, hx747_5, hl747_2, hi747_2, hl747_5, hi747_5⟩ := at_T31 (Kd.S_reads' HO739.out).2.2 1 p747 q747
  obtain rfl : ad743 = ad747 := (by injection e747)
  obtain ⟨ce747, hce747, hMe747, hcc747⟩ := Kd.S_get HO739.out z31 1 p747 (by first | exact q747 | exact od | (have e_ := (Kd.S_reads' HO739.out).1; omega))
  obtain ⟨ve747_2, ve747_5, rfl, ge747_2, ge747_5⟩ := k31_openM hMe747
  have hv747_2 := hcc747 2 _ rfl
  rw [add_field _ _ 2 (by omega)] at hv747_2
  replace hv747_2 := Option.some.inj (hv747_2.symm.trans hx747_2)
  rw [hv747_2] at ge747_2
  have HL747_2 := Aside0.mk (show Kd.R (Kd.int .i64) 3 _ _ _ _ ((rd_T31 t737 1).f1) from ge747_2)
  clear hv747_2 ge747_2
  have hv747_5 := hcc747 5 _ rfl
  rw [add_field _ _ 5 (by omega)] at hv747_5
  replace hv747_5 := Option.some.inj (hv747_5.symm.trans hx747_5)
  rw [hv747_5] at ge747_5
  have HL747_5 := Aside0.mk (show Kd.R (Kd.int .i64) 3 _ _ _ _ ((rd_T31 t737 1).f4) from ge747_5)
  clear hv747_5 ge747_5
  clear hcc747 hce747
  (try simp only [show (1 : Int).toNat = 1 from rfl, Nat.reduceMul, Nat.reduceEqDiff, Go.Addr.add, ↓reduceIte] at hx747_0)
  (try simp only [show (1 : Int).toNat = 1 from rfl, Nat.reduceMul, Nat.reduceEqDiff, Go.Addr.add, ↓reduceIte] at hx747_1)
  (try simp only [show (1 : Int).toNat = 1 from rfl, Nat.reduceMul, Nat.reduceEqDiff, Go.Addr.add, ↓reduceIte] at hx747_2)
  (try simp only [show (1 : Int).toNat = 1 from rfl, Nat.reduceMul, Nat.reduceEqDiff, Go.Addr.add, ↓reduceIte] at hx747_3)
  (try simp only [show (1 : Int).toNat = 1 from rfl, Nat.reduceMul, Nat.reduceEqDiff, Go.Addr.add, ↓reduceIte] at hx747_4)
  (try simp only [show (1 : Int).toNat = 1 from rfl, Nat.reduceMul, Nat.reduceEqDiff, Go.Addr.add, ↓reduceIte] at hx747_5)
  have qi747 : (1 < t737.length) = True := eq_true (by omega)
  (try rw [show ((1 : Int)).toNat = 1 from rfl] at hx747_0)
  (try rw [show 1 * 6 = 6 from rfl] at hx747_0)
  (try rw [show ((1 : Int)).toNat = 1 from rfl] at hx747_1)
  (try rw [show 1 * 6 = 6 from rfl] at hx747_1)
  (try rw [show ((1 : Int)).toNat = 1 from rfl] at hx747_2)
  (try rw [show 1 * 6 = 6 from rfl] at hx747_2)
  (try rw [show ((1 : Int)).toNat = 1 from rfl] at hx747_3)
  (try rw [show 1 * 6 = 6 from rfl] at hx747_3)
  (try rw [show ((1 : Int)).toNat = 1 from rfl] at hx747_4)
  (try rw [show 1 * 6 = 6 from rfl] at hx747_4)
  (try rw [show ((1 : Int)).toNat = 1 from rfl] at hx747_5)
  (try rw [show 1 * 6 = 6 from rfl] at hx747_5)
  have HR747_2 := Aside0.mk hi747_2
  have HC747_2 := Aside0.mk hl747_2
  clear hi747_2 hl747_2
  have HR747_5 := Aside0.mk hi747_5
  have HC747_5 := Aside0.mk hl747_5
  clear hi747_5 hl747_5
  replace p747 := eq_true p747
  replace q747 := eq_true q747
  have p748 : 0 ≤ (0 : Int) := (by omega)
  have q748 : 0 < (t737.length : Int) := od
  obtain ⟨ad748, A748_2, c748_2, A748_5, c748_5, e748, hx748_0, hx748_1, hx748_2, hx748_3, hx748_4, hx748_5, hl748_2, hi748_2, hl748_5, hi748_5⟩ := at_T31 (Kd.S_reads' HO739.out).2.2 0 p748 q748
  obtain rfl : ad743 = ad748 := (by injection e748)
  obtain ⟨ce748, hce748, hMe748, hcc748⟩ := Kd.S_get HO739.out z31 0 p748 (by first | exact q748 | exact od | (have e_ := (Kd.S_reads' HO739.out).1; omega))
  obtain ⟨ve748_2, ve748_5, rfl, ge748_2, ge748_5⟩ := k31_openM hMe748
  have hv748_2 := hcc748 2 _ rfl
  rw [add_field _ _ 2 (by omega)] at hv748_2
  replace hv748_2 := Option.some.inj (hv748_2.symm.trans hx748_2)
  rw [hv748_2] at ge748_2
  have HL748_2 := Aside0.mk (show Kd.R (Kd.int .i64) 3 _ _ _ _ ((rd_T31 t737 0).f1) from ge748_2)
  clear hv748_2 ge748_2
  have hv748_5 := hcc748 5 _ rfl
  rw [add_field _ _ 5 (by omega)] at hv748_5
  replace hv748_5 := Option.some.inj (hv748_5.symm.trans hx748_5)
  rw [hv748_5] at ge748_5
  have HL748_5 := Aside0.mk (show Kd.R (Kd.int .i64) 3 _ _ _ _ ((rd_T31 t737 0).f4) from ge748_5)
  clear hv748_5 ge748_5
  clear hcc748 hce748
  have qi748 : (0 < t737.length) = True := eq_true (by omega)
  (try rw [show ((0 : Int)).toNat = 0 from rfl] at hx748_0)
  (try rw [show 0 * 6 = 0 from rfl] at hx748_0)
  (try rw [Addr.add_zero'] at hx748_0)
  (try rw [show ((0 : Int)).toNat = 0 from rfl] at hx748_1)
  (try rw [show 0 * 6 = 0 from rfl] at hx748_1)
  (try rw [Addr.add_zero'] at hx748_1)
  (try rw [show ((0 : Int)).toNat = 0 from rfl] at hx748_2)
  (try rw [show 0 * 6 = 0 from rfl] at hx748_2)
  (try rw [Addr.add_zero'] at hx748_2)
  (try rw [show ((0 : Int)).toNat = 0 from rfl] at hx748_3)
  (try rw [show 0 * 6 = 0 from rfl] at hx748_3)
  (try rw [Addr.add_zero'] at hx748_3)
  (try rw [show ((0 : Int)).toNat = 0 from rfl] at hx748_4)
  (try rw [show 0 * 6 = 0 from rfl] at hx748_4)
  (try rw [Addr.add_zero'] at hx748_4)
  (try rw [show ((0 : Int)).toNat = 0 from rfl] at hx748_5)
  (try rw [show 0 * 6 = 0 from rfl] at hx748_5)
  (try rw [Addr.add_zero'] at hx748_5)
  have HR748_2 := Aside0.mk hi748_2
  have HC748_2 := Aside0.mk hl748_2
  clear hi748_2 hl748_2
  have HR748_5 := Aside0.mk hi748_5
  have HC748_5 := Aside0.mk hl748_5
  clear hi748_5 hl748_5
  replace p748 := eq_true p748
  replace q748 := eq_true q748
  refine start_ (n := 12) (S := fun w' => w'.cell? ⟨gb735, 0, none⟩ = some (.slice (some ad743) t737.length co124) ∧ w'.cell? ⟨ad743.block, ad743.off + 6, none⟩ = some (.int .u32 ((rd_T31 t737 1).f0.f0)) ∧ w'.cell? ⟨ad743.block, ad743.off + 6 + 1, none⟩ = some (.int .i64 ((rd_T31 t737 1).f0.f1)) ∧ w'.cell? ⟨ad743.block, ad743.off + 6 + 2, none⟩ = some (.slice A747_2 ((rd_T31 t737 1).f1).length c747_2) ∧ w'.cell? ⟨ad743.block, ad743.off + 6 + 3, none⟩ = some (.int .i64 ((rd_T31 t737 1).f2)) ∧ w'.cell? ⟨ad743.block, ad743.off + 6 + 4, none⟩ = some (.int .i64 ((rd_T31 t737 1).f3)) ∧ w'.cell? ⟨ad743.block, ad743.off + 6 + 5, none⟩ = some (.slice A747_5 ((rd_T31 t737 1).f4).length c747_5) ∧ w'.cell? ad743 = some (.int .u32 ((rd_T31 t737 0).f0.f0)) ∧ w'.cell? ⟨ad743.block, ad743.off + 1, none⟩ = some (.int .i64 ((rd_T31 t737 0).f0.f1)) ∧ w'.cell? ⟨ad743.block, ad743.off + 2, none⟩ = some (.slice A748_2 ((rd_T31 t737 0).f1).length c748_2) ∧ w'.cell? ⟨ad743.block, ad743.off + 3, none⟩ = some (.int .i64 ((rd_T31 t737 0).f2)) ∧ w'.cell? ⟨ad743.block, ad743.off + 4, none⟩ = some (.int .i64 ((rd_T31 t737 0).f3)) ∧ w'.cell? ⟨ad743.block, ad743.off + 5, none⟩ = some (.slice A748_5 ((rd_T31 t737 0).f4).length c748_5)) (ds := []) (bm 12 0) (by kernel_rfl) rfl rfl ⟨zT BK735 0, hx747_0, hx747_1, hx747_2, hx747_3, hx747_4, hx747_5, hx748_0, hx748_1, hx748_2, hx748_3, hx748_4, hx748_5⟩ (fun hHeld => ?_); refine with_tabW g8_.tab8 g8_.bits8 (fun HT_ HW_ => ?_)
  generalize w132.drew = w133 at HO739 HL743_2 HL743_5 HL744_2 HL744_5 BK735 BK742 HR743_2 HR743_5 HR744_2 HR744_5 HB HL747_2 HL747_5 HL748_2 HL748_5 HR747_2 HR747_5 HR748_2 HR748_5 hx747_0 hx747_1 hx747_2 hx747_3 hx747_4 hx747_5 hx748_0 hx748_1 hx748_2 hx748_3 hx748_4 hx748_5 hHeld ⊢
  refine tk 0 (some 32) (bm 12 1) HT_ HW_ hHeld ?_
  refine pu 1 (some 33) (bm 12 3) HT_ ?_
  refine tk 2 (some 34) (bm 12 7) HT_ HW_ hHeld ?_
  refine tk 3 (some 35) (bm 12 15) HT_ HW_ hHeld ?_
  refine pu 4 (some 36) (bm 12 31) HT_ ?_
  refine tk 5 (some 37) (bm 12 63) HT_ HW_ hHeld ?_
  refine one_ (i := 6) (N := some 38) (bm 12 127) rfl rfl (one_of HT_.out (by kernel_rfl)) (by decide) (fun K hK => ?_)
  refine goes_ Tryd.func11 (by kernel_rfl) rfl #[.agg #[.int .u32 ((rd_T31 t737 1).f0.f0), .int .i64 ((rd_T31 t737 1).f0.f1), .slice A747_2 ((rd_T31 t737 1).f1).length c747_2, .int .i64 ((rd_T31 t737 1).f2), .int .i64 ((rd_T31 t737 1).f3), .slice A747_5 ((rd_T31 t737 1).f4).length c747_5], .agg #[.int .u32 ((rd_T31 t737 0).f0.f0), .int .i64 ((rd_T31 t737 0).f0.f1), .slice A748_2 ((rd_T31 t737 0).f1).length c748_2, .int .i64 ((rd_T31 t737 0).f2), .int .i64 ((rd_T31 t737 0).f3), .slice A748_5 ((rd_T31 t737 0).f4).length c748_5]] (by rfl) rfl rfl zM ?_
  with_reducible refine (best_Better.calls k ((rd_T31 t737 1).f0.f0) ((rd_T31 t737 1).f0.f1) _ _ ((rd_T31 t737 1).f1) ((rd_T31 t737 1).f2) ((rd_T31 t737 1).f3) _ _ ((rd_T31 t737 1).f4) ((rd_T31 t737 0).f0.f0) ((rd_T31 t737 0).f0.f1) _ _ ((rd_T31 t737 0).f1) ((rd_T31 t737 0).f2) ((rd_T31 t737 0).f3) _ _ ((rd_T31 t737 0).f4) t749 t750 _ ?side1 ?side2 ?side3 ?side4 ?side5 ?side6 ?side7 ?side8 A16.out).mono ?_
  (case side1 => repeat (first | exact (by repeat (first | (with_reducible exact HR747_2.out) | (with_reducible refine Kd.C_alloc ?_ _) | (with_reducible refine Kd.C_drewN ?_ _) | (with_reducible refine Kd.C_drew ?_) | exact HR747_2.out)) | (with_reducible refine Kd.C_alloc ?_ _) | (with_reducible refine Kd.C_drewN ?_ _) | (with_reducible refine Kd.C_drew ?_)))
  (case side2 => exact HC747_2.out)
  (case side3 => repeat (first | exact (by repeat (first | (with_reducible exact HR747_5.out) | (with_reducible refine Kd.C_alloc ?_ _) | (with_reducible refine Kd.C_drewN ?_ _) | (with_reducible refine Kd.C_drew ?_) | exact HR747_5.out)) | (with_reducible refine Kd.C_alloc ?_ _) | (with_reducible refine Kd.C_drewN ?_ _) | (with_reducible refine Kd.C_drew ?_)))
  (case side4 => exact HC747_5.out)
  (case side5 => repeat (first | exact (by repeat (first | (with_reducible exact HR748_2.out) | (with_reducible refine Kd.C_alloc ?_ _) | (with_reducible refine Kd.C_drewN ?_ _) | (with_reducible refine Kd.C_drew ?_) | exact HR748_2.out)) | (with_reducible refine Kd.C_alloc ?_ _) | (with_reducible refine Kd.C_drewN ?_ _) | (with_reducible refine Kd.C_drew ?_)))
  (case side6 => exact HC748_2.out)
  (case side7 => repeat (first | exact (by repeat (first | (with_reducible exact HR748_5.out) | (with_reducible refine Kd.C_alloc ?_ _) | (with_reducible refine Kd.C_drewN ?_ _) | (with_reducible refine Kd.C_drew ?_) | exact HR748_5.out)) | (with_reducible refine Kd.C_alloc ?_ _) | (with_reducible refine Kd.C_drewN ?_ _) | (with_reducible refine Kd.C_drew ?_)))
  (case side8 => exact HC748_5.out)
  rintro e w134 ⟨rfl, hb⟩
  have HS1_ := (hb.cell (World.block_lt_of_cell? _ _ (hHeld.2.1))).trans (hHeld.2.1)
  have HS2_ := (hb.cell (World.block_lt_of_cell? _ _ (hHeld.2.2.1))).trans (hHeld.2.2.1)
  have HS3_ := (hb.cell (World.block_lt_of_cell? _ _ (hHeld.2.2.2.1))).trans (hHeld.2.2.2.1)
  have HS4_ := (hb.cell (World.block_lt_of_cell? _ _ (hHeld.2.2.2.2.1))).trans (hHeld.2.2.2.2.1)
  have HS5_ := (hb.cell (World.block_lt_of_cell? _ _ (hHeld.2.2.2.2.2.1))).trans (hHeld.2.2.2.2.2.1)
  have HS6_ := (hb.cell (World.block_lt_of_cell? _ _ (hHeld.2.2.2.2.2.2.1))).trans (hHeld.2.2.2.2.2.2.1)
  have HS7_ := (hb.cell (World.block_lt_of_cell? _ _ (hHeld.2.2.2.2.2.2.2.1))).trans (hHeld.2.2.2.2.2.2.2.1)
  have HS8_ := (hb.cell (World.block_lt_of_cell? _ _ (hHeld.2.2.2.2.2.2.2.2.1))).trans (hHeld.2.2.2.2.2.2.2.2.1)
  have HS9_ := (hb.cell (World.block_lt_of_cell? _ _ (hHeld.2.2.2.2.2.2.2.2.2.1))).trans (hHeld.2.2.2.2.2.2.2.2.2.1)
  have HS10_ := (hb.cell (World.block_lt_of_cell? _ _ (hHeld.2.2.2.2.2.2.2.2.2.2.1))).trans (hHeld.2.2.2.2.2.2.2.2.2.2.1)
  have HS11_ := (hb.cell (World.block_lt_of_cell? _ _ (hHeld.2.2.2.2.2.2.2.2.2.2.2.1))).trans (hHeld.2.2.2.2.2.2.2.2.2.2.2.1)
  have HS12_ := (hb.cell (World.block_lt_of_cell? _ _ (hHeld.2.2.2.2.2.2.2.2.2.2.2.2))).trans (hHeld.2.2.2.2.2.2.2.2.2.2.2.2)
  refine ⟨_, rfl, ?_⟩
  have n0_ := Aside0.mk (Kd.S_below (zS HO739) hb)
  have n1_ := Aside0.mk (Kd.R_below (zO HL743_2) hb)
  have n2_ := Aside0.mk (Kd.R_below (zO HL743_5) hb)
  have n3_ := Aside0.mk (Kd.R_below (zO HL744_2) hb)
  have n4_ := Aside0.mk (Kd.R_below (zO HL744_5) hb)
  have n5_ := Aside0.mk (Kd.R_below (zO HL747_2) hb)
  have n6_ := Aside0.mk (Kd.R_below (zO HL747_5) hb)
  have n7_ := Aside0.mk (Kd.R_below (zO HL748_2) hb)
  have n8_ := Aside0.mk (Kd.R_below (zO HL748_5) hb)
  have n9_ := Aside0.mk (blk_below (g := gb735) (o := .cells #[.slice (some ad743) t737.length co124] 22 (0, 0)) (zK BK735) hb)
  have n10_ := Aside0.mk (blk_below (g := gb742) (o := .cells #[.int .i64 t740] 3 (0, 0)) (zK BK742) hb)
  have n11_ := Aside0.mk (Kd.C_below (by repeat (first | (with_reducible exact HR743_2.out) | (with_reducible refine Kd.C_alloc ?_ _) | (with_reducible refine Kd.C_drewN ?_ _) | (with_reducible refine Kd.C_drew ?_) | exact HR743_2.out)) hb)
  have n12_ := Aside0.mk (Kd.C_below (by repeat (first | (with_reducible exact HR743_5.out) | (with_reducible refine Kd.C_alloc ?_ _) | (with_reducible refine Kd.C_drewN ?_ _) | (with_reducible refine Kd.C_drew ?_) | exact HR743_5.out)) hb)
  have n13_ := Aside0.mk (Kd.C_below (by repeat (first | (with_reducible exact HR744_2.out) | (with_reducible refine Kd.C_alloc ?_ _) | (with_reducible refine Kd.C_drewN ?_ _) | (with_reducible refine Kd.C_drew ?_) | exact HR744_2.out)) hb)
  have n14_ := Aside0.mk (Kd.C_below (by repeat (first | (with_reducible exact HR744_5.out) | (with_reducible refine Kd.C_alloc ?_ _) | (with_reducible refine Kd.C_drewN ?_ _) | (with_reducible refine Kd.C_drew ?_) | exact HR744_5.out)) hb)
  have n15_ := Aside0.mk (Kd.C_below (by repeat (first | (with_reducible exact HR747_2.out) | (with_reducible refine Kd.C_alloc ?_ _) | (with_reducible refine Kd.C_drewN ?_ _) | (with_reducible refine Kd.C_drew ?_) | exact HR747_2.out)) hb)
  have n16_ := Aside0.mk (Kd.C_below (by repeat (first | (with_reducible exact HR747_5.out) | (with_reducible refine Kd.C_alloc ?_ _) | (with_reducible refine Kd.C_drewN ?_ _) | (with_reducible refine Kd.C_drew ?_) | exact HR747_5.out)) hb)
  have n17_ := Aside0.mk (Kd.C_below (by repeat (first | (with_reducible exact HR748_2.out) | (with_reducible refine Kd.C_alloc ?_ _) | (with_reducible refine Kd.C_drewN ?_ _) | (with_reducible refine Kd.C_drew ?_) | exact HR748_2.out)) hb)
  have n18_ := Aside0.mk (Kd.C_below (by repeat (first | (with_reducible exact HR748_5.out) | (with_reducible refine Kd.C_alloc ?_ _) | (with_reducible refine Kd.C_drewN ?_ _) | (with_reducible refine Kd.C_drew ?_) | exact HR748_5.out)) hb)
  have n19_ := Aside0.mk (below_step zB hb)
  clear HO739
  clear HL743_2
  clear HL743_5
  clear HL744_2
  clear HL744_5
  clear HL747_2
  clear HL747_5
  clear HL748_2
  clear HL748_5
  clear BK735
  clear BK742
  clear HR743_2
  clear HR743_5
  clear HR744_2
  clear HR744_5
  clear HR747_2
  clear HR747_5
  clear HR748_2
  clear HR748_5
  clear HB
  have HO739 := n0_
  have HL743_2 := n1_
  have HL743_5 := n2_
  have HL744_2 := n3_
  have HL744_5 := n4_
  have HL747_2 := n5_
  have HL747_5 := n6_
  have HL748_2 := n7_
  have HL748_5 := n8_
  have BK735 := n9_
  have BK742 := n10_
  have HR743_2 := n11_
  have HR743_5 := n12_
  have HR744_2 := n13_
  have HR744_5 := n14_
  have HR747_2 := n15_
  have HR747_5 := n16_
  have HR748_2 := n17_
  have HR748_5 := n18_
  have HB := n19_
  clear n0_ n1_ n2_ n3_ n4_ n5_ n6_ n7_ n8_ n9_ n10_ n11_ n12_ n13_ n14_ n15_ n16_ n17_ n18_ n19_
  (try clear hb)
  (try clear hb2)
  (try clear hk)
  (try clear hi)
  refine hK.out _ _ ⟨zT BK735 0, HS1_, HS2_, HS3_, HS4_, HS5_, HS6_, HS7_, HS8_, HS9_, HS10_, HS11_, HS12_⟩ (fun hHeld => ?_)
  clear hK K
  refine norm_ (a' := ?_) ?_ ?_
  rotate_left
  · show Act.put _ (some 38) _ = _; simp only [Act.put, sA, s0, sS, i64_w, i32_w]; rfl
  refine pu 7 (some 31) (bm 12 255) HT_ ?_
  refine pu 8 (some 39) (bm 12 511) HT_ ?_
  refine pu 9 (some 40) (bm 12 1023) HT_ ?_
  refine pu 10 (some 7) (bm 12 2047) HT_ ?_
  refine pu 11 (some 8) (bm 12 4095) HT_ ?_
  refine done_ (done_of HT_.out (by kernel_rfl)) ?_
  try go_wp2
  go_ret
  exact ⟨zE, zB⟩
 rw [if_pos c17] at H
 have c17b0 : (t741 == 0) = true := beq_iff_eq.mpr c17
 have c17b1 : (t741 != 0) = false := bne_eq_false_iff_eq.mpr c17
 clear c17
 by_cases c18 : t746 = 0
 rotate_left
 ·
  rw [if_neg c18] at H
  have c18b0 : (t746 == 0) = false := beq_eq_false_iff_ne.mpr c18
  have c18b1 : (t746 != 0) = true := bne_iff_ne.mpr c18
  obtain rfl := Option.some.inj H
  go_enter Tryd.func4, Tryd.ntmps4
  try go_wp2_with (first | ((with_reducible refine gate_dst (N := 1) rfl ?_); (try (refine gate_guard (by rfl) ?_; dsimp only)); refine bx 1 (#[.slice A0 l0.length c0]) 22 ?_; intro gb735 hg w105 hbox hb; have n0_ := Aside0.mk (below_step zB hb); have n1_ := Aside0.mk (hbox); have n2_ := Aside0.mk ((zG hg : w.heap.size ≤ gb735)); have n3_ := Aside0.mk ((zG hg : w.heap.size ≤ gb735)); clear HB; have HB := n0_; have BK735 := n1_; have GW735 := n2_; have GE735 := n3_; clear n0_ n1_ n2_ n3_; clear hb hbox hg) | ((with_reducible refine gate_callee (f := 6) rfl ?_); refine goesL_ (some 9) rfl rfl Tryd.func6 (by kernel_rfl) rfl #[] rfl zM ?_; (with_reducible refine (g15_.calls k  true _ A2.out).mono ?_); rintro e w106 ⟨rfl, hb⟩; refine ⟨_, rfl, ?_⟩; have n0_ := Aside0.mk (blk_below (g := gb735) (o := .cells #[.slice A0 l0.length c0] 22 (0, 0)) (zK BK735) hb); have n1_ := Aside0.mk (below_step zB hb); clear BK735; clear HB; have BK735 := n0_; have HB := n1_; clear n0_ n1_; (try clear hb); (try clear hb2); (try clear hk); (try clear hi); have hcz107_0 : w106.cell? ⟨gb735, 0, none⟩ = some (.slice A0 l0.length c0) := zT BK735 0; have hfz107_0 := blk_frozen BK735.out 0) | ((with_reducible refine gate_callee (f := 7) rfl ?_); refine goesL_ (some 12) rfl rfl Tryd.func7 (by kernel_rfl) rfl #[.slice A0 l0.length c0, .int .i64 5] rfl zM ?_; (with_reducible refine (g11_.calls k _ _ l0 5 t737 _ ?side1 ?side2 ?side3 ?side4 A4.out).mono ?_); (case side1 => exact zC HR0 HB); (case side2 => exact HC0.out); (case side3 => exact (Below.cell zB (World.block_lt_of_cell? w _ GL0_0.out)).trans GL0_0.out); (case side4 => exact (Below.cell zB (World.block_lt_of_cell? w _ GL0_1.out)).trans GL0_1.out); rintro e w108 ⟨v738, rfl, ho0, hb⟩; refine ⟨_, rfl, ?_⟩; have n0_ := Aside0.mk (Kd.S_lower ho0 (below_size zB)); have n1_ := Aside0.mk (blk_below (g := gb735) (o := .cells #[.slice A0 l0.length c0] 22 (0, 0)) (zK BK735) hb); have n2_ := Aside0.mk (below_step zB hb); clear BK735; clear HB; have HO739 := n0_; have BK735 := n1_; have HB := n2_; clear n0_ n1_ n2_; (try clear hb); (try clear hb2); (try clear hk); (try clear hi); (try clear ho0); obtain ⟨Ao109, co109, eo109⟩ := Kd.S_slice HO739.out; subst eo109; have hcz110_0 : w108.cell? ⟨gb735, 0, none⟩ = some (.slice A0 l0.length c0) := zT BK735 0; have hfz110_0 := blk_frozen BK735.out 0) | ((with_reducible refine gate_callee (f := 9) rfl ?_); refine goesL_ (some 18) rfl rfl Tryd.func9 (by kernel_rfl) rfl #[.slice Ao109 t737.length co109] rfl zM ?_; (with_reducible refine (best_Choose.calls k _ _ t737 t740 t741 _ ?side1 ?side2 A12.out).mono ?_); (case side1 => refine (Kd.S_reads' (e := 31) (base := w.heap.size) (ok := fun k_ => True) (n := t737.length) (c := co109) ?_).2.2; exact (by (with_reducible repeat (first | apply Kd.S_alloc | apply Kd.S_drewN | apply Kd.S_drew)); exact (Kd.S_mono (Kd.S_far (p := ⟨gb735, 0, none⟩) (Kd.S_types HO739.out BK735.out (by decide)) (fun _ hk => hk.2) (.slice Ao109 t737.length co109)) (fun _ h_ => h_.1)))); (case side2 => exact (Kd.S_reads' HO739.out).2.1); rintro e w111 ⟨rfl, hb⟩; refine ⟨_, rfl, ?_⟩; have n0_ := Aside0.mk (Kd.S_below (by (with_reducible repeat (first | apply Kd.S_alloc | apply Kd.S_drewN | apply Kd.S_drew)); exact (Kd.S_mono (Kd.S_far (p := ⟨gb735, 0, none⟩) (Kd.S_types HO739.out BK735.out (by decide)) (fun _ hk => hk.2) (.slice Ao109 t737.length co109)) (fun _ h_ => h_.1))) hb); have n1_ := Aside0.mk (blk_below (g := gb735) (o := .cells #[.slice Ao109 t737.length co109] 22 (0, 0)) (by (with_reducible repeat (first | refine blk_drewN ?_ _ | refine blk_drew ?_ | refine blk_alloc ?_ _)); refine blk_put (cs := #[.slice A0 l0.length c0]) ?_ 0 _ rfl; (with_reducible repeat (first | refine blk_drewN ?_ _ | refine blk_drew ?_ | refine blk_alloc ?_ _)); exact BK735.out) hb); have n2_ := Aside0.mk (below_step zB hb); clear HO739; clear BK735; clear HB; have HO739 := n0_; have BK735 := n1_; have HB := n2_; clear n0_ n1_ n2_; (try clear hb); (try clear hb2); (try clear hk); (try clear hi)) | ((with_reducible refine gate_dst (N := 3) rfl ?_); (try (refine gate_guard (by rfl) ?_; dsimp only)); refine bx 3 (#[.int .i64 0]) 3 ?_; intro gb742 hg w112 hbox hb; have n0_ := Aside0.mk (Kd.S_below (Kd.S_elderB (zS HO739) gb742 (Nat.le_of_eq hg.symm)) hb); have n1_ := Aside0.mk (blk_below (g := gb735) (o := .cells #[.slice Ao109 t737.length co109] 22 (0, 0)) (zK BK735) hb); have n2_ := Aside0.mk (below_step zB hb); have n3_ := Aside0.mk (hbox); have n4_ := Aside0.mk ((zG hg : w.heap.size ≤ gb742)); have n5_ := Aside0.mk ((zG hg : w.heap.size ≤ gb742)); have n6_ := Aside0.mk ((by rw [hg]; exact Nat.ne_of_lt (blk_lt (g := gb735) (o := .cells #[.slice Ao109 t737.length co109] 22 (0, 0)) (zK BK735)) : gb735 ≠ gb742)); have n7_ := Aside0.mk ((by rw [hg]; exact Nat.ne_of_gt (blk_lt (g := gb735) (o := .cells #[.slice Ao109 t737.length co109] 22 (0, 0)) (zK BK735)) : gb742 ≠ gb735)); clear HO739; clear BK735; clear HB; have HO739 := n0_; have BK735 := n1_; have HB := n2_; have BK742 := n3_; have GW742 := n4_; have GE742 := n5_; have NB735_742 := n6_; have NB742_735 := n7_; clear n0_ n1_ n2_ n3_ n4_ n5_ n6_ n7_; clear hb hbox hg; have hnb113 := NB742_735.out; have hnc113 := NB735_742.out; have hcz114_0 : w112.cell? ⟨gb742, 0, none⟩ = some (.int .i64 0) := zT BK742 0; have hfz114_0 := blk_frozen BK742.out 0))
  have n0_ : Aside0 (Kd.S k31 31 (w112.setCell ⟨gb742, 0, none⟩ (.int .i64 t740)) w.heap.size (fun k_ => k_ ≠ gb742) (.slice Ao109 t737.length co109) t737) := ⟨by (with_reducible repeat (first | apply Kd.S_alloc | apply Kd.S_drewN | apply Kd.S_drew)); exact Kd.S_mono (Kd.S_far (p := ⟨gb742, 0, none⟩) (Kd.S_mono HO739.out (fun k_ hk => (⟨hk, hk.2⟩ : _ ∧ k_ ≠ gb742))) (fun _ hk => hk.2) (.int .i64 t740)) (fun _ hk => hk.1.2)⟩
  have n1_ : Aside0 ((w112.setCell ⟨gb742, 0, none⟩ (.int .i64 t740)).heap[gb735]? = some (.cells #[.slice Ao109 t737.length co109] 22 (0, 0))) := ⟨by (with_reducible repeat (first | refine blk_drewN ?_ _ | refine blk_drew ?_ | refine blk_alloc ?_ _)); refine blk_far ?_ NB735_742.out _; (with_reducible repeat (first | refine blk_drewN ?_ _ | refine blk_drew ?_ | refine blk_alloc ?_ _)); exact BK735.out⟩
  have n2_ : Aside0 ((w112.setCell ⟨gb742, 0, none⟩ (.int .i64 t740)).heap[gb742]? = some (.cells #[.int .i64 t740] 3 (0, 0))) := ⟨by (with_reducible repeat (first | refine blk_drewN ?_ _ | refine blk_drew ?_ | refine blk_alloc ?_ _)); refine blk_put (cs := #[.int .i64 0]) ?_ 0 _ rfl; (with_reducible repeat (first | refine blk_drewN ?_ _ | refine blk_drew ?_ | refine blk_alloc ?_ _)); exact BK742.out⟩
  have n3_ : Aside0 (Below w.heap.size w (w112.setCell ⟨gb742, 0, none⟩ (.int .i64 t740))) := ⟨zB⟩
  (try clear HO739)
  (try clear BK735)
  (try clear BK742)
  (try clear HB)
  generalize (w112.setCell ⟨gb742, 0, none⟩ (.int .i64 t740)) = w115 at n0_ n1_ n2_ n3_ ⊢
  have HO739 := n0_
  have BK735 := n1_
  have BK742 := n2_
  have HB := n3_
  clear n0_ n1_ n2_ n3_
  have n0_ := Aside0.mk (Kd.S_drew HO739.out)
  have n1_ := Aside0.mk (blk_drew BK735.out)
  have n2_ := Aside0.mk (blk_drew BK742.out)
  have n3_ := Aside0.mk (below_drew1 HB.out)
  clear HO739
  clear BK735
  clear BK742
  clear HB
  have HO739 := n0_
  have BK735 := n1_
  have BK742 := n2_
  have HB := n3_
  clear n0_ n1_ n2_ n3_
  have p743 : 0 ≤ (0 : Int) := (by omega)
  have q743 : 0 < (t737.length : Int) := od
  obtain ⟨ad743, A743_2, c743_2, A743_5, c743_5, e743, hx743_0, hx743_1, hx743_2, hx743_3, hx743_4, hx743_5, hl743_2, hi743_2, hl743_5, hi743_5⟩ := at_T31 (Kd.S_reads' HO739.out).2.2 0 p743 q743
  cases e743
  obtain ⟨ce743, hce743, hMe743, hcc743⟩ := Kd.S_get HO739.out z31 0 p743 (by first | exact q743 | exact od | (have e_ := (Kd.S_reads' HO739.out).1; omega))
  obtain ⟨ve743_2, ve743_5, rfl, ge743_2, ge743_5⟩ := k31_openM hMe743
  have hv743_2 := hcc743 2 _ rfl
  rw [add_field _ _ 2 (by omega)] at hv743_2
  replace hv743_2 := Option.some.inj (hv743_2.symm.trans hx743_2)
  rw [hv743_2] at ge743_2
  have HL743_2 := Aside0.mk (show Kd.R (Kd.int .i64) 3 _ _ _ _ ((rd_T31 t737 0).f1) from ge743_2)
  clear hv743_2 ge743_2
  have hv743_5 := hcc743 5 _ rfl
  rw [add_field _ _ 5 (by omega)] at hv743_5
  replace hv743_5 := Option.some.inj (hv743_5.symm.trans hx743_5)
  rw [hv743_5] at ge743_5
  have HL743_5 := Aside0.mk (show Kd.R (Kd.int .i64) 3 _ _ _ _ ((rd_T31 t737 0).f4) from ge743_5)
  clear hv743_5 ge743_5
  clear hcc743 hce743
  have qi743 : (0 < t737.length) = True := eq_true (by omega)
  (try rw [show ((0 : Int)).toNat = 0 from rfl] at hx743_0)
  (try rw [show 0 * 6 = 0 from rfl] at hx743_0)
  (try rw [Addr.add_zero'] at hx743_0)
  (try rw [show ((0 : Int)).toNat = 0 from rfl] at hx743_1)
  (try rw [show 0 * 6 = 0 from rfl] at hx743_1)
  (try rw [Addr.add_zero'] at hx743_1)
  (try rw [show ((0 : Int)).toNat = 0 from rfl] at hx743_2)
  (try rw [show 0 * 6 = 0 from rfl] at hx743_2)
  (try rw [Addr.add_zero'] at hx743_2)
  (try rw [show ((0 : Int)).toNat = 0 from rfl] at hx743_3)
  (try rw [show 0 * 6 = 0 from rfl] at hx743_3)
  (try rw [Addr.add_zero'] at hx743_3)
  (try rw [show ((0 : Int)).toNat = 0 from rfl] at hx743_4)
  (try rw [show 0 * 6 = 0 from rfl] at hx743_4)
  (try rw [Addr.add_zero'] at hx743_4)
  (try rw [show ((0 : Int)).toNat = 0 from rfl] at hx743_5)
  (try rw [show 0 * 6 = 0 from rfl] at hx743_5)
  (try rw [Addr.add_zero'] at hx743_5)
  have HR743_2 := Aside0.mk hi743_2
  have HC743_2 := Aside0.mk hl743_2
  clear hi743_2 hl743_2
  have HR743_5 := Aside0.mk hi743_5
  have HC743_5 := Aside0.mk hl743_5
  clear hi743_5 hl743_5
  replace p743 := eq_true p743
  replace q743 := eq_true q743
  have p744 : 0 ≤ (1 : Int) := (by omega)
  have q744 : 1 < (t737.length : Int) := od
  obtain ⟨ad744, A744_2, c744_2, A744_5, c744_5, e744, hx744_0, hx744_1, hx744_2, hx744_3, hx744_4, hx744_5, hl744_2, hi744_2, hl744_5, hi744_5⟩ := at_T31 (Kd.S_reads' HO739.out).2.2 1 p744 q744
  obtain rfl : ad743 = ad744 := (by injection e744)
  obtain ⟨ce744, hce744, hMe744, hcc744⟩ := Kd.S_get HO739.out z31 1 p744 (by first | exact q744 | exact od | (have e_ := (Kd.S_reads' HO739.out).1; omega))
  obtain ⟨ve744_2, ve744_5, rfl, ge744_2, ge744_5⟩ := k31_openM hMe744
  have hv744_2 := hcc744 2 _ rfl
  rw [add_field _ _ 2 (by omega)] at hv744_2
  replace hv744_2 := Option.some.inj (hv744_2.symm.trans hx744_2)
  rw [hv744_2] at ge744_2
  have HL744_2 := Aside0.mk (show Kd.R (Kd.int .i64) 3 _ _ _ _ ((rd_T31 t737 1).f1) from ge744_2)
  clear hv744_2 ge744_2
  have hv744_5 := hcc744 5 _ rfl
  rw [add_field _ _ 5 (by omega)] at hv744_5
  replace hv744_5 := Option.some.inj (hv744_5.symm.trans hx744_5)
  rw [hv744_5] at ge744_5
  have HL744_5 := Aside0.mk (show Kd.R (Kd.int .i64) 3 _ _ _ _ ((rd_T31 t737 1).f4) from ge744_5)
  clear hv744_5 ge744_5
  clear hcc744 hce744
  (try simp only [show (1 : Int).toNat = 1 from rfl, Nat.reduceMul, Nat.reduceEqDiff, Go.Addr.add, ↓reduceIte] at hx744_0)
  (try simp only [show (1 : Int).toNat = 1 from rfl, Nat.reduceMul, Nat.reduceEqDiff, Go.Addr.add, ↓reduceIte] at hx744_1)
  (try simp only [show (1 : Int).toNat = 1 from rfl, Nat.reduceMul, Nat.reduceEqDiff, Go.Addr.add, ↓reduceIte] at hx744_2)
  (try simp only [show (1 : Int).toNat = 1 from rfl, Nat.reduceMul, Nat.reduceEqDiff, Go.Addr.add, ↓reduceIte] at hx744_3)
  (try simp only [show (1 : Int).toNat = 1 from rfl, Nat.reduceMul, Nat.reduceEqDiff, Go.Addr.add, ↓reduceIte] at hx744_4)
  (try simp only [show (1 : Int).toNat = 1 from rfl, Nat.reduceMul, Nat.reduceEqDiff, Go.Addr.add, ↓reduceIte] at hx744_5)
  have qi744 : (1 < t737.length) = True := eq_true (by omega)
  (try rw [show ((1 : Int)).toNat = 1 from rfl] at hx744_0)
  (try rw [show 1 * 6 = 6 from rfl] at hx744_0)
  (try rw [show ((1 : Int)).toNat = 1 from rfl] at hx744_1)
  (try rw [show 1 * 6 = 6 from rfl] at hx744_1)
  (try rw [show ((1 : Int)).toNat = 1 from rfl] at hx744_2)
  (try rw [show 1 * 6 = 6 from rfl] at hx744_2)
  (try rw [show ((1 : Int)).toNat = 1 from rfl] at hx744_3)
  (try rw [show 1 * 6 = 6 from rfl] at hx744_3)
  (try rw [show ((1 : Int)).toNat = 1 from rfl] at hx744_4)
  (try rw [show 1 * 6 = 6 from rfl] at hx744_4)
  (try rw [show ((1 : Int)).toNat = 1 from rfl] at hx744_5)
  (try rw [show 1 * 6 = 6 from rfl] at hx744_5)
  have HR744_2 := Aside0.mk hi744_2
  have HC744_2 := Aside0.mk hl744_2
  clear hi744_2 hl744_2
  have HR744_5 := Aside0.mk hi744_5
  have HC744_5 := Aside0.mk hl744_5
  clear hi744_5 hl744_5
  replace p744 := eq_true p744
  replace q744 := eq_true q744
  refine start_ (n := 12) (S := fun w' => w'.cell? ⟨gb735, 0, none⟩ = some (.slice (some ad743) t737.length co109) ∧ w'.cell? ad743 = some (.int .u32 ((rd_T31 t737 0).f0.f0)) ∧ w'.cell? ⟨ad743.block, ad743.off + 1, none⟩ = some (.int .i64 ((rd_T31 t737 0).f0.f1)) ∧ w'.cell? ⟨ad743.block, ad743.off + 2, none⟩ = some (.slice A743_2 ((rd_T31 t737 0).f1).length c743_2) ∧ w'.cell? ⟨ad743.block, ad743.off + 3, none⟩ = some (.int .i64 ((rd_T31 t737 0).f2)) ∧ w'.cell? ⟨ad743.block, ad743.off + 4, none⟩ = some (.int .i64 ((rd_T31 t737 0).f3)) ∧ w'.cell? ⟨ad743.block, ad743.off + 5, none⟩ = some (.slice A743_5 ((rd_T31 t737 0).f4).length c743_5) ∧ w'.cell? ⟨ad743.block, ad743.off + 6, none⟩ = some (.int .u32 ((rd_T31 t737 1).f0.f0)) ∧ w'.cell? ⟨ad743.block, ad743.off + 6 + 1, none⟩ = some (.int .i64 ((rd_T31 t737 1).f0.f1)) ∧ w'.cell? ⟨ad743.block, ad743.off + 6 + 2, none⟩ = some (.slice A744_2 ((rd_T31 t737 1).f1).length c744_2) ∧ w'.cell? ⟨ad743.block, ad743.off + 6 + 3, none⟩ = some (.int .i64 ((rd_T31 t737 1).f2)) ∧ w'.cell? ⟨ad743.block, ad743.off + 6 + 4, none⟩ = some (.int .i64 ((rd_T31 t737 1).f3)) ∧ w'.cell? ⟨ad743.block, ad743.off + 6 + 5, none⟩ = some (.slice A744_5 ((rd_T31 t737 1).f4).length c744_5)) (ds := []) (bm 12 0) (by kernel_rfl) rfl rfl ⟨zT BK735 0, hx743_0, hx743_1, hx743_2, hx743_3, hx743_4, hx743_5, hx744_0, hx744_1, hx744_2, hx744_3, hx744_4, hx744_5⟩ (fun hHeld => ?_); refine with_tabW g8_.tab7 g8_.bits7 (fun HT_ HW_ => ?_)
  generalize w115.drew = w116 at HO739 BK735 BK742 HB HL743_2 HL743_5 HL744_2 HL744_5 HR743_2 HR743_5 HR744_2 HR744_5 hx743_0 hx743_1 hx743_2 hx743_3 hx743_4 hx743_5 hx744_0 hx744_1 hx744_2 hx744_3 hx744_4 hx744_5 hHeld ⊢
  refine tk 0 (some 22) (bm 12 1) HT_ HW_ hHeld ?_
  refine pu 1 (some 23) (bm 12 3) HT_ ?_
  refine tk 2 (some 24) (bm 12 7) HT_ HW_ hHeld ?_
  refine tk 3 (some 25) (bm 12 15) HT_ HW_ hHeld ?_
  refine pu 4 (some 26) (bm 12 31) HT_ ?_
  refine tk 5 (some 27) (bm 12 63) HT_ HW_ hHeld ?_
  refine one_ (i := 6) (N := some 28) (bm 12 127) rfl rfl (one_of HT_.out (by kernel_rfl)) (by decide) (fun K hK => ?_)
  refine goes_ Tryd.func11 (by kernel_rfl) rfl #[.agg #[.int .u32 ((rd_T31 t737 0).f0.f0), .int .i64 ((rd_T31 t737 0).f0.f1), .slice A743_2 ((rd_T31 t737 0).f1).length c743_2, .int .i64 ((rd_T31 t737 0).f2), .int .i64 ((rd_T31 t737 0).f3), .slice A743_5 ((rd_T31 t737 0).f4).length c743_5], .agg #[.int .u32 ((rd_T31 t737 1).f0.f0), .int .i64 ((rd_T31 t737 1).f0.f1), .slice A744_2 ((rd_T31 t737 1).f1).length c744_2, .int .i64 ((rd_T31 t737 1).f2), .int .i64 ((rd_T31 t737 1).f3), .slice A744_5 ((rd_T31 t737 1).f4).length c744_5]] (by rfl) rfl rfl zM ?_
  with_reducible refine (best_Better.calls k ((rd_T31 t737 0).f0.f0) ((rd_T31 t737 0).f0.f1) _ _ ((rd_T31 t737 0).f1) ((rd_T31 t737 0).f2) ((rd_T31 t737 0).f3) _ _ ((rd_T31 t737 0).f4) ((rd_T31 t737 1).f0.f0) ((rd_T31 t737 1).f0.f1) _ _ ((rd_T31 t737 1).f1) ((rd_T31 t737 1).f2) ((rd_T31 t737 1).f3) _ _ ((rd_T31 t737 1).f4) t745 t746 _ ?side1 ?side2 ?side3 ?side4 ?side5 ?side6 ?side7 ?side8 A15.out).mono ?_
  (case side1 => repeat (first | exact (by repeat (first | (with_reducible exact HR743_2.out) | (with_reducible refine Kd.C_alloc ?_ _) | (with_reducible refine Kd.C_drewN ?_ _) | (with_reducible refine Kd.C_drew ?_) | exact HR743_2.out)) | (with_reducible refine Kd.C_alloc ?_ _) | (with_reducible refine Kd.C_drewN ?_ _) | (with_reducible refine Kd.C_drew ?_)))
  (case side2 => exact HC743_2.out)
  (case side3 => repeat (first | exact (by repeat (first | (with_reducible exact HR743_5.out) | (with_reducible refine Kd.C_alloc ?_ _) | (with_reducible refine Kd.C_drewN ?_ _) | (with_reducible refine Kd.C_drew ?_) | exact HR743_5.out)) | (with_reducible refine Kd.C_alloc ?_ _) | (with_reducible refine Kd.C_drewN ?_ _) | (with_reducible refine Kd.C_drew ?_)))
  (case side4 => exact HC743_5.out)
  (case side5 => repeat (first | exact (by repeat (first | (with_reducible exact HR744_2.out) | (with_reducible refine Kd.C_alloc ?_ _) | (with_reducible refine Kd.C_drewN ?_ _) | (with_reducible refine Kd.C_drew ?_) | exact HR744_2.out)) | (with_reducible refine Kd.C_alloc ?_ _) | (with_reducible refine Kd.C_drewN ?_ _) | (with_reducible refine Kd.C_drew ?_)))
  (case side6 => exact HC744_2.out)
  (case side7 => repeat (first | exact (by repeat (first | (with_reducible exact HR744_5.out) | (with_reducible refine Kd.C_alloc ?_ _) | (with_reducible refine Kd.C_drewN ?_ _) | (with_reducible refine Kd.C_drew ?_) | exact HR744_5.out)) | (with_reducible refine Kd.C_alloc ?_ _) | (with_reducible refine Kd.C_drewN ?_ _) | (with_reducible refine Kd.C_drew ?_)))
  (case side8 => exact HC744_5.out)
  rintro e w117 ⟨rfl, hb⟩
  have HS1_ := (hb.cell (World.block_lt_of_cell? _ _ (hHeld.2.1))).trans (hHeld.2.1)
  have HS2_ := (hb.cell (World.block_lt_of_cell? _ _ (hHeld.2.2.1))).trans (hHeld.2.2.1)
  have HS3_ := (hb.cell (World.block_lt_of_cell? _ _ (hHeld.2.2.2.1))).trans (hHeld.2.2.2.1)
  have HS4_ := (hb.cell (World.block_lt_of_cell? _ _ (hHeld.2.2.2.2.1))).trans (hHeld.2.2.2.2.1)
  have HS5_ := (hb.cell (World.block_lt_of_cell? _ _ (hHeld.2.2.2.2.2.1))).trans (hHeld.2.2.2.2.2.1)
  have HS6_ := (hb.cell (World.block_lt_of_cell? _ _ (hHeld.2.2.2.2.2.2.1))).trans (hHeld.2.2.2.2.2.2.1)
  have HS7_ := (hb.cell (World.block_lt_of_cell? _ _ (hHeld.2.2.2.2.2.2.2.1))).trans (hHeld.2.2.2.2.2.2.2.1)
  have HS8_ := (hb.cell (World.block_lt_of_cell? _ _ (hHeld.2.2.2.2.2.2.2.2.1))).trans (hHeld.2.2.2.2.2.2.2.2.1)
  have HS9_ := (hb.cell (World.block_lt_of_cell? _ _ (hHeld.2.2.2.2.2.2.2.2.2.1))).trans (hHeld.2.2.2.2.2.2.2.2.2.1)
  have HS10_ := (hb.cell (World.block_lt_of_cell? _ _ (hHeld.2.2.2.2.2.2.2.2.2.2.1))).trans (hHeld.2.2.2.2.2.2.2.2.2.2.1)
  have HS11_ := (hb.cell (World.block_lt_of_cell? _ _ (hHeld.2.2.2.2.2.2.2.2.2.2.2.1))).trans (hHeld.2.2.2.2.2.2.2.2.2.2.2.1)
  have HS12_ := (hb.cell (World.block_lt_of_cell? _ _ (hHeld.2.2.2.2.2.2.2.2.2.2.2.2))).trans (hHeld.2.2.2.2.2.2.2.2.2.2.2.2)
  refine ⟨_, rfl, ?_⟩
  have n0_ := Aside0.mk (Kd.S_below (zS HO739) hb)
  have n1_ := Aside0.mk (Kd.R_below (zO HL743_2) hb)
  have n2_ := Aside0.mk (Kd.R_below (zO HL743_5) hb)
  have n3_ := Aside0.mk (Kd.R_below (zO HL744_2) hb)
  have n4_ := Aside0.mk (Kd.R_below (zO HL744_5) hb)
  have n5_ := Aside0.mk (blk_below (g := gb735) (o := .cells #[.slice (some ad743) t737.length co109] 22 (0, 0)) (zK BK735) hb)
  have n6_ := Aside0.mk (blk_below (g := gb742) (o := .cells #[.int .i64 t740] 3 (0, 0)) (zK BK742) hb)
  have n7_ := Aside0.mk (Kd.C_below (by repeat (first | (with_reducible exact HR743_2.out) | (with_reducible refine Kd.C_alloc ?_ _) | (with_reducible refine Kd.C_drewN ?_ _) | (with_reducible refine Kd.C_drew ?_) | exact HR743_2.out)) hb)
  have n8_ := Aside0.mk (Kd.C_below (by repeat (first | (with_reducible exact HR743_5.out) | (with_reducible refine Kd.C_alloc ?_ _) | (with_reducible refine Kd.C_drewN ?_ _) | (with_reducible refine Kd.C_drew ?_) | exact HR743_5.out)) hb)
  have n9_ := Aside0.mk (Kd.C_below (by repeat (first | (with_reducible exact HR744_2.out) | (with_reducible refine Kd.C_alloc ?_ _) | (with_reducible refine Kd.C_drewN ?_ _) | (with_reducible refine Kd.C_drew ?_) | exact HR744_2.out)) hb)
  have n10_ := Aside0.mk (Kd.C_below (by repeat (first | (with_reducible exact HR744_5.out) | (with_reducible refine Kd.C_alloc ?_ _) | (with_reducible refine Kd.C_drewN ?_ _) | (with_reducible refine Kd.C_drew ?_) | exact HR744_5.out)) hb)
  have n11_ := Aside0.mk (below_step zB hb)
  clear HO739
  clear HL743_2
  clear HL743_5
  clear HL744_2
  clear HL744_5
  clear BK735
  clear BK742
  clear HR743_2
  clear HR743_5
  clear HR744_2
  clear HR744_5
  clear HB
  have HO739 := n0_
  have HL743_2 := n1_
  have HL743_5 := n2_
  have HL744_2 := n3_
  have HL744_5 := n4_
  have BK735 := n5_
  have BK742 := n6_
  have HR743_2 := n7_
  have HR743_5 := n8_
  have HR744_2 := n9_
  have HR744_5 := n10_
  have HB := n11_
  clear n0_ n1_ n2_ n3_ n4_ n5_ n6_ n7_ n8_ n9_ n10_ n11_
  (try clear hb)
  (try clear hb2)
  (try clear hk)
  (try clear hi)
  refine hK.out _ _ ⟨zT BK735 0, HS1_, HS2_, HS3_, HS4_, HS5_, HS6_, HS7_, HS8_, HS9_, HS10_, HS11_, HS12_⟩ (fun hHeld => ?_)
  clear hK K
  refine norm_ (a' := ?_) ?_ ?_
  rotate_left
  · show Act.put _ (some 28) _ = _; simp only [Act.put, sA, s0, sS, i64_w, i32_w]; rfl
  refine pu 7 (some 21) (bm 12 255) HT_ ?_
  refine pu 8 (some 29) (bm 12 511) HT_ ?_
  refine pu 9 (some 30) (bm 12 1023) HT_ ?_
  refine pu 10 (some 5) (bm 12 2047) HT_ ?_
  refine pu 11 (some 6) (bm 12 4095) HT_ ?_
  refine done_ (done_of HT_.out (by kernel_rfl)) ?_
  try go_wp2
  have n0_ := Aside0.mk (Kd.S_drew HO739.out)
  have n1_ := Aside0.mk (Kd.R_drew HL743_2.out)
  have n2_ := Aside0.mk (Kd.R_drew HL743_5.out)
  have n3_ := Aside0.mk (Kd.R_drew HL744_2.out)
  have n4_ := Aside0.mk (Kd.R_drew HL744_5.out)
  have n5_ := Aside0.mk (blk_drew BK735.out)
  have n6_ := Aside0.mk (blk_drew BK742.out)
  have n7_ := Aside0.mk (Kd.C_drew HR743_2.out)
  have n8_ := Aside0.mk (Kd.C_drew HR743_5.out)
  have n9_ := Aside0.mk (Kd.C_drew HR744_2.out)
  have n10_ := Aside0.mk (Kd.C_drew HR744_5.out)
  have n11_ := Aside0.mk (below_drew1 HB.out)
  clear HO739
  clear HL743_2
  clear HL743_5
  clear HL744_2
  clear HL744_5
  clear BK735
  clear BK742
  clear HR743_2
  clear HR743_5
  clear HR744_2
  clear HR744_5
  clear HB
  have HO739 := n0_
  have HL743_2 := n1_
  have HL743_5 := n2_
  have HL744_2 := n3_
  have HL744_5 := n4_
  have BK735 := n5_
  have BK742 := n6_
  have HR743_2 := n7_
  have HR743_5 := n8_
  have HR744_2 := n9_
  have HR744_5 := n10_
  have HB := n11_
  clear n0_ n1_ n2_ n3_ n4_ n5_ n6_ n7_ n8_ n9_ n10_ n11_
  have p747 : 0 ≤ (1 : Int) := (by omega)
  have q747 : 1 < (t737.length : Int) := od
  obtain ⟨ad747, A747_2, c747_2, A747_5, c747_5, e747, hx747_0, hx747_1, hx747_2, hx747_3, hx747_4, hx747_5, hl747_2, hi747_2, hl747_5, hi747_5⟩ := at_T31 (Kd.S_reads' HO739.out).2.2 1 p747 q747
  obtain rfl : ad743 = ad747 := (by injection e747)
  obtain ⟨ce747, hce747, hMe747, hcc747⟩ := Kd.S_get HO739.out z31 1 p747 (by first | exact q747 | exact od | (have e_ := (Kd.S_reads' HO739.out).1; omega))
  obtain ⟨ve747_2, ve747_5, rfl, ge747_2, ge747_5⟩ := k31_openM hMe747
  have hv747_2 := hcc747 2 _ rfl
  rw [add_field _ _ 2 (by omega)] at hv747_2
  replace hv747_2 := Option.some.inj (hv747_2.symm.trans hx747_2)
  rw [hv747_2] at ge747_2
  have HL747_2 := Aside0.mk (show Kd.R (Kd.int .i64) 3 _ _ _ _ ((rd_T31 t737 1).f1) from ge747_2)
  clear hv747_2 ge747_2
  have hv747_5 := hcc747 5 _ rfl
  rw [add_field _ _ 5 (by omega)] at hv747_5
  replace hv747_5 := Option.some.inj (hv747_5.symm.trans hx747_5)
  rw [hv747_5] at ge747_5
  have HL747_5 := Aside0.mk (show Kd.R (Kd.int .i64) 3 _ _ _ _ ((rd_T31 t737 1).f4) from ge747_5)
  clear hv747_5 ge747_5
  clear hcc747 hce747
  (try simp only [show (1 : Int).toNat = 1 from rfl, Nat.reduceMul, Nat.reduceEqDiff, Go.Addr.add, ↓reduceIte] at hx747_0)
  (try simp only [show (1 : Int).toNat = 1 from rfl, Nat.reduceMul, Nat.reduceEqDiff, Go.Addr.add, ↓reduceIte] at hx747_1)
  (try simp only [show (1 : Int).toNat = 1 from rfl, Nat.reduceMul, Nat.reduceEqDiff, Go.Addr.add, ↓reduceIte] at hx747_2)
  (try simp only [show (1 : Int).toNat = 1 from rfl, Nat.reduceMul, Nat.reduceEqDiff, Go.Addr.add, ↓reduceIte] at hx747_3)
  (try simp only [show (1 : Int).toNat = 1 from rfl, Nat.reduceMul, Nat.reduceEqDiff, Go.Addr.add, ↓reduceIte] at hx747_4)
  (try simp only [show (1 : Int).toNat = 1 from rfl, Nat.reduceMul, Nat.reduceEqDiff, Go.Addr.add, ↓reduceIte] at hx747_5)
  have qi747 : (1 < t737.length) = True := eq_true (by omega)
  (try rw [show ((1 : Int)).toNat = 1 from rfl] at hx747_0)
  (try rw [show 1 * 6 = 6 from rfl] at hx747_0)
  (try rw [show ((1 : Int)).toNat = 1 from rfl] at hx747_1)
  (try rw [show 1 * 6 = 6 from rfl] at hx747_1)
  (try rw [show ((1 : Int)).toNat = 1 from rfl] at hx747_2)
  (try rw [show 1 * 6 = 6 from rfl] at hx747_2)
  (try rw [show ((1 : Int)).toNat = 1 from rfl] at hx747_3)
  (try rw [show 1 * 6 = 6 from rfl] at hx747_3)
  (try rw [show ((1 : Int)).toNat = 1 from rfl] at hx747_4)
  (try rw [show 1 * 6 = 6 from rfl] at hx747_4)
  (try rw [show ((1 : Int)).toNat = 1 from rfl] at hx747_5)
  (try rw [show 1 * 6 = 6 from rfl] at hx747_5)
  have HR747_2 := Aside0.mk hi747_2
  have HC747_2 := Aside0.mk hl747_2
  clear hi747_2 hl747_2
  have HR747_5 := Aside0.mk hi747_5
  have HC747_5 := Aside0.mk hl747_5
  clear hi747_5 hl747_5
  replace p747 := eq_true p747
  replace q747 := eq_true q747
  have p748 : 0 ≤ (0 : Int) := (by omega)
  have q748 : 0 < (t737.length : Int) := od
  obtain ⟨ad748, A748_2, c748_2, A748_5, c748_5, e748, hx748_0, hx748_1, hx748_2, hx748_3, hx748_4, hx748_5, hl748_2, hi748_2, hl748_5, hi748_5⟩ := at_T31 (Kd.S_reads' HO739.out).2.2 0 p748 q748
  obtain rfl : ad743 = ad748 := (by injection e748)
  obtain ⟨ce748, hce748, hMe748, hcc748⟩ := Kd.S_get HO739.out z31 0 p748 (by first | exact q748 | exact od | (have e_ := (Kd.S_reads' HO739.out).1; omega))
  obtain ⟨ve748_2, ve748_5, rfl, ge748_2, ge748_5⟩ := k31_openM hMe748
  have hv748_2 := hcc748 2 _ rfl
  rw [add_field _ _ 2 (by omega)] at hv748_2
  replace hv748_2 := Option.some.inj (hv748_2.symm.trans hx748_2)
  rw [hv748_2] at ge748_2
  have HL748_2 := Aside0.mk (show Kd.R (Kd.int .i64) 3 _ _ _ _ ((rd_T31 t737 0).f1) from ge748_2)
  clear hv748_2 ge748_2
  have hv748_5 := hcc748 5 _ rfl
  rw [add_field _ _ 5 (by omega)] at hv748_5
  replace hv748_5 := Option.some.inj (hv748_5.symm.trans hx748_5)
  rw [hv748_5] at ge748_5
  have HL748_5 := Aside0.mk (show Kd.R (Kd.int .i64) 3 _ _ _ _ ((rd_T31 t737 0).f4) from ge748_5)
  clear hv748_5 ge748_5
  clear hcc748 hce748
  have qi748 : (0 < t737.length) = True := eq_true (by omega)
  (try rw [show ((0 : Int)).toNat = 0 from rfl] at hx748_0)
  (try rw [show 0 * 6 = 0 from rfl] at hx748_0)
  (try rw [Addr.add_zero'] at hx748_0)
  (try rw [show ((0 : Int)).toNat = 0 from rfl] at hx748_1)
  (try rw [show 0 * 6 = 0 from rfl] at hx748_1)
  (try rw [Addr.add_zero'] at hx748_1)
  (try rw [show ((0 : Int)).toNat = 0 from rfl] at hx748_2)
  (try rw [show 0 * 6 = 0 from rfl] at hx748_2)
  (try rw [Addr.add_zero'] at hx748_2)
  (try rw [show ((0 : Int)).toNat = 0 from rfl] at hx748_3)
  (try rw [show 0 * 6 = 0 from rfl] at hx748_3)
  (try rw [Addr.add_zero'] at hx748_3)
  (try rw [show ((0 : Int)).toNat = 0 from rfl] at hx748_4)
  (try rw [show 0 * 6 = 0 from rfl] at hx748_4)
  (try rw [Addr.add_zero'] at hx748_4)
  (try rw [show ((0 : Int)).toNat = 0 from rfl] at hx748_5)
  (try rw [show 0 * 6 = 0 from rfl] at hx748_5)
  (try rw [Addr.add_zero'] at hx748_5)
  have HR748_2 := Aside0.mk hi748_2
  have HC748_2 := Aside0.mk hl748_2
  clear hi748_2 hl748_2
  have HR748_5 := Aside0.mk hi748_5
  have HC748_5 := Aside0.mk hl748_5
  clear hi748_5 hl748_5
  replace p748 := eq_true p748
  replace q748 := eq_true q748
  refine start_ (n := 12) (S := fun w' => w'.cell? ⟨gb735, 0, none⟩ = some (.slice (some ad743) t737.length co109) ∧ w'.cell? ⟨ad743.block, ad743.off + 6, none⟩ = some (.int .u32 ((rd_T31 t737 1).f0.f0)) ∧ w'.cell? ⟨ad743.block, ad743.off + 6 + 1, none⟩ = some (.int .i64 ((rd_T31 t737 1).f0.f1)) ∧ w'.cell? ⟨ad743.block, ad743.off + 6 + 2, none⟩ = some (.slice A747_2 ((rd_T31 t737 1).f1).length c747_2) ∧ w'.cell? ⟨ad743.block, ad743.off + 6 + 3, none⟩ = some (.int .i64 ((rd_T31 t737 1).f2)) ∧ w'.cell? ⟨ad743.block, ad743.off + 6 + 4, none⟩ = some (.int .i64 ((rd_T31 t737 1).f3)) ∧ w'.cell? ⟨ad743.block, ad743.off + 6 + 5, none⟩ = some (.slice A747_5 ((rd_T31 t737 1).f4).length c747_5) ∧ w'.cell? ad743 = some (.int .u32 ((rd_T31 t737 0).f0.f0)) ∧ w'.cell? ⟨ad743.block, ad743.off + 1, none⟩ = some (.int .i64 ((rd_T31 t737 0).f0.f1)) ∧ w'.cell? ⟨ad743.block, ad743.off + 2, none⟩ = some (.slice A748_2 ((rd_T31 t737 0).f1).length c748_2) ∧ w'.cell? ⟨ad743.block, ad743.off + 3, none⟩ = some (.int .i64 ((rd_T31 t737 0).f2)) ∧ w'.cell? ⟨ad743.block, ad743.off + 4, none⟩ = some (.int .i64 ((rd_T31 t737 0).f3)) ∧ w'.cell? ⟨ad743.block, ad743.off + 5, none⟩ = some (.slice A748_5 ((rd_T31 t737 0).f4).length c748_5)) (ds := []) (bm 12 0) (by kernel_rfl) rfl rfl ⟨zT BK735 0, hx747_0, hx747_1, hx747_2, hx747_3, hx747_4, hx747_5, hx748_0, hx748_1, hx748_2, hx748_3, hx748_4, hx748_5⟩ (fun hHeld => ?_); refine with_tabW g8_.tab8 g8_.bits8 (fun HT_ HW_ => ?_)
  generalize w117.drew = w118 at HO739 HL743_2 HL743_5 HL744_2 HL744_5 BK735 BK742 HR743_2 HR743_5 HR744_2 HR744_5 HB HL747_2 HL747_5 HL748_2 HL748_5 HR747_2 HR747_5 HR748_2 HR748_5 hx747_0 hx747_1 hx747_2 hx747_3 hx747_4 hx747_5 hx748_0 hx748_1 hx748_2 hx748_3 hx748_4 hx748_5 hHeld ⊢
  refine tk 0 (some 32) (bm 12 1) HT_ HW_ hHeld ?_
  refine pu 1 (some 33) (bm 12 3) HT_ ?_
  refine tk 2 (some 34) (bm 12 7) HT_ HW_ hHeld ?_
  refine tk 3 (some 35) (bm 12 15) HT_ HW_ hHeld ?_
  refine pu 4 (some 36) (bm 12 31) HT_ ?_
  refine tk 5 (some 37) (bm 12 63) HT_ HW_ hHeld ?_
  refine one_ (i := 6) (N := some 38) (bm 12 127) rfl rfl (one_of HT_.out (by kernel_rfl)) (by decide) (fun K hK => ?_)
  refine goes_ Tryd.func11 (by kernel_rfl) rfl #[.agg #[.int .u32 ((rd_T31 t737 1).f0.f0), .int .i64 ((rd_T31 t737 1).f0.f1), .slice A747_2 ((rd_T31 t737 1).f1).length c747_2, .int .i64 ((rd_T31 t737 1).f2), .int .i64 ((rd_T31 t737 1).f3), .slice A747_5 ((rd_T31 t737 1).f4).length c747_5], .agg #[.int .u32 ((rd_T31 t737 0).f0.f0), .int .i64 ((rd_T31 t737 0).f0.f1), .slice A748_2 ((rd_T31 t737 0).f1).length c748_2, .int .i64 ((rd_T31 t737 0).f2), .int .i64 ((rd_T31 t737 0).f3), .slice A748_5 ((rd_T31 t737 0).f4).length c748_5]] (by rfl) rfl rfl zM ?_
  with_reducible refine (best_Better.calls k ((rd_T31 t737 1).f0.f0) ((rd_T31 t737 1).f0.f1) _ _ ((rd_T31 t737 1).f1) ((rd_T31 t737 1).f2) ((rd_T31 t737 1).f3) _ _ ((rd_T31 t737 1).f4) ((rd_T31 t737 0).f0.f0) ((rd_T31 t737 0).f0.f1) _ _ ((rd_T31 t737 0).f1) ((rd_T31 t737 0).f2) ((rd_T31 t737 0).f3) _ _ ((rd_T31 t737 0).f4) t749 t750 _ ?side1 ?side2 ?side3 ?side4 ?side5 ?side6 ?side7 ?side8 A16.out).mono ?_
  (case side1 => repeat (first | exact (by repeat (first | (with_reducible exact HR747_2.out) | (with_reducible refine Kd.C_alloc ?_ _) | (with_reducible refine Kd.C_drewN ?_ _) | (with_reducible refine Kd.C_drew ?_) | exact HR747_2.out)) | (with_reducible refine Kd.C_alloc ?_ _) | (with_reducible refine Kd.C_drewN ?_ _) | (with_reducible refine Kd.C_drew ?_)))
  (case side2 => exact HC747_2.out)
  (case side3 => repeat (first | exact (by repeat (first | (with_reducible exact HR747_5.out) | (with_reducible refine Kd.C_alloc ?_ _) | (with_reducible refine Kd.C_drewN ?_ _) | (with_reducible refine Kd.C_drew ?_) | exact HR747_5.out)) | (with_reducible refine Kd.C_alloc ?_ _) | (with_reducible refine Kd.C_drewN ?_ _) | (with_reducible refine Kd.C_drew ?_)))
  (case side4 => exact HC747_5.out)
  (case side5 => repeat (first | exact (by repeat (first | (with_reducible exact HR748_2.out) | (with_reducible refine Kd.C_alloc ?_ _) | (with_reducible refine Kd.C_drewN ?_ _) | (with_reducible refine Kd.C_drew ?_) | exact HR748_2.out)) | (with_reducible refine Kd.C_alloc ?_ _) | (with_reducible refine Kd.C_drewN ?_ _) | (with_reducible refine Kd.C_drew ?_)))
  (case side6 => exact HC748_2.out)
  (case side7 => repeat (first | exact (by repeat (first | (with_reducible exact HR748_5.out) | (with_reducible refine Kd.C_alloc ?_ _) | (with_reducible refine Kd.C_drewN ?_ _) | (with_reducible refine Kd.C_drew ?_) | exact HR748_5.out)) | (with_reducible refine Kd.C_alloc ?_ _) | (with_reducible refine Kd.C_drewN ?_ _) | (with_reducible refine Kd.C_drew ?_)))
  (case side8 => exact HC748_5.out)
  rintro e w119 ⟨rfl, hb⟩
  have HS1_ := (hb.cell (World.block_lt_of_cell? _ _ (hHeld.2.1))).trans (hHeld.2.1)
  have HS2_ := (hb.cell (World.block_lt_of_cell? _ _ (hHeld.2.2.1))).trans (hHeld.2.2.1)
  have HS3_ := (hb.cell (World.block_lt_of_cell? _ _ (hHeld.2.2.2.1))).trans (hHeld.2.2.2.1)
  have HS4_ := (hb.cell (World.block_lt_of_cell? _ _ (hHeld.2.2.2.2.1))).trans (hHeld.2.2.2.2.1)
  have HS5_ := (hb.cell (World.block_lt_of_cell? _ _ (hHeld.2.2.2.2.2.1))).trans (hHeld.2.2.2.2.2.1)
  have HS6_ := (hb.cell (World.block_lt_of_cell? _ _ (hHeld.2.2.2.2.2.2.1))).trans (hHeld.2.2.2.2.2.2.1)
  have HS7_ := (hb.cell (World.block_lt_of_cell? _ _ (hHeld.2.2.2.2.2.2.2.1))).trans (hHeld.2.2.2.2.2.2.2.1)
  have HS8_ := (hb.cell (World.block_lt_of_cell? _ _ (hHeld.2.2.2.2.2.2.2.2.1))).trans (hHeld.2.2.2.2.2.2.2.2.1)
  have HS9_ := (hb.cell (World.block_lt_of_cell? _ _ (hHeld.2.2.2.2.2.2.2.2.2.1))).trans (hHeld.2.2.2.2.2.2.2.2.2.1)
  have HS10_ := (hb.cell (World.block_lt_of_cell? _ _ (hHeld.2.2.2.2.2.2.2.2.2.2.1))).trans (hHeld.2.2.2.2.2.2.2.2.2.2.1)
  have HS11_ := (hb.cell (World.block_lt_of_cell? _ _ (hHeld.2.2.2.2.2.2.2.2.2.2.2.1))).trans (hHeld.2.2.2.2.2.2.2.2.2.2.2.1)
  have HS12_ := (hb.cell (World.block_lt_of_cell? _ _ (hHeld.2.2.2.2.2.2.2.2.2.2.2.2))).trans (hHeld.2.2.2.2.2.2.2.2.2.2.2.2)
  refine ⟨_, rfl, ?_⟩
  have n0_ := Aside0.mk (Kd.S_below (zS HO739) hb)
  have n1_ := Aside0.mk (Kd.R_below (zO HL743_2) hb)
  have n2_ := Aside0.mk (Kd.R_below (zO HL743_5) hb)
  have n3_ := Aside0.mk (Kd.R_below (zO HL744_2) hb)
  have n4_ := Aside0.mk (Kd.R_below (zO HL744_5) hb)
  have n5_ := Aside0.mk (Kd.R_below (zO HL747_2) hb)
  have n6_ := Aside0.mk (Kd.R_below (zO HL747_5) hb)
  have n7_ := Aside0.mk (Kd.R_below (zO HL748_2) hb)
  have n8_ := Aside0.mk (Kd.R_below (zO HL748_5) hb)
  have n9_ := Aside0.mk (blk_below (g := gb735) (o := .cells #[.slice (some ad743) t737.length co109] 22 (0, 0)) (zK BK735) hb)
  have n10_ := Aside0.mk (blk_below (g := gb742) (o := .cells #[.int .i64 t740] 3 (0, 0)) (zK BK742) hb)
  have n11_ := Aside0.mk (Kd.C_below (by repeat (first | (with_reducible exact HR743_2.out) | (with_reducible refine Kd.C_alloc ?_ _) | (with_reducible refine Kd.C_drewN ?_ _) | (with_reducible refine Kd.C_drew ?_) | exact HR743_2.out)) hb)
  have n12_ := Aside0.mk (Kd.C_below (by repeat (first | (with_reducible exact HR743_5.out) | (with_reducible refine Kd.C_alloc ?_ _) | (with_reducible refine Kd.C_drewN ?_ _) | (with_reducible refine Kd.C_drew ?_) | exact HR743_5.out)) hb)
  have n13_ := Aside0.mk (Kd.C_below (by repeat (first | (with_reducible exact HR744_2.out) | (with_reducible refine Kd.C_alloc ?_ _) | (with_reducible refine Kd.C_drewN ?_ _) | (with_reducible refine Kd.C_drew ?_) | exact HR744_2.out)) hb)
  have n14_ := Aside0.mk (Kd.C_below (by repeat (first | (with_reducible exact HR744_5.out) | (with_reducible refine Kd.C_alloc ?_ _) | (with_reducible refine Kd.C_drewN ?_ _) | (with_reducible refine Kd.C_drew ?_) | exact HR744_5.out)) hb)
  have n15_ := Aside0.mk (Kd.C_below (by repeat (first | (with_reducible exact HR747_2.out) | (with_reducible refine Kd.C_alloc ?_ _) | (with_reducible refine Kd.C_drewN ?_ _) | (with_reducible refine Kd.C_drew ?_) | exact HR747_2.out)) hb)
  have n16_ := Aside0.mk (Kd.C_below (by repeat (first | (with_reducible exact HR747_5.out) | (with_reducible refine Kd.C_alloc ?_ _) | (with_reducible refine Kd.C_drewN ?_ _) | (with_reducible refine Kd.C_drew ?_) | exact HR747_5.out)) hb)
  have n17_ := Aside0.mk (Kd.C_below (by repeat (first | (with_reducible exact HR748_2.out) | (with_reducible refine Kd.C_alloc ?_ _) | (with_reducible refine Kd.C_drewN ?_ _) | (with_reducible refine Kd.C_drew ?_) | exact HR748_2.out)) hb)
  have n18_ := Aside0.mk (Kd.C_below (by repeat (first | (with_reducible exact HR748_5.out) | (with_reducible refine Kd.C_alloc ?_ _) | (with_reducible refine Kd.C_drewN ?_ _) | (with_reducible refine Kd.C_drew ?_) | exact HR748_5.out)) hb)
  have n19_ := Aside0.mk (below_step zB hb)
  clear HO739
  clear HL743_2
  clear HL743_5
  clear HL744_2
  clear HL744_5
  clear HL747_2
  clear HL747_5
  clear HL748_2
  clear HL748_5
  clear BK735
  clear BK742
  clear HR743_2
  clear HR743_5
  clear HR744_2
  clear HR744_5
  clear HR747_2
  clear HR747_5
  clear HR748_2
  clear HR748_5
  clear HB
  have HO739 := n0_
  have HL743_2 := n1_
  have HL743_5 := n2_
  have HL744_2 := n3_
  have HL744_5 := n4_
  have HL747_2 := n5_
  have HL747_5 := n6_
  have HL748_2 := n7_
  have HL748_5 := n8_
  have BK735 := n9_
  have BK742 := n10_
  have HR743_2 := n11_
  have HR743_5 := n12_
  have HR744_2 := n13_
  have HR744_5 := n14_
  have HR747_2 := n15_
  have HR747_5 := n16_
  have HR748_2 := n17_
  have HR748_5 := n18_
  have HB := n19_
  clear n0_ n1_ n2_ n3_ n4_ n5_ n6_ n7_ n8_ n9_ n10_ n11_ n12_ n13_ n14_ n15_ n16_ n17_ n18_ n19_
  (try clear hb)
  (try clear hb2)
  (try clear hk)
  (try clear hi)
  refine hK.out _ _ ⟨zT BK735 0, HS1_, HS2_, HS3_, HS4_, HS5_, HS6_, HS7_, HS8_, HS9_, HS10_, HS11_, HS12_⟩ (fun hHeld => ?_)
  clear hK K
  refine norm_ (a' := ?_) ?_ ?_
  rotate_left
  · show Act.put _ (some 38) _ = _; simp only [Act.put, sA, s0, sS, i64_w, i32_w]; rfl
  refine pu 7 (some 31) (bm 12 255) HT_ ?_
  refine pu 8 (some 39) (bm 12 511) HT_ ?_
  refine pu 9 (some 40) (bm 12 1023) HT_ ?_
  refine pu 10 (some 7) (bm 12 2047) HT_ ?_
  refine pu 11 (some 8) (bm 12 4095) HT_ ?_
  refine done_ (done_of HT_.out (by kernel_rfl)) ?_
  try go_wp2
  go_ret
  exact ⟨zE, zB⟩
 rw [if_pos c18] at H
 have c18b0 : (t746 == 0) = true := beq_iff_eq.mpr c18
 have c18b1 : (t746 != 0) = false := bne_eq_false_iff_eq.mpr c18
 clear c18
 by_cases c19 : t750 = 0
 rotate_left
 ·
  rw [if_neg c19] at H
  have c19b0 : (t750 == 0) = false := beq_eq_false_iff_ne.mpr c19
  have c19b1 : (t750 != 0) = true := bne_iff_ne.mpr c19
  obtain rfl := Option.some.inj H
  go_enter Tryd.func4, Tryd.ntmps4
  try go_wp2_with (first | ((with_reducible refine gate_dst (N := 1) rfl ?_); (try (refine gate_guard (by rfl) ?_; dsimp only)); refine bx 1 (#[.slice A0 l0.length c0]) 22 ?_; intro gb735 hg w90 hbox hb; have n0_ := Aside0.mk (below_step zB hb); have n1_ := Aside0.mk (hbox); have n2_ := Aside0.mk ((zG hg : w.heap.size ≤ gb735)); have n3_ := Aside0.mk ((zG hg : w.heap.size ≤ gb735)); clear HB; have HB := n0_; have BK735 := n1_; have GW735 := n2_; have GE735 := n3_; clear n0_ n1_ n2_ n3_; clear hb hbox hg) | ((with_reducible refine gate_callee (f := 6) rfl ?_); refine goesL_ (some 9) rfl rfl Tryd.func6 (by kernel_rfl) rfl #[] rfl zM ?_; (with_reducible refine (g15_.calls k  true _ A2.out).mono ?_); rintro e w91 ⟨rfl, hb⟩; refine ⟨_, rfl, ?_⟩; have n0_ := Aside0.mk (blk_below (g := gb735) (o := .cells #[.slice A0 l0.length c0] 22 (0, 0)) (zK BK735) hb); have n1_ := Aside0.mk (below_step zB hb); clear BK735; clear HB; have BK735 := n0_; have HB := n1_; clear n0_ n1_; (try clear hb); (try clear hb2); (try clear hk); (try clear hi); have hcz92_0 : w91.cell? ⟨gb735, 0, none⟩ = some (.slice A0 l0.length c0) := zT BK735 0; have hfz92_0 := blk_frozen BK735.out 0) | ((with_reducible refine gate_callee (f := 7) rfl ?_); refine goesL_ (some 12) rfl rfl Tryd.func7 (by kernel_rfl) rfl #[.slice A0 l0.length c0, .int .i64 5] rfl zM ?_; (with_reducible refine (g11_.calls k _ _ l0 5 t737 _ ?side1 ?side2 ?side3 ?side4 A4.out).mono ?_); (case side1 => exact zC HR0 HB); (case side2 => exact HC0.out); (case side3 => exact (Below.cell zB (World.block_lt_of_cell? w _ GL0_0.out)).trans GL0_0.out); (case side4 => exact (Below.cell zB (World.block_lt_of_cell? w _ GL0_1.out)).trans GL0_1.out); rintro e w93 ⟨v738, rfl, ho0, hb⟩; refine ⟨_, rfl, ?_⟩; have n0_ := Aside0.mk (Kd.S_lower ho0 (below_size zB)); have n1_ := Aside0.mk (blk_below (g := gb735) (o := .cells #[.slice A0 l0.length c0] 22 (0, 0)) (zK BK735) hb); have n2_ := Aside0.mk (below_step zB hb); clear BK735; clear HB; have HO739 := n0_; have BK735 := n1_; have HB := n2_; clear n0_ n1_ n2_; (try clear hb); (try clear hb2); (try clear hk); (try clear hi); (try clear ho0); obtain ⟨Ao94, co94, eo94⟩ := Kd.S_slice HO739.out; subst eo94; have hcz95_0 : w93.cell? ⟨gb735, 0, none⟩ = some (.slice A0 l0.length c0) := zT BK735 0; have hfz95_0 := blk_frozen BK735.out 0) | ((with_reducible refine gate_callee (f := 9) rfl ?_); refine goesL_ (some 18) rfl rfl Tryd.func9 (by kernel_rfl) rfl #[.slice Ao94 t737.length co94] rfl zM ?_; (with_reducible refine (best_Choose.calls k _ _ t737 t740 t741 _ ?side1 ?side2 A12.out).mono ?_); (case side1 => refine (Kd.S_reads' (e := 31) (base := w.heap.size) (ok := fun k_ => True) (n := t737.length) (c := co94) ?_).2.2; exact (by (with_reducible repeat (first | apply Kd.S_alloc | apply Kd.S_drewN | apply Kd.S_drew)); exact (Kd.S_mono (Kd.S_far (p := ⟨gb735, 0, none⟩) (Kd.S_types HO739.out BK735.out (by decide)) (fun _ hk => hk.2) (.slice Ao94 t737.length co94)) (fun _ h_ => h_.1)))); (case side2 => exact (Kd.S_reads' HO739.out).2.1); rintro e w96 ⟨rfl, hb⟩; refine ⟨_, rfl, ?_⟩; have n0_ := Aside0.mk (Kd.S_below (by (with_reducible repeat (first | apply Kd.S_alloc | apply Kd.S_drewN | apply Kd.S_drew)); exact (Kd.S_mono (Kd.S_far (p := ⟨gb735, 0, none⟩) (Kd.S_types HO739.out BK735.out (by decide)) (fun _ hk => hk.2) (.slice Ao94 t737.length co94)) (fun _ h_ => h_.1))) hb); have n1_ := Aside0.mk (blk_below (g := gb735) (o := .cells #[.slice Ao94 t737.length co94] 22 (0, 0)) (by (with_reducible repeat (first | refine blk_drewN ?_ _ | refine blk_drew ?_ | refine blk_alloc ?_ _)); refine blk_put (cs := #[.slice A0 l0.length c0]) ?_ 0 _ rfl; (with_reducible repeat (first | refine blk_drewN ?_ _ | refine blk_drew ?_ | refine blk_alloc ?_ _)); exact BK735.out) hb); have n2_ := Aside0.mk (below_step zB hb); clear HO739; clear BK735; clear HB; have HO739 := n0_; have BK735 := n1_; have HB := n2_; clear n0_ n1_ n2_; (try clear hb); (try clear hb2); (try clear hk); (try clear hi)) | ((with_reducible refine gate_dst (N := 3) rfl ?_); (try (refine gate_guard (by rfl) ?_; dsimp only)); refine bx 3 (#[.int .i64 0]) 3 ?_; intro gb742 hg w97 hbox hb; have n0_ := Aside0.mk (Kd.S_below (Kd.S_elderB (zS HO739) gb742 (Nat.le_of_eq hg.symm)) hb); have n1_ := Aside0.mk (blk_below (g := gb735) (o := .cells #[.slice Ao94 t737.length co94] 22 (0, 0)) (zK BK735) hb); have n2_ := Aside0.mk (below_step zB hb); have n3_ := Aside0.mk (hbox); have n4_ := Aside0.mk ((zG hg : w.heap.size ≤ gb742)); have n5_ := Aside0.mk ((zG hg : w.heap.size ≤ gb742)); have n6_ := Aside0.mk ((by rw [hg]; exact Nat.ne_of_lt (blk_lt (g := gb735) (o := .cells #[.slice Ao94 t737.length co94] 22 (0, 0)) (zK BK735)) : gb735 ≠ gb742)); have n7_ := Aside0.mk ((by rw [hg]; exact Nat.ne_of_gt (blk_lt (g := gb735) (o := .cells #[.slice Ao94 t737.length co94] 22 (0, 0)) (zK BK735)) : gb742 ≠ gb735)); clear HO739; clear BK735; clear HB; have HO739 := n0_; have BK735 := n1_; have HB := n2_; have BK742 := n3_; have GW742 := n4_; have GE742 := n5_; have NB735_742 := n6_; have NB742_735 := n7_; clear n0_ n1_ n2_ n3_ n4_ n5_ n6_ n7_; clear hb hbox hg; have hnb98 := NB742_735.out; have hnc98 := NB735_742.out; have hcz99_0 : w97.cell? ⟨gb742, 0, none⟩ = some (.int .i64 0) := zT BK742 0; have hfz99_0 := blk_frozen BK742.out 0))
  have n0_ : Aside0 (Kd.S k31 31 (w97.setCell ⟨gb742, 0, none⟩ (.int .i64 t740)) w.heap.size (fun k_ => k_ ≠ gb742) (.slice Ao94 t737.length co94) t737) := ⟨by (with_reducible repeat (first | apply Kd.S_alloc | apply Kd.S_drewN | apply Kd.S_drew)); exact Kd.S_mono (Kd.S_far (p := ⟨gb742, 0, none⟩) (Kd.S_mono HO739.out (fun k_ hk => (⟨hk, hk.2⟩ : _ ∧ k_ ≠ gb742))) (fun _ hk => hk.2) (.int .i64 t740)) (fun _ hk => hk.1.2)⟩
  have n1_ : Aside0 ((w97.setCell ⟨gb742, 0, none⟩ (.int .i64 t740)).heap[gb735]? = some (.cells #[.slice Ao94 t737.length co94] 22 (0, 0))) := ⟨by (with_reducible repeat (first | refine blk_drewN ?_ _ | refine blk_drew ?_ | refine blk_alloc ?_ _)); refine blk_far ?_ NB735_742.out _; (with_reducible repeat (first | refine blk_drewN ?_ _ | refine blk_drew ?_ | refine blk_alloc ?_ _)); exact BK735.out⟩
  have n2_ : Aside0 ((w97.setCell ⟨gb742, 0, none⟩ (.int .i64 t740)).heap[gb742]? = some (.cells #[.int .i64 t740] 3 (0, 0))) := ⟨by (with_reducible repeat (first | refine blk_drewN ?_ _ | refine blk_drew ?_ | refine blk_alloc ?_ _)); refine blk_put (cs := #[.int .i64 0]) ?_ 0 _ rfl; (with_reducible repeat (first | refine blk_drewN ?_ _ | refine blk_drew ?_ | refine blk_alloc ?_ _)); exact BK742.out⟩
  have n3_ : Aside0 (Below w.heap.size w (w97.setCell ⟨gb742, 0, none⟩ (.int .i64 t740))) := ⟨zB⟩
  (try clear HO739)
  (try clear BK735)
  (try clear BK742)
  (try clear HB)
  generalize (w97.setCell ⟨gb742, 0, none⟩ (.int .i64 t740)) = w100 at n0_ n1_ n2_ n3_ ⊢
  have HO739 := n0_
  have BK735 := n1_
  have BK742 := n2_
  have HB := n3_
  clear n0_ n1_ n2_ n3_
  have n0_ := Aside0.mk (Kd.S_drew HO739.out)
  have n1_ := Aside0.mk (blk_drew BK735.out)
  have n2_ := Aside0.mk (blk_drew BK742.out)
  have n3_ := Aside0.mk (below_drew1 HB.out)
  clear HO739
  clear BK735
  clear BK742
  clear HB
  have HO739 := n0_
  have BK735 := n1_
  have BK742 := n2_
  have HB := n3_
  clear n0_ n1_ n2_ n3_
  have p743 : 0 ≤ (0 : Int) := (by omega)
  have q743 : 0 < (t737.length : Int) := od
  obtain ⟨ad743, A743_2, c743_2, A743_5, c743_5, e743, hx743_0, hx743_1, hx743_2, hx743_3, hx743_4, hx743_5, hl743_2, hi743_2, hl743_5, hi743_5⟩ := at_T31 (Kd.S_reads' HO739.out).2.2 0 p743 q743
  cases e743
  obtain ⟨ce743, hce743, hMe743, hcc743⟩ := Kd.S_get HO739.out z31 0 p743 (by first | exact q743 | exact od | (have e_ := (Kd.S_reads' HO739.out).1; omega))
  obtain ⟨ve743_2, ve743_5, rfl, ge743_2, ge743_5⟩ := k31_openM hMe743
  have hv743_2 := hcc743 2 _ rfl
  rw [add_field _ _ 2 (by omega)] at hv743_2
  replace hv743_2 := Option.some.inj (hv743_2.symm.trans hx743_2)
  rw [hv743_2] at ge743_2
  have HL743_2 := Aside0.mk (show Kd.R (Kd.int .i64) 3 _ _ _ _ ((rd_T31 t737 0).f1) from ge743_2)
  clear hv743_2 ge743_2
  have hv743_5 := hcc743 5 _ rfl
  rw [add_field _ _ 5 (by omega)] at hv743_5
  replace hv743_5 := Option.some.inj (hv743_5.symm.trans hx743_5)
  rw [hv743_5] at ge743_5
  have HL743_5 := Aside0.mk (show Kd.R (Kd.int .i64) 3 _ _ _ _ ((rd_T31 t737 0).f4) from ge743_5)
  clear hv743_5 ge743_5
  clear hcc743 hce743
  have qi743 : (0 < t737.length) = True := eq_true (by omega)
  (try rw [show ((0 : Int)).toNat = 0 from rfl] at hx743_0)
  (try rw [show 0 * 6 = 0 from rfl] at hx743_0)
  (try rw [Addr.add_zero'] at hx743_0)
  (try rw [show ((0 : Int)).toNat = 0 from rfl] at hx743_1)
  (try rw [show 0 * 6 = 0 from rfl] at hx743_1)
  (try rw [Addr.add_zero'] at hx743_1)
  (try rw [show ((0 : Int)).toNat = 0 from rfl] at hx743_2)
  (try rw [show 0 * 6 = 0 from rfl] at hx743_2)
  (try rw [Addr.add_zero'] at hx743_2)
  (try rw [show ((0 : Int)).toNat = 0 from rfl] at hx743_3)
  (try rw [show 0 * 6 = 0 from rfl] at hx743_3)
  (try rw [Addr.add_zero'] at hx743_3)
  (try rw [show ((0 : Int)).toNat = 0 from rfl] at hx743_4)
  (try rw [show 0 * 6 = 0 from rfl] at hx743_4)
  (try rw [Addr.add_zero'] at hx743_4)
  (try rw [show ((0 : Int)).toNat = 0 from rfl] at hx743_5)
  (try rw [show 0 * 6 = 0 from rfl] at hx743_5)
  (try rw [Addr.add_zero'] at hx743_5)
  have HR743_2 := Aside0.mk hi743_2
  have HC743_2 := Aside0.mk hl743_2
  clear hi743_2 hl743_2
  have HR743_5 := Aside0.mk hi743_5
  have HC743_5 := Aside0.mk hl743_5
  clear hi743_5 hl743_5
  replace p743 := eq_true p743
  replace q743 := eq_true q743
  have p744 : 0 ≤ (1 : Int) := (by omega)
  have q744 : 1 < (t737.length : Int) := od
  obtain ⟨ad744, A744_2, c744_2, A744_5, c744_5, e744, hx744_0, hx744_1, hx744_2, hx744_3, hx744_4, hx744_5, hl744_2, hi744_2, hl744_5, hi744_5⟩ := at_T31 (Kd.S_reads' HO739.out).2.2 1 p744 q744
  obtain rfl : ad743 = ad744 := (by injection e744)
  obtain ⟨ce744, hce744, hMe744, hcc744⟩ := Kd.S_get HO739.out z31 1 p744 (by first | exact q744 | exact od | (have e_ := (Kd.S_reads' HO739.out).1; omega))
  obtain ⟨ve744_2, ve744_5, rfl, ge744_2, ge744_5⟩ := k31_openM hMe744
  have hv744_2 := hcc744 2 _ rfl
  rw [add_field _ _ 2 (by omega)] at hv744_2
  replace hv744_2 := Option.some.inj (hv744_2.symm.trans hx744_2)
  rw [hv744_2] at ge744_2
  have HL744_2 := Aside0.mk (show Kd.R (Kd.int .i64) 3 _ _ _ _ ((rd_T31 t737 1).f1) from ge744_2)
  clear hv744_2 ge744_2
  have hv744_5 := hcc744 5 _ rfl
  rw [add_field _ _ 5 (by omega)] at hv744_5
  replace hv744_5 := Option.some.inj (hv744_5.symm.trans hx744_5)
  rw [hv744_5] at ge744_5
  have HL744_5 := Aside0.mk (show Kd.R (Kd.int .i64) 3 _ _ _ _ ((rd_T31 t737 1).f4) from ge744_5)
  clear hv744_5 ge744_5
  clear hcc744 hce744
  (try simp only [show (1 : Int).toNat = 1 from rfl, Nat.reduceMul, Nat.reduceEqDiff, Go.Addr.add, ↓reduceIte] at hx744_0)
  (try simp only [show (1 : Int).toNat = 1 from rfl, Nat.reduceMul, Nat.reduceEqDiff, Go.Addr.add, ↓reduceIte] at hx744_1)
  (try simp only [show (1 : Int).toNat = 1 from rfl, Nat.reduceMul, Nat.reduceEqDiff, Go.Addr.add, ↓reduceIte] at hx744_2)
  (try simp only [show (1 : Int).toNat = 1 from rfl, Nat.reduceMul, Nat.reduceEqDiff, Go.Addr.add, ↓reduceIte] at hx744_3)
  (try simp only [show (1 : Int).toNat = 1 from rfl, Nat.reduceMul, Nat.reduceEqDiff, Go.Addr.add, ↓reduceIte] at hx744_4)
  (try simp only [show (1 : Int).toNat = 1 from rfl, Nat.reduceMul, Nat.reduceEqDiff, Go.Addr.add, ↓reduceIte] at hx744_5)
  have qi744 : (1 < t737.length) = True := eq_true (by omega)
  (try rw [show ((1 : Int)).toNat = 1 from rfl] at hx744_0)
  (try rw [show 1 * 6 = 6 from rfl] at hx744_0)
  (try rw [show ((1 : Int)).toNat = 1 from rfl] at hx744_1)
  (try rw [show 1 * 6 = 6 from rfl] at hx744_1)
  (try rw [show ((1 : Int)).toNat = 1 from rfl] at hx744_2)
  (try rw [show 1 * 6 = 6 from rfl] at hx744_2)
  (try rw [show ((1 : Int)).toNat = 1 from rfl] at hx744_3)
  (try rw [show 1 * 6 = 6 from rfl] at hx744_3)
  (try rw [show ((1 : Int)).toNat = 1 from rfl] at hx744_4)
  (try rw [show 1 * 6 = 6 from rfl] at hx744_4)
  (try rw [show ((1 : Int)).toNat = 1 from rfl] at hx744_5)
  (try rw [show 1 * 6 = 6 from rfl] at hx744_5)
  have HR744_2 := Aside0.mk hi744_2
  have HC744_2 := Aside0.mk hl744_2
  clear hi744_2 hl744_2
  have HR744_5 := Aside0.mk hi744_5
  have HC744_5 := Aside0.mk hl744_5
  clear hi744_5 hl744_5
  replace p744 := eq_true p744
  replace q744 := eq_true q744
  refine start_ (n := 12) (S := fun w' => w'.cell? ⟨gb735, 0, none⟩ = some (.slice (some ad743) t737.length co94) ∧ w'.cell? ad743 = some (.int .u32 ((rd_T31 t737 0).f0.f0)) ∧ w'.cell? ⟨ad743.block, ad743.off + 1, none⟩ = some (.int .i64 ((rd_T31 t737 0).f0.f1)) ∧ w'.cell? ⟨ad743.block, ad743.off + 2, none⟩ = some (.slice A743_2 ((rd_T31 t737 0).f1).length c743_2) ∧ w'.cell? ⟨ad743.block, ad743.off + 3, none⟩ = some (.int .i64 ((rd_T31 t737 0).f2)) ∧ w'.cell? ⟨ad743.block, ad743.off + 4, none⟩ = some (.int .i64 ((rd_T31 t737 0).f3)) ∧ w'.cell? ⟨ad743.block, ad743.off + 5, none⟩ = some (.slice A743_5 ((rd_T31 t737 0).f4).length c743_5) ∧ w'.cell? ⟨ad743.block, ad743.off + 6, none⟩ = some (.int .u32 ((rd_T31 t737 1).f0.f0)) ∧ w'.cell? ⟨ad743.block, ad743.off + 6 + 1, none⟩ = some (.int .i64 ((rd_T31 t737 1).f0.f1)) ∧ w'.cell? ⟨ad743.block, ad743.off + 6 + 2, none⟩ = some (.slice A744_2 ((rd_T31 t737 1).f1).length c744_2) ∧ w'.cell? ⟨ad743.block, ad743.off + 6 + 3, none⟩ = some (.int .i64 ((rd_T31 t737 1).f2)) ∧ w'.cell? ⟨ad743.block, ad743.off + 6 + 4, none⟩ = some (.int .i64 ((rd_T31 t737 1).f3)) ∧ w'.cell? ⟨ad743.block, ad743.off + 6 + 5, none⟩ = some (.slice A744_5 ((rd_T31 t737 1).f4).length c744_5)) (ds := []) (bm 12 0) (by kernel_rfl) rfl rfl ⟨zT BK735 0, hx743_0, hx743_1, hx743_2, hx743_3, hx743_4, hx743_5, hx744_0, hx744_1, hx744_2, hx744_3, hx744_4, hx744_5⟩ (fun hHeld => ?_); refine with_tabW g8_.tab7 g8_.bits7 (fun HT_ HW_ => ?_)
  generalize w100.drew = w101 at HO739 BK735 BK742 HB HL743_2 HL743_5 HL744_2 HL744_5 HR743_2 HR743_5 HR744_2 HR744_5 hx743_0 hx743_1 hx743_2 hx743_3 hx743_4 hx743_5 hx744_0 hx744_1 hx744_2 hx744_3 hx744_4 hx744_5 hHeld ⊢
  refine tk 0 (some 22) (bm 12 1) HT_ HW_ hHeld ?_
  refine pu 1 (some 23) (bm 12 3) HT_ ?_
  refine tk 2 (some 24) (bm 12 7) HT_ HW_ hHeld ?_
  refine tk 3 (some 25) (bm 12 15) HT_ HW_ hHeld ?_
  refine pu 4 (some 26) (bm 12 31) HT_ ?_
  refine tk 5 (some 27) (bm 12 63) HT_ HW_ hHeld ?_
  refine one_ (i := 6) (N := some 28) (bm 12 127) rfl rfl (one_of HT_.out (by kernel_rfl)) (by decide) (fun K hK => ?_)
  refine goes_ Tryd.func11 (by kernel_rfl) rfl #[.agg #[.int .u32 ((rd_T31 t737 0).f0.f0), .int .i64 ((rd_T31 t737 0).f0.f1), .slice A743_2 ((rd_T31 t737 0).f1).length c743_2, .int .i64 ((rd_T31 t737 0).f2), .int .i64 ((rd_T31 t737 0).f3), .slice A743_5 ((rd_T31 t737 0).f4).length c743_5], .agg #[.int .u32 ((rd_T31 t737 1).f0.f0), .int .i64 ((rd_T31 t737 1).f0.f1), .slice A744_2 ((rd_T31 t737 1).f1).length c744_2, .int .i64 ((rd_T31 t737 1).f2), .int .i64 ((rd_T31 t737 1).f3), .slice A744_5 ((rd_T31 t737 1).f4).length c744_5]] (by rfl) rfl rfl zM ?_
  with_reducible refine (best_Better.calls k ((rd_T31 t737 0).f0.f0) ((rd_T31 t737 0).f0.f1) _ _ ((rd_T31 t737 0).f1) ((rd_T31 t737 0).f2) ((rd_T31 t737 0).f3) _ _ ((rd_T31 t737 0).f4) ((rd_T31 t737 1).f0.f0) ((rd_T31 t737 1).f0.f1) _ _ ((rd_T31 t737 1).f1) ((rd_T31 t737 1).f2) ((rd_T31 t737 1).f3) _ _ ((rd_T31 t737 1).f4) t745 t746 _ ?side1 ?side2 ?side3 ?side4 ?side5 ?side6 ?side7 ?side8 A15.out).mono ?_
  (case side1 => repeat (first | exact (by repeat (first | (with_reducible exact HR743_2.out) | (with_reducible refine Kd.C_alloc ?_ _) | (with_reducible refine Kd.C_drewN ?_ _) | (with_reducible refine Kd.C_drew ?_) | exact HR743_2.out)) | (with_reducible refine Kd.C_alloc ?_ _) | (with_reducible refine Kd.C_drewN ?_ _) | (with_reducible refine Kd.C_drew ?_)))
  (case side2 => exact HC743_2.out)
  (case side3 => repeat (first | exact (by repeat (first | (with_reducible exact HR743_5.out) | (with_reducible refine Kd.C_alloc ?_ _) | (with_reducible refine Kd.C_drewN ?_ _) | (with_reducible refine Kd.C_drew ?_) | exact HR743_5.out)) | (with_reducible refine Kd.C_alloc ?_ _) | (with_reducible refine Kd.C_drewN ?_ _) | (with_reducible refine Kd.C_drew ?_)))
  (case side4 => exact HC743_5.out)
  (case side5 => repeat (first | exact (by repeat (first | (with_reducible exact HR744_2.out) | (with_reducible refine Kd.C_alloc ?_ _) | (with_reducible refine Kd.C_drewN ?_ _) | (with_reducible refine Kd.C_drew ?_) | exact HR744_2.out)) | (with_reducible refine Kd.C_alloc ?_ _) | (with_reducible refine Kd.C_drewN ?_ _) | (with_reducible refine Kd.C_drew ?_)))
  (case side6 => exact HC744_2.out)
  (case side7 => repeat (first | exact (by repeat (first | (with_reducible exact HR744_5.out) | (with_reducible refine Kd.C_alloc ?_ _) | (with_reducible refine Kd.C_drewN ?_ _) | (with_reducible refine Kd.C_drew ?_) | exact HR744_5.out)) | (with_reducible refine Kd.C_alloc ?_ _) | (with_reducible refine Kd.C_drewN ?_ _) | (with_reducible refine Kd.C_drew ?_)))
  (case side8 => exact HC744_5.out)
  rintro e w102 ⟨rfl, hb⟩
  have HS1_ := (hb.cell (World.block_lt_of_cell? _ _ (hHeld.2.1))).trans (hHeld.2.1)
  have HS2_ := (hb.cell (World.block_lt_of_cell? _ _ (hHeld.2.2.1))).trans (hHeld.2.2.1)
  have HS3_ := (hb.cell (World.block_lt_of_cell? _ _ (hHeld.2.2.2.1))).trans (hHeld.2.2.2.1)
  have HS4_ := (hb.cell (World.block_lt_of_cell? _ _ (hHeld.2.2.2.2.1))).trans (hHeld.2.2.2.2.1)
  have HS5_ := (hb.cell (World.block_lt_of_cell? _ _ (hHeld.2.2.2.2.2.1))).trans (hHeld.2.2.2.2.2.1)
  have HS6_ := (hb.cell (World.block_lt_of_cell? _ _ (hHeld.2.2.2.2.2.2.1))).trans (hHeld.2.2.2.2.2.2.1)
  have HS7_ := (hb.cell (World.block_lt_of_cell? _ _ (hHeld.2.2.2.2.2.2.2.1))).trans (hHeld.2.2.2.2.2.2.2.1)
  have HS8_ := (hb.cell (World.block_lt_of_cell? _ _ (hHeld.2.2.2.2.2.2.2.2.1))).trans (hHeld.2.2.2.2.2.2.2.2.1)
  have HS9_ := (hb.cell (World.block_lt_of_cell? _ _ (hHeld.2.2.2.2.2.2.2.2.2.1))).trans (hHeld.2.2.2.2.2.2.2.2.2.1)
  have HS10_ := (hb.cell (World.block_lt_of_cell? _ _ (hHeld.2.2.2.2.2.2.2.2.2.2.1))).trans (hHeld.2.2.2.2.2.2.2.2.2.2.1)
  have HS11_ := (hb.cell (World.block_lt_of_cell? _ _ (hHeld.2.2.2.2.2.2.2.2.2.2.2.1))).trans (hHeld.2.2.2.2.2.2.2.2.2.2.2.1)
  have HS12_ := (hb.cell (World.block_lt_of_cell? _ _ (hHeld.2.2.2.2.2.2.2.2.2.2.2.2))).trans (hHeld.2.2.2.2.2.2.2.2.2.2.2.2)
  refine ⟨_, rfl, ?_⟩
  have n0_ := Aside0.mk (Kd.S_below (zS HO739) hb)
  have n1_ := Aside0.mk (Kd.R_below (zO HL743_2) hb)
  have n2_ := Aside0.mk (Kd.R_below (zO HL743_5) hb)
  have n3_ := Aside0.mk (Kd.R_below (zO HL744_2) hb)
  have n4_ := Aside0.mk (Kd.R_below (zO HL744_5) hb)
  have n5_ := Aside0.mk (blk_below (g := gb735) (o := .cells #[.slice (some ad743) t737.length co94] 22 (0, 0)) (zK BK735) hb)
  have n6_ := Aside0.mk (blk_below (g := gb742) (o := .cells #[.int .i64 t740] 3 (0, 0)) (zK BK742) hb)
  have n7_ := Aside0.mk (Kd.C_below (by repeat (first | (with_reducible exact HR743_2.out) | (with_reducible refine Kd.C_alloc ?_ _) | (with_reducible refine Kd.C_drewN ?_ _) | (with_reducible refine Kd.C_drew ?_) | exact HR743_2.out)) hb)
  have n8_ := Aside0.mk (Kd.C_below (by repeat (first | (with_reducible exact HR743_5.out) | (with_reducible refine Kd.C_alloc ?_ _) | (with_reducible refine Kd.C_drewN ?_ _) | (with_reducible refine Kd.C_drew ?_) | exact HR743_5.out)) hb)
  have n9_ := Aside0.mk (Kd.C_below (by repeat (first | (with_reducible exact HR744_2.out) | (with_reducible refine Kd.C_alloc ?_ _) | (with_reducible refine Kd.C_drewN ?_ _) | (with_reducible refine Kd.C_drew ?_) | exact HR744_2.out)) hb)
  have n10_ := Aside0.mk (Kd.C_below (by repeat (first | (with_reducible exact HR744_5.out) | (with_reducible refine Kd.C_alloc ?_ _) | (with_reducible refine Kd.C_drewN ?_ _) | (with_reducible refine Kd.C_drew ?_) | exact HR744_5.out)) hb)
  have n11_ := Aside0.mk (below_step zB hb)
  clear HO739
  clear HL743_2
  clear HL743_5
  clear HL744_2
  clear HL744_5
  clear BK735
  clear BK742
  clear HR743_2
  clear HR743_5
  clear HR744_2
  clear HR744_5
  clear HB
  have HO739 := n0_
  have HL743_2 := n1_
  have HL743_5 := n2_
  have HL744_2 := n3_
  have HL744_5 := n4_
  have BK735 := n5_
  have BK742 := n6_
  have HR743_2 := n7_
  have HR743_5 := n8_
  have HR744_2 := n9_
  have HR744_5 := n10_
  have HB := n11_
  clear n0_ n1_ n2_ n3_ n4_ n5_ n6_ n7_ n8_ n9_ n10_ n11_
  (try clear hb)
  (try clear hb2)
  (try clear hk)
  (try clear hi)
  refine hK.out _ _ ⟨zT BK735 0, HS1_, HS2_, HS3_, HS4_, HS5_, HS6_, HS7_, HS8_, HS9_, HS10_, HS11_, HS12_⟩ (fun hHeld => ?_)
  clear hK K
  refine norm_ (a' := ?_) ?_ ?_
  rotate_left
  · show Act.put _ (some 28) _ = _; simp only [Act.put, sA, s0, sS, i64_w, i32_w]; rfl
  refine pu 7 (some 21) (bm 12 255) HT_ ?_
  refine pu 8 (some 29) (bm 12 511) HT_ ?_
  refine pu 9 (some 30) (bm 12 1023) HT_ ?_
  refine pu 10 (some 5) (bm 12 2047) HT_ ?_
  refine pu 11 (some 6) (bm 12 4095) HT_ ?_
  refine done_ (done_of HT_.out (by kernel_rfl)) ?_
  try go_wp2
  have n0_ := Aside0.mk (Kd.S_drew HO739.out)
  have n1_ := Aside0.mk (Kd.R_drew HL743_2.out)
  have n2_ := Aside0.mk (Kd.R_drew HL743_5.out)
  have n3_ := Aside0.mk (Kd.R_drew HL744_2.out)
  have n4_ := Aside0.mk (Kd.R_drew HL744_5.out)
  have n5_ := Aside0.mk (blk_drew BK735.out)
  have n6_ := Aside0.mk (blk_drew BK742.out)
  have n7_ := Aside0.mk (Kd.C_drew HR743_2.out)
  have n8_ := Aside0.mk (Kd.C_drew HR743_5.out)
  have n9_ := Aside0.mk (Kd.C_drew HR744_2.out)
  have n10_ := Aside0.mk (Kd.C_drew HR744_5.out)
  have n11_ := Aside0.mk (below_drew1 HB.out)
  clear HO739
  clear HL743_2
  clear HL743_5
  clear HL744_2
  clear HL744_5
  clear BK735
  clear BK742
  clear HR743_2
  clear HR743_5
  clear HR744_2
  clear HR744_5
  clear HB
  have HO739 := n0_
  have HL743_2 := n1_
  have HL743_5 := n2_
  have HL744_2 := n3_
  have HL744_5 := n4_
  have BK735 := n5_
  have BK742 := n6_
  have HR743_2 := n7_
  have HR743_5 := n8_
  have HR744_2 := n9_
  have HR744_5 := n10_
  have HB := n11_
  clear n0_ n1_ n2_ n3_ n4_ n5_ n6_ n7_ n8_ n9_ n10_ n11_
  have p747 : 0 ≤ (1 : Int) := (by omega)
  have q747 : 1 < (t737.length : Int) := od
  obtain ⟨ad747, A747_2, c747_2, A747_5, c747_5, e747, hx747_0, hx747_1, hx747_2, hx747_3, hx747_4, hx747_5, hl747_2, hi747_2, hl747_5, hi747_5⟩ := at_T31 (Kd.S_reads' HO739.out).2.2 1 p747 q747
  obtain rfl : ad743 = ad747 := (by injection e747)
  obtain ⟨ce747, hce747, hMe747, hcc747⟩ := Kd.S_get HO739.out z31 1 p747 (by first | exact q747 | exact od | (have e_ := (Kd.S_reads' HO739.out).1; omega))
  obtain ⟨ve747_2, ve747_5, rfl, ge747_2, ge747_5⟩ := k31_openM hMe747
  have hv747_2 := hcc747 2 _ rfl
  rw [add_field _ _ 2 (by omega)] at hv747_2
  replace hv747_2 := Option.some.inj (hv747_2.symm.trans hx747_2)
  rw [hv747_2] at ge747_2
  have HL747_2 := Aside0.mk (show Kd.R (Kd.int .i64) 3 _ _ _ _ ((rd_T31 t737 1).f1) from ge747_2)
  clear hv747_2 ge747_2
  have hv747_5 := hcc747 5 _ rfl
  rw [add_field _ _ 5 (by omega)] at hv747_5
  replace hv747_5 := Option.some.inj (hv747_5.symm.trans hx747_5)
  rw [hv747_5] at ge747_5
  have HL747_5 := Aside0.mk (show Kd.R (Kd.int .i64) 3 _ _ _ _ ((rd_T31 t737 1).f4) from ge747_5)
  clear hv747_5 ge747_5
  clear hcc747 hce747
  (try simp only [show (1 : Int).toNat = 1 from rfl, Nat.reduceMul, Nat.reduceEqDiff, Go.Addr.add, ↓reduceIte] at hx747_0)
  (try simp only [show (1 : Int).toNat = 1 from rfl, Nat.reduceMul, Nat.reduceEqDiff, Go.Addr.add, ↓reduceIte] at hx747_1)
  (try simp only [show (1 : Int).toNat = 1 from rfl, Nat.reduceMul, Nat.reduceEqDiff, Go.Addr.add, ↓reduceIte] at hx747_2)
  (try simp only [show (1 : Int).toNat = 1 from rfl, Nat.reduceMul, Nat.reduceEqDiff, Go.Addr.add, ↓reduceIte] at hx747_3)
  (try simp only [show (1 : Int).toNat = 1 from rfl, Nat.reduceMul, Nat.reduceEqDiff, Go.Addr.add, ↓reduceIte] at hx747_4)
  (try simp only [show (1 : Int).toNat = 1 from rfl, Nat.reduceMul, Nat.reduceEqDiff, Go.Addr.add, ↓reduceIte] at hx747_5)
  have qi747 : (1 < t737.length) = True := eq_true (by omega)
  (try rw [show ((1 : Int)).toNat = 1 from rfl] at hx747_0)
  (try rw [show 1 * 6 = 6 from rfl] at hx747_0)
  (try rw [show ((1 : Int)).toNat = 1 from rfl] at hx747_1)
  (try rw [show 1 * 6 = 6 from rfl] at hx747_1)
  (try rw [show ((1 : Int)).toNat = 1 from rfl] at hx747_2)
  (try rw [show 1 * 6 = 6 from rfl] at hx747_2)
  (try rw [show ((1 : Int)).toNat = 1 from rfl] at hx747_3)
  (try rw [show 1 * 6 = 6 from rfl] at hx747_3)
  (try rw [show ((1 : Int)).toNat = 1 from rfl] at hx747_4)
  (try rw [show 1 * 6 = 6 from rfl] at hx747_4)
  (try rw [show ((1 : Int)).toNat = 1 from rfl] at hx747_5)
  (try rw [show 1 * 6 = 6 from rfl] at hx747_5)
  have HR747_2 := Aside0.mk hi747_2
  have HC747_2 := Aside0.mk hl747_2
  clear hi747_2 hl747_2
  have HR747_5 := Aside0.mk hi747_5
  have HC747_5 := Aside0.mk hl747_5
  clear hi747_5 hl747_5
  replace p747 := eq_true p747
  replace q747 := eq_true q747
  have p748 : 0 ≤ (0 : Int) := (by omega)
  have q748 : 0 < (t737.length : Int) := od
  obtain ⟨ad748, A748_2, c748_2, A748_5, c748_5, e748, hx748_0, hx748_1, hx748_2, hx748_3, hx748_4, hx748_5, hl748_2, hi748_2, hl748_5, hi748_5⟩ := at_T31 (Kd.S_reads' HO739.out).2.2 0 p748 q748
  obtain rfl : ad743 = ad748 := (by injection e748)
  obtain ⟨ce748, hce748, hMe748, hcc748⟩ := Kd.S_get HO739.out z31 0 p748 (by first | exact q748 | exact od | (have e_ := (Kd.S_reads' HO739.out).1; omega))
  obtain ⟨ve748_2, ve748_5, rfl, ge748_2, ge748_5⟩ := k31_openM hMe748
  have hv748_2 := hcc748 2 _ rfl
  rw [add_field _ _ 2 (by omega)] at hv748_2
  replace hv748_2 := Option.some.inj (hv748_2.symm.trans hx748_2)
  rw [hv748_2] at ge748_2
  have HL748_2 := Aside0.mk (show Kd.R (Kd.int .i64) 3 _ _ _ _ ((rd_T31 t737 0).f1) from ge748_2)
  clear hv748_2 ge748_2
  have hv748_5 := hcc748 5 _ rfl
  rw [add_field _ _ 5 (by omega)] at hv748_5
  replace hv748_5 := Option.some.inj (hv748_5.symm.trans hx748_5)
  rw [hv748_5] at ge748_5
  have HL748_5 := Aside0.mk (show Kd.R (Kd.int .i64) 3 _ _ _ _ ((rd_T31 t737 0).f4) from ge748_5)
  clear hv748_5 ge748_5
  clear hcc748 hce748
  have qi748 : (0 < t737.length) = True := eq_true (by omega)
  (try rw [show ((0 : Int)).toNat = 0 from rfl] at hx748_0)
  (try rw [show 0 * 6 = 0 from rfl] at hx748_0)
  (try rw [Addr.add_zero'] at hx748_0)
  (try rw [show ((0 : Int)).toNat = 0 from rfl] at hx748_1)
  (try rw [show 0 * 6 = 0 from rfl] at hx748_1)
  (try rw [Addr.add_zero'] at hx748_1)
  (try rw [show ((0 : Int)).toNat = 0 from rfl] at hx748_2)
  (try rw [show 0 * 6 = 0 from rfl] at hx748_2)
  (try rw [Addr.add_zero'] at hx748_2)
  (try rw [show ((0 : Int)).toNat = 0 from rfl] at hx748_3)
  (try rw [show 0 * 6 = 0 from rfl] at hx748_3)
  (try rw [Addr.add_zero'] at hx748_3)
  (try rw [show ((0 : Int)).toNat = 0 from rfl] at hx748_4)
  (try rw [show 0 * 6 = 0 from rfl] at hx748_4)
  (try rw [Addr.add_zero'] at hx748_4)
  (try rw [show ((0 : Int)).toNat = 0 from rfl] at hx748_5)
  (try rw [show 0 * 6 = 0 from rfl] at hx748_5)
  (try rw [Addr.add_zero'] at hx748_5)
  have HR748_2 := Aside0.mk hi748_2
  have HC748_2 := Aside0.mk hl748_2
  clear hi748_2 hl748_2
  have HR748_5 := Aside0.mk hi748_5
  have HC748_5 := Aside0.mk hl748_5
  clear hi748_5 hl748_5
  replace p748 := eq_true p748
  replace q748 := eq_true q748
  refine start_ (n := 12) (S := fun w' => w'.cell? ⟨gb735, 0, none⟩ = some (.slice (some ad743) t737.length co94) ∧ w'.cell? ⟨ad743.block, ad743.off + 6, none⟩ = some (.int .u32 ((rd_T31 t737 1).f0.f0)) ∧ w'.cell? ⟨ad743.block, ad743.off + 6 + 1, none⟩ = some (.int .i64 ((rd_T31 t737 1).f0.f1)) ∧ w'.cell? ⟨ad743.block, ad743.off + 6 + 2, none⟩ = some (.slice A747_2 ((rd_T31 t737 1).f1).length c747_2) ∧ w'.cell? ⟨ad743.block, ad743.off + 6 + 3, none⟩ = some (.int .i64 ((rd_T31 t737 1).f2)) ∧ w'.cell? ⟨ad743.block, ad743.off + 6 + 4, none⟩ = some (.int .i64 ((rd_T31 t737 1).f3)) ∧ w'.cell? ⟨ad743.block, ad743.off + 6 + 5, none⟩ = some (.slice A747_5 ((rd_T31 t737 1).f4).length c747_5) ∧ w'.cell? ad743 = some (.int .u32 ((rd_T31 t737 0).f0.f0)) ∧ w'.cell? ⟨ad743.block, ad743.off + 1, none⟩ = some (.int .i64 ((rd_T31 t737 0).f0.f1)) ∧ w'.cell? ⟨ad743.block, ad743.off + 2, none⟩ = some (.slice A748_2 ((rd_T31 t737 0).f1).length c748_2) ∧ w'.cell? ⟨ad743.block, ad743.off + 3, none⟩ = some (.int .i64 ((rd_T31 t737 0).f2)) ∧ w'.cell? ⟨ad743.block, ad743.off + 4, none⟩ = some (.int .i64 ((rd_T31 t737 0).f3)) ∧ w'.cell? ⟨ad743.block, ad743.off + 5, none⟩ = some (.slice A748_5 ((rd_T31 t737 0).f4).length c748_5)) (ds := []) (bm 12 0) (by kernel_rfl) rfl rfl ⟨zT BK735 0, hx747_0, hx747_1, hx747_2, hx747_3, hx747_4, hx747_5, hx748_0, hx748_1, hx748_2, hx748_3, hx748_4, hx748_5⟩ (fun hHeld => ?_); refine with_tabW g8_.tab8 g8_.bits8 (fun HT_ HW_ => ?_)
  generalize w102.drew = w103 at HO739 HL743_2 HL743_5 HL744_2 HL744_5 BK735 BK742 HR743_2 HR743_5 HR744_2 HR744_5 HB HL747_2 HL747_5 HL748_2 HL748_5 HR747_2 HR747_5 HR748_2 HR748_5 hx747_0 hx747_1 hx747_2 hx747_3 hx747_4 hx747_5 hx748_0 hx748_1 hx748_2 hx748_3 hx748_4 hx748_5 hHeld ⊢
  refine tk 0 (some 32) (bm 12 1) HT_ HW_ hHeld ?_
  refine pu 1 (some 33) (bm 12 3) HT_ ?_
  refine tk 2 (some 34) (bm 12 7) HT_ HW_ hHeld ?_
  refine tk 3 (some 35) (bm 12 15) HT_ HW_ hHeld ?_
  refine pu 4 (some 36) (bm 12 31) HT_ ?_
  refine tk 5 (some 37) (bm 12 63) HT_ HW_ hHeld ?_
  refine one_ (i := 6) (N := some 38) (bm 12 127) rfl rfl (one_of HT_.out (by kernel_rfl)) (by decide) (fun K hK => ?_)
  refine goes_ Tryd.func11 (by kernel_rfl) rfl #[.agg #[.int .u32 ((rd_T31 t737 1).f0.f0), .int .i64 ((rd_T31 t737 1).f0.f1), .slice A747_2 ((rd_T31 t737 1).f1).length c747_2, .int .i64 ((rd_T31 t737 1).f2), .int .i64 ((rd_T31 t737 1).f3), .slice A747_5 ((rd_T31 t737 1).f4).length c747_5], .agg #[.int .u32 ((rd_T31 t737 0).f0.f0), .int .i64 ((rd_T31 t737 0).f0.f1), .slice A748_2 ((rd_T31 t737 0).f1).length c748_2, .int .i64 ((rd_T31 t737 0).f2), .int .i64 ((rd_T31 t737 0).f3), .slice A748_5 ((rd_T31 t737 0).f4).length c748_5]] (by rfl) rfl rfl zM ?_
  with_reducible refine (best_Better.calls k ((rd_T31 t737 1).f0.f0) ((rd_T31 t737 1).f0.f1) _ _ ((rd_T31 t737 1).f1) ((rd_T31 t737 1).f2) ((rd_T31 t737 1).f3) _ _ ((rd_T31 t737 1).f4) ((rd_T31 t737 0).f0.f0) ((rd_T31 t737 0).f0.f1) _ _ ((rd_T31 t737 0).f1) ((rd_T31 t737 0).f2) ((rd_T31 t737 0).f3) _ _ ((rd_T31 t737 0).f4) t749 t750 _ ?side1 ?side2 ?side3 ?side4 ?side5 ?side6 ?side7 ?side8 A16.out).mono ?_
  (case side1 => repeat (first | exact (by repeat (first | (with_reducible exact HR747_2.out) | (with_reducible refine Kd.C_alloc ?_ _) | (with_reducible refine Kd.C_drewN ?_ _) | (with_reducible refine Kd.C_drew ?_) | exact HR747_2.out)) | (with_reducible refine Kd.C_alloc ?_ _) | (with_reducible refine Kd.C_drewN ?_ _) | (with_reducible refine Kd.C_drew ?_)))
  (case side2 => exact HC747_2.out)
  (case side3 => repeat (first | exact (by repeat (first | (with_reducible exact HR747_5.out) | (with_reducible refine Kd.C_alloc ?_ _) | (with_reducible refine Kd.C_drewN ?_ _) | (with_reducible refine Kd.C_drew ?_) | exact HR747_5.out)) | (with_reducible refine Kd.C_alloc ?_ _) | (with_reducible refine Kd.C_drewN ?_ _) | (with_reducible refine Kd.C_drew ?_)))
  (case side4 => exact HC747_5.out)
  (case side5 => repeat (first | exact (by repeat (first | (with_reducible exact HR748_2.out) | (with_reducible refine Kd.C_alloc ?_ _) | (with_reducible refine Kd.C_drewN ?_ _) | (with_reducible refine Kd.C_drew ?_) | exact HR748_2.out)) | (with_reducible refine Kd.C_alloc ?_ _) | (with_reducible refine Kd.C_drewN ?_ _) | (with_reducible refine Kd.C_drew ?_)))
  (case side6 => exact HC748_2.out)
  (case side7 => repeat (first | exact (by repeat (first | (with_reducible exact HR748_5.out) | (with_reducible refine Kd.C_alloc ?_ _) | (with_reducible refine Kd.C_drewN ?_ _) | (with_reducible refine Kd.C_drew ?_) | exact HR748_5.out)) | (with_reducible refine Kd.C_alloc ?_ _) | (with_reducible refine Kd.C_drewN ?_ _) | (with_reducible refine Kd.C_drew ?_)))
  (case side8 => exact HC748_5.out)
  rintro e w104 ⟨rfl, hb⟩
  have HS1_ := (hb.cell (World.block_lt_of_cell? _ _ (hHeld.2.1))).trans (hHeld.2.1)
  have HS2_ := (hb.cell (World.block_lt_of_cell? _ _ (hHeld.2.2.1))).trans (hHeld.2.2.1)
  have HS3_ := (hb.cell (World.block_lt_of_cell? _ _ (hHeld.2.2.2.1))).trans (hHeld.2.2.2.1)
  have HS4_ := (hb.cell (World.block_lt_of_cell? _ _ (hHeld.2.2.2.2.1))).trans (hHeld.2.2.2.2.1)
  have HS5_ := (hb.cell (World.block_lt_of_cell? _ _ (hHeld.2.2.2.2.2.1))).trans (hHeld.2.2.2.2.2.1)
  have HS6_ := (hb.cell (World.block_lt_of_cell? _ _ (hHeld.2.2.2.2.2.2.1))).trans (hHeld.2.2.2.2.2.2.1)
  have HS7_ := (hb.cell (World.block_lt_of_cell? _ _ (hHeld.2.2.2.2.2.2.2.1))).trans (hHeld.2.2.2.2.2.2.2.1)
  have HS8_ := (hb.cell (World.block_lt_of_cell? _ _ (hHeld.2.2.2.2.2.2.2.2.1))).trans (hHeld.2.2.2.2.2.2.2.2.1)
  have HS9_ := (hb.cell (World.block_lt_of_cell? _ _ (hHeld.2.2.2.2.2.2.2.2.2.1))).trans (hHeld.2.2.2.2.2.2.2.2.2.1)
  have HS10_ := (hb.cell (World.block_lt_of_cell? _ _ (hHeld.2.2.2.2.2.2.2.2.2.2.1))).trans (hHeld.2.2.2.2.2.2.2.2.2.2.1)
  have HS11_ := (hb.cell (World.block_lt_of_cell? _ _ (hHeld.2.2.2.2.2.2.2.2.2.2.2.1))).trans (hHeld.2.2.2.2.2.2.2.2.2.2.2.1)
  have HS12_ := (hb.cell (World.block_lt_of_cell? _ _ (hHeld.2.2.2.2.2.2.2.2.2.2.2.2))).trans (hHeld.2.2.2.2.2.2.2.2.2.2.2.2)
  refine ⟨_, rfl, ?_⟩
  have n0_ := Aside0.mk (Kd.S_below (zS HO739) hb)
  have n1_ := Aside0.mk (Kd.R_below (zO HL743_2) hb)
  have n2_ := Aside0.mk (Kd.R_below (zO HL743_5) hb)
  have n3_ := Aside0.mk (Kd.R_below (zO HL744_2) hb)
  have n4_ := Aside0.mk (Kd.R_below (zO HL744_5) hb)
  have n5_ := Aside0.mk (Kd.R_below (zO HL747_2) hb)
  have n6_ := Aside0.mk (Kd.R_below (zO HL747_5) hb)
  have n7_ := Aside0.mk (Kd.R_below (zO HL748_2) hb)
  have n8_ := Aside0.mk (Kd.R_below (zO HL748_5) hb)
  have n9_ := Aside0.mk (blk_below (g := gb735) (o := .cells #[.slice (some ad743) t737.length co94] 22 (0, 0)) (zK BK735) hb)
  have n10_ := Aside0.mk (blk_below (g := gb742) (o := .cells #[.int .i64 t740] 3 (0, 0)) (zK BK742) hb)
  have n11_ := Aside0.mk (Kd.C_below (by repeat (first | (with_reducible exact HR743_2.out) | (with_reducible refine Kd.C_alloc ?_ _) | (with_reducible refine Kd.C_drewN ?_ _) | (with_reducible refine Kd.C_drew ?_) | exact HR743_2.out)) hb)
  have n12_ := Aside0.mk (Kd.C_below (by repeat (first | (with_reducible exact HR743_5.out) | (with_reducible refine Kd.C_alloc ?_ _) | (with_reducible refine Kd.C_drewN ?_ _) | (with_reducible refine Kd.C_drew ?_) | exact HR743_5.out)) hb)
  have n13_ := Aside0.mk (Kd.C_below (by repeat (first | (with_reducible exact HR744_2.out) | (with_reducible refine Kd.C_alloc ?_ _) | (with_reducible refine Kd.C_drewN ?_ _) | (with_reducible refine Kd.C_drew ?_) | exact HR744_2.out)) hb)
  have n14_ := Aside0.mk (Kd.C_below (by repeat (first | (with_reducible exact HR744_5.out) | (with_reducible refine Kd.C_alloc ?_ _) | (with_reducible refine Kd.C_drewN ?_ _) | (with_reducible refine Kd.C_drew ?_) | exact HR744_5.out)) hb)
  have n15_ := Aside0.mk (Kd.C_below (by repeat (first | (with_reducible exact HR747_2.out) | (with_reducible refine Kd.C_alloc ?_ _) | (with_reducible refine Kd.C_drewN ?_ _) | (with_reducible refine Kd.C_drew ?_) | exact HR747_2.out)) hb)
  have n16_ := Aside0.mk (Kd.C_below (by repeat (first | (with_reducible exact HR747_5.out) | (with_reducible refine Kd.C_alloc ?_ _) | (with_reducible refine Kd.C_drewN ?_ _) | (with_reducible refine Kd.C_drew ?_) | exact HR747_5.out)) hb)
  have n17_ := Aside0.mk (Kd.C_below (by repeat (first | (with_reducible exact HR748_2.out) | (with_reducible refine Kd.C_alloc ?_ _) | (with_reducible refine Kd.C_drewN ?_ _) | (with_reducible refine Kd.C_drew ?_) | exact HR748_2.out)) hb)
  have n18_ := Aside0.mk (Kd.C_below (by repeat (first | (with_reducible exact HR748_5.out) | (with_reducible refine Kd.C_alloc ?_ _) | (with_reducible refine Kd.C_drewN ?_ _) | (with_reducible refine Kd.C_drew ?_) | exact HR748_5.out)) hb)
  have n19_ := Aside0.mk (below_step zB hb)
  clear HO739
  clear HL743_2
  clear HL743_5
  clear HL744_2
  clear HL744_5
  clear HL747_2
  clear HL747_5
  clear HL748_2
  clear HL748_5
  clear BK735
  clear BK742
  clear HR743_2
  clear HR743_5
  clear HR744_2
  clear HR744_5
  clear HR747_2
  clear HR747_5
  clear HR748_2
  clear HR748_5
  clear HB
  have HO739 := n0_
  have HL743_2 := n1_
  have HL743_5 := n2_
  have HL744_2 := n3_
  have HL744_5 := n4_
  have HL747_2 := n5_
  have HL747_5 := n6_
  have HL748_2 := n7_
  have HL748_5 := n8_
  have BK735 := n9_
  have BK742 := n10_
  have HR743_2 := n11_
  have HR743_5 := n12_
  have HR744_2 := n13_
  have HR744_5 := n14_
  have HR747_2 := n15_
  have HR747_5 := n16_
  have HR748_2 := n17_
  have HR748_5 := n18_
  have HB := n19_
  clear n0_ n1_ n2_ n3_ n4_ n5_ n6_ n7_ n8_ n9_ n10_ n11_ n12_ n13_ n14_ n15_ n16_ n17_ n18_ n19_
  (try clear hb)
  (try clear hb2)
  (try clear hk)
  (try clear hi)
  refine hK.out _ _ ⟨zT BK735 0, HS1_, HS2_, HS3_, HS4_, HS5_, HS6_, HS7_, HS8_, HS9_, HS10_, HS11_, HS12_⟩ (fun hHeld => ?_)
  clear hK K
  refine norm_ (a' := ?_) ?_ ?_
  rotate_left
  · show Act.put _ (some 38) _ = _; simp only [Act.put, sA, s0, sS, i64_w, i32_w]; rfl
  refine pu 7 (some 31) (bm 12 255) HT_ ?_
  refine pu 8 (some 39) (bm 12 511) HT_ ?_
  refine pu 9 (some 40) (bm 12 1023) HT_ ?_
  refine pu 10 (some 7) (bm 12 2047) HT_ ?_
  refine pu 11 (some 8) (bm 12 4095) HT_ ?_
  refine done_ (done_of HT_.out (by kernel_rfl)) ?_
  try go_wp2
  go_ret
  exact ⟨zE, zB⟩
 rw [if_pos c19] at H
 have c19b0 : (t750 == 0) = true := beq_iff_eq.mpr c19
 have c19b1 : (t750 != 0) = false := bne_eq_false_iff_eq.mpr c19
 clear c19
 by_cases c20 : t745 = (wrap64 (-t749))
 rotate_left
 ·
  rw [if_neg c20] at H
  have c20b0 : (t745 == (wrap64 (-t749))) = false := beq_eq_false_iff_ne.mpr c20
  have c20b1 : (t745 != (wrap64 (-t749))) = true := bne_iff_ne.mpr c20
  obtain rfl := Option.some.inj H
  go_enter Tryd.func4, Tryd.ntmps4
  try go_wp2_with (first | ((with_reducible refine gate_dst (N := 1) rfl ?_); (try (refine gate_guard (by rfl) ?_; dsimp only)); refine bx 1 (#[.slice A0 l0.length c0]) 22 ?_; intro gb735 hg w75 hbox hb; have n0_ := Aside0.mk (below_step zB hb); have n1_ := Aside0.mk (hbox); have n2_ := Aside0.mk ((zG hg : w.heap.size ≤ gb735)); have n3_ := Aside0.mk ((zG hg : w.heap.size ≤ gb735)); clear HB; have HB := n0_; have BK735 := n1_; have GW735 := n2_; have GE735 := n3_; clear n0_ n1_ n2_ n3_; clear hb hbox hg) | ((with_reducible refine gate_callee (f := 6) rfl ?_); refine goesL_ (some 9) rfl rfl Tryd.func6 (by kernel_rfl) rfl #[] rfl zM ?_; (with_reducible refine (g15_.calls k  true _ A2.out).mono ?_); rintro e w76 ⟨rfl, hb⟩; refine ⟨_, rfl, ?_⟩; have n0_ := Aside0.mk (blk_below (g := gb735) (o := .cells #[.slice A0 l0.length c0] 22 (0, 0)) (zK BK735) hb); have n1_ := Aside0.mk (below_step zB hb); clear BK735; clear HB; have BK735 := n0_; have HB := n1_; clear n0_ n1_; (try clear hb); (try clear hb2); (try clear hk); (try clear hi); have hcz77_0 : w76.cell? ⟨gb735, 0, none⟩ = some (.slice A0 l0.length c0) := zT BK735 0; have hfz77_0 := blk_frozen BK735.out 0) | ((with_reducible refine gate_callee (f := 7) rfl ?_); refine goesL_ (some 12) rfl rfl Tryd.func7 (by kernel_rfl) rfl #[.slice A0 l0.length c0, .int .i64 5] rfl zM ?_; (with_reducible refine (g11_.calls k _ _ l0 5 t737 _ ?side1 ?side2 ?side3 ?side4 A4.out).mono ?_); (case side1 => exact zC HR0 HB); (case side2 => exact HC0.out); (case side3 => exact (Below.cell zB (World.block_lt_of_cell? w _ GL0_0.out)).trans GL0_0.out); (case side4 => exact (Below.cell zB (World.block_lt_of_cell? w _ GL0_1.out)).trans GL0_1.out); rintro e w78 ⟨v738, rfl, ho0, hb⟩; refine ⟨_, rfl, ?_⟩; have n0_ := Aside0.mk (Kd.S_lower ho0 (below_size zB)); have n1_ := Aside0.mk (blk_below (g := gb735) (o := .cells #[.slice A0 l0.length c0] 22 (0, 0)) (zK BK735) hb); have n2_ := Aside0.mk (below_step zB hb); clear BK735; clear HB; have HO739 := n0_; have BK735 := n1_; have HB := n2_; clear n0_ n1_ n2_; (try clear hb); (try clear hb2); (try clear hk); (try clear hi); (try clear ho0); obtain ⟨Ao79, co79, eo79⟩ := Kd.S_slice HO739.out; subst eo79; have hcz80_0 : w78.cell? ⟨gb735, 0, none⟩ = some (.slice A0 l0.length c0) := zT BK735 0; have hfz80_0 := blk_frozen BK735.out 0) | ((with_reducible refine gate_callee (f := 9) rfl ?_); refine goesL_ (some 18) rfl rfl Tryd.func9 (by kernel_rfl) rfl #[.slice Ao79 t737.length co79] rfl zM ?_; (with_reducible refine (best_Choose.calls k _ _ t737 t740 t741 _ ?side1 ?side2 A12.out).mono ?_); (case side1 => refine (Kd.S_reads' (e := 31) (base := w.heap.size) (ok := fun k_ => True) (n := t737.length) (c := co79) ?_).2.2; exact (by (with_reducible repeat (first | apply Kd.S_alloc | apply Kd.S_drewN | apply Kd.S_drew)); exact (Kd.S_mono (Kd.S_far (p := ⟨gb735, 0, none⟩) (Kd.S_types HO739.out BK735.out (by decide)) (fun _ hk => hk.2) (.slice Ao79 t737.length co79)) (fun _ h_ => h_.1)))); (case side2 => exact (Kd.S_reads' HO739.out).2.1); rintro e w81 ⟨rfl, hb⟩; refine ⟨_, rfl, ?_⟩; have n0_ := Aside0.mk (Kd.S_below (by (with_reducible repeat (first | apply Kd.S_alloc | apply Kd.S_drewN | apply Kd.S_drew)); exact (Kd.S_mono (Kd.S_far (p := ⟨gb735, 0, none⟩) (Kd.S_types HO739.out BK735.out (by decide)) (fun _ hk => hk.2) (.slice Ao79 t737.length co79)) (fun _ h_ => h_.1))) hb); have n1_ := Aside0.mk (blk_below (g := gb735) (o := .cells #[.slice Ao79 t737.length co79] 22 (0, 0)) (by (with_reducible repeat (first | refine blk_drewN ?_ _ | refine blk_drew ?_ | refine blk_alloc ?_ _)); refine blk_put (cs := #[.slice A0 l0.length c0]) ?_ 0 _ rfl; (with_reducible repeat (first | refine blk_drewN ?_ _ | refine blk_drew ?_ | refine blk_alloc ?_ _)); exact BK735.out) hb); have n2_ := Aside0.mk (below_step zB hb); clear HO739; clear BK735; clear HB; have HO739 := n0_; have BK735 := n1_; have HB := n2_; clear n0_ n1_ n2_; (try clear hb); (try clear hb2); (try clear hk); (try clear hi)) | ((with_reducible refine gate_dst (N := 3) rfl ?_); (try (refine gate_guard (by rfl) ?_; dsimp only)); refine bx 3 (#[.int .i64 0]) 3 ?_; intro gb742 hg w82 hbox hb; have n0_ := Aside0.mk (Kd.S_below (Kd.S_elderB (zS HO739) gb742 (Nat.le_of_eq hg.symm)) hb); have n1_ := Aside0.mk (blk_below (g := gb735) (o := .cells #[.slice Ao79 t737.length co79] 22 (0, 0)) (zK BK735) hb); have n2_ := Aside0.mk (below_step zB hb); have n3_ := Aside0.mk (hbox); have n4_ := Aside0.mk ((zG hg : w.heap.size ≤ gb742)); have n5_ := Aside0.mk ((zG hg : w.heap.size ≤ gb742)); have n6_ := Aside0.mk ((by rw [hg]; exact Nat.ne_of_lt (blk_lt (g := gb735) (o := .cells #[.slice Ao79 t737.length co79] 22 (0, 0)) (zK BK735)) : gb735 ≠ gb742)); have n7_ := Aside0.mk ((by rw [hg]; exact Nat.ne_of_gt (blk_lt (g := gb735) (o := .cells #[.slice Ao79 t737.length co79] 22 (0, 0)) (zK BK735)) : gb742 ≠ gb735)); clear HO739; clear BK735; clear HB; have HO739 := n0_; have BK735 := n1_; have HB := n2_; have BK742 := n3_; have GW742 := n4_; have GE742 := n5_; have NB735_742 := n6_; have NB742_735 := n7_; clear n0_ n1_ n2_ n3_ n4_ n5_ n6_ n7_; clear hb hbox hg; have hnb83 := NB742_735.out; have hnc83 := NB735_742.out; have hcz84_0 : w82.cell? ⟨gb742, 0, none⟩ = some (.int .i64 0) := zT BK742 0; have hfz84_0 := blk_frozen BK742.out 0))
  have n0_ : Aside0 (Kd.S k31 31 (w82.setCell ⟨gb742, 0, none⟩ (.int .i64 t740)) w.heap.size (fun k_ => k_ ≠ gb742) (.slice Ao79 t737.length co79) t737) := ⟨by (with_reducible repeat (first | apply Kd.S_alloc | apply Kd.S_drewN | apply Kd.S_drew)); exact Kd.S_mono (Kd.S_far (p := ⟨gb742, 0, none⟩) (Kd.S_mono HO739.out (fun k_ hk => (⟨hk, hk.2⟩ : _ ∧ k_ ≠ gb742))) (fun _ hk => hk.2) (.int .i64 t740)) (fun _ hk => hk.1.2)⟩
  have n1_ : Aside0 ((w82.setCell ⟨gb742, 0, none⟩ (.int .i64 t740)).heap[gb735]? = some (.cells #[.slice Ao79 t737.length co79] 22 (0, 0))) := ⟨by (with_reducible repeat (first | refine blk_drewN ?_ _ | refine blk_drew ?_ | refine blk_alloc ?_ _)); refine blk_far ?_ NB735_742.out _; (with_reducible repeat (first | refine blk_drewN ?_ _ | refine blk_drew ?_ | refine blk_alloc ?_ _)); exact BK735.out⟩
  have n2_ : Aside0 ((w82.setCell ⟨gb742, 0, none⟩ (.int .i64 t740)).heap[gb742]? = some (.cells #[.int .i64 t740] 3 (0, 0))) := ⟨by (with_reducible repeat (first | refine blk_drewN ?_ _ | refine blk_drew ?_ | refine blk_alloc ?_ _)); refine blk_put (cs := #[.int .i64 0]) ?_ 0 _ rfl; (with_reducible repeat (first | refine blk_drewN ?_ _ | refine blk_drew ?_ | refine blk_alloc ?_ _)); exact BK742.out⟩
  have n3_ : Aside0 (Below w.heap.size w (w82.setCell ⟨gb742, 0, none⟩ (.int .i64 t740))) := ⟨zB⟩
  (try clear HO739)
  (try clear BK735)
  (try clear BK742)
  (try clear HB)
  generalize (w82.setCell ⟨gb742, 0, none⟩ (.int .i64 t740)) = w85 at n0_ n1_ n2_ n3_ ⊢
  have HO739 := n0_
  have BK735 := n1_
  have BK742 := n2_
  have HB := n3_
  clear n0_ n1_ n2_ n3_
  have n0_ := Aside0.mk (Kd.S_drew HO739.out)
  have n1_ := Aside0.mk (blk_drew BK735.out)
  have n2_ := Aside0.mk (blk_drew BK742.out)
  have n3_ := Aside0.mk (below_drew1 HB.out)
  clear HO739
  clear BK735
  clear BK742
  clear HB
  have HO739 := n0_
  have BK735 := n1_
  have BK742 := n2_
  have HB := n3_
  clear n0_ n1_ n2_ n3_
  have p743 : 0 ≤ (0 : Int) := (by omega)
  have q743 : 0 < (t737.length : Int) := od
  obtain ⟨ad743, A743_2, c743_2, A743_5, c743_5, e743, hx743_0, hx743_1, hx743_2, hx743_3, hx743_4, hx743_5, hl743_2, hi743_2, hl743_5, hi743_5⟩ := at_T31 (Kd.S_reads' HO739.out).2.2 0 p743 q743
  cases e743
  obtain ⟨ce743, hce743, hMe743, hcc743⟩ := Kd.S_get HO739.out z31 0 p743 (by first | exact q743 | exact od | (have e_ := (Kd.S_reads' HO739.out).1; omega))
  obtain ⟨ve743_2, ve743_5, rfl, ge743_2, ge743_5⟩ := k31_openM hMe743
  have hv743_2 := hcc743 2 _ rfl
  rw [add_field _ _ 2 (by omega)] at hv743_2
  replace hv743_2 := Option.some.inj (hv743_2.symm.trans hx743_2)
  rw [hv743_2] at ge743_2
  have HL743_2 := Aside0.mk (show Kd.R (Kd.int .i64) 3 _ _ _ _ ((rd_T31 t737 0).f1) from ge743_2)
  clear hv743_2 ge743_2
  have hv743_5 := hcc743 5 _ rfl
  rw [add_field _ _ 5 (by omega)] at hv743_5
  replace hv743_5 := Option.some.inj (hv743_5.symm.trans hx743_5)
  rw [hv743_5] at ge743_5
  have HL743_5 := Aside0.mk (show Kd.R (Kd.int .i64) 3 _ _ _ _ ((rd_T31 t737 0).f4) from ge743_5)
  clear hv743_5 ge743_5
  clear hcc743 hce743
  have qi743 : (0 < t737.length) = True := eq_true (by omega)
  (try rw [show ((0 : Int)).toNat = 0 from rfl] at hx743_0)
  (try rw [show 0 * 6 = 0 from rfl] at hx743_0)
  (try rw [Addr.add_zero'] at hx743_0)
  (try rw [show ((0 : Int)).toNat = 0 from rfl] at hx743_1)
  (try rw [show 0 * 6 = 0 from rfl] at hx743_1)
  (try rw [Addr.add_zero'] at hx743_1)
  (try rw [show ((0 : Int)).toNat = 0 from rfl] at hx743_2)
  (try rw [show 0 * 6 = 0 from rfl] at hx743_2)
  (try rw [Addr.add_zero'] at hx743_2)
  (try rw [show ((0 : Int)).toNat = 0 from rfl] at hx743_3)
  (try rw [show 0 * 6 = 0 from rfl] at hx743_3)
  (try rw [Addr.add_zero'] at hx743_3)
  (try rw [show ((0 : Int)).toNat = 0 from rfl] at hx743_4)
  (try rw [show 0 * 6 = 0 from rfl] at hx743_4)
  (try rw [Addr.add_zero'] at hx743_4)
  (try rw [show ((0 : Int)).toNat = 0 from rfl] at hx743_5)
  (try rw [show 0 * 6 = 0 from rfl] at hx743_5)
  (try rw [Addr.add_zero'] at hx743_5)
  have HR743_2 := Aside0.mk hi743_2
  have HC743_2 := Aside0.mk hl743_2
  clear hi743_2 hl743_2
  have HR743_5 := Aside0.mk hi743_5
  have HC743_5 := Aside0.mk hl743_5
  clear hi743_5 hl743_5
  replace p743 := eq_true p743
  replace q743 := eq_true q743
  have p744 : 0 ≤ (1 : Int) := (by omega)
  have q744 : 1 < (t737.length : Int) := od
  obtain ⟨ad744, A744_2, c744_2, A744_5, c744_5, e744, hx744_0, hx744_1, hx744_2, hx744_3, hx744_4, hx744_5, hl744_2, hi744_2, hl744_5, hi744_5⟩ := at_T31 (Kd.S_reads' HO739.out).2.2 1 p744 q744
  obtain rfl : ad743 = ad744 := (by injection e744)
  obtain ⟨ce744, hce744, hMe744, hcc744⟩ := Kd.S_get HO739.out z31 1 p744 (by first | exact q744 | exact od | (have e_ := (Kd.S_reads' HO739.out).1; omega))
  obtain ⟨ve744_2, ve744_5, rfl, ge744_2, ge744_5⟩ := k31_openM hMe744
  have hv744_2 := hcc744 2 _ rfl
  rw [add_field _ _ 2 (by omega)] at hv744_2
  replace hv744_2 := Option.some.inj (hv744_2.symm.trans hx744_2)
  rw [hv744_2] at ge744_2
  have HL744_2 := Aside0.mk (show Kd.R (Kd.int .i64) 3 _ _ _ _ ((rd_T31 t737 1).f1) from ge744_2)
  clear hv744_2 ge744_2
  have hv744_5 := hcc744 5 _ rfl
  rw [add_field _ _ 5 (by omega)] at hv744_5
  replace hv744_5 := Option.some.inj (hv744_5.symm.trans hx744_5)
  rw [hv744_5] at ge744_5
  have HL744_5 := Aside0.mk (show Kd.R (Kd.int .i64) 3 _ _ _ _ ((rd_T31 t737 1).f4) from ge744_5)
  clear hv744_5 ge744_5
  clear hcc744 hce744
  (try simp only [show (1 : Int).toNat = 1 from rfl, Nat.reduceMul, Nat.reduceEqDiff, Go.Addr.add, ↓reduceIte] at hx744_0)
  (try simp only [show (1 : Int).toNat = 1 from rfl, Nat.reduceMul, Nat.reduceEqDiff, Go.Addr.add, ↓reduceIte] at hx744_1)
  (try simp only [show (1 : Int).toNat = 1 from rfl, Nat.reduceMul, Nat.reduceEqDiff, Go.Addr.add, ↓reduceIte] at hx744_2)
  (try simp only [show (1 : Int).toNat = 1 from rfl, Nat.reduceMul, Nat.reduceEqDiff, Go.Addr.add, ↓reduceIte] at hx744_3)
  (try simp only [show (1 : Int).toNat = 1 from rfl, Nat.reduceMul, Nat.reduceEqDiff, Go.Addr.add, ↓reduceIte] at hx744_4)
  (try simp only [show (1 : Int).toNat = 1 from rfl, Nat.reduceMul, Nat.reduceEqDiff, Go.Addr.add, ↓reduceIte] at hx744_5)
  have qi744 : (1 < t737.length) = True := eq_true (by omega)
  (try rw [show ((1 : Int)).toNat = 1 from rfl] at hx744_0)
  (try rw [show 1 * 6 = 6 from rfl] at hx744_0)
  (try rw [show ((1 : Int)).toNat = 1 from rfl] at hx744_1)
  (try rw [show 1 * 6 = 6 from rfl] at hx744_1)
  (try rw [show ((1 : Int)).toNat = 1 from rfl] at hx744_2)
  (try rw [show 1 * 6 = 6 from rfl] at hx744_2)
  (try rw [show ((1 : Int)).toNat = 1 from rfl] at hx744_3)
  (try rw [show 1 * 6 = 6 from rfl] at hx744_3)
  (try rw [show ((1 : Int)).toNat = 1 from rfl] at hx744_4)
  (try rw [show 1 * 6 = 6 from rfl] at hx744_4)
  (try rw [show ((1 : Int)).toNat = 1 from rfl] at hx744_5)
  (try rw [show 1 * 6 = 6 from rfl] at hx744_5)
  have HR744_2 := Aside0.mk hi744_2
  have HC744_2 := Aside0.mk hl744_2
  clear hi744_2 hl744_2
  have HR744_5 := Aside0.mk hi744_5
  have HC744_5 := Aside0.mk hl744_5
  clear hi744_5 hl744_5
  replace p744 := eq_true p744
  replace q744 := eq_true q744
  refine start_ (n := 12) (S := fun w' => w'.cell? ⟨gb735, 0, none⟩ = some (.slice (some ad743) t737.length co79) ∧ w'.cell? ad743 = some (.int .u32 ((rd_T31 t737 0).f0.f0)) ∧ w'.cell? ⟨ad743.block, ad743.off + 1, none⟩ = some (.int .i64 ((rd_T31 t737 0).f0.f1)) ∧ w'.cell? ⟨ad743.block, ad743.off + 2, none⟩ = some (.slice A743_2 ((rd_T31 t737 0).f1).length c743_2) ∧ w'.cell? ⟨ad743.block, ad743.off + 3, none⟩ = some (.int .i64 ((rd_T31 t737 0).f2)) ∧ w'.cell? ⟨ad743.block, ad743.off + 4, none⟩ = some (.int .i64 ((rd_T31 t737 0).f3)) ∧ w'.cell? ⟨ad743.block, ad743.off + 5, none⟩ = some (.slice A743_5 ((rd_T31 t737 0).f4).length c743_5) ∧ w'.cell? ⟨ad743.block, ad743.off + 6, none⟩ = some (.int .u32 ((rd_T31 t737 1).f0.f0)) ∧ w'.cell? ⟨ad743.block, ad743.off + 6 + 1, none⟩ = some (.int .i64 ((rd_T31 t737 1).f0.f1)) ∧ w'.cell? ⟨ad743.block, ad743.off + 6 + 2, none⟩ = some (.slice A744_2 ((rd_T31 t737 1).f1).length c744_2) ∧ w'.cell? ⟨ad743.block, ad743.off + 6 + 3, none⟩ = some (.int .i64 ((rd_T31 t737 1).f2)) ∧ w'.cell? ⟨ad743.block, ad743.off + 6 + 4, none⟩ = some (.int .i64 ((rd_T31 t737 1).f3)) ∧ w'.cell? ⟨ad743.block, ad743.off + 6 + 5, none⟩ = some (.slice A744_5 ((rd_T31 t737 1).f4).length c744_5)) (ds := []) (bm 12 0) (by kernel_rfl) rfl rfl ⟨zT BK735 0, hx743_0, hx743_1, hx743_2, hx743_3, hx743_4, hx743_5, hx744_0, hx744_1, hx744_2, hx744_3, hx744_4, hx744_5⟩ (fun hHeld => ?_); refine with_tabW g8_.tab7 g8_.bits7 (fun HT_ HW_ => ?_)
  generalize w85.drew = w86 at HO739 BK735 BK742 HB HL743_2 HL743_5 HL744_2 HL744_5 HR743_2 HR743_5 HR744_2 HR744_5 hx743_0 hx743_1 hx743_2 hx743_3 hx743_4 hx743_5 hx744_0 hx744_1 hx744_2 hx744_3 hx744_4 hx744_5 hHeld ⊢
  refine tk 0 (some 22) (bm 12 1) HT_ HW_ hHeld ?_
  refine pu 1 (some 23) (bm 12 3) HT_ ?_
  refine tk 2 (some 24) (bm 12 7) HT_ HW_ hHeld ?_
  refine tk 3 (some 25) (bm 12 15) HT_ HW_ hHeld ?_
  refine pu 4 (some 26) (bm 12 31) HT_ ?_
  refine tk 5 (some 27) (bm 12 63) HT_ HW_ hHeld ?_
  refine one_ (i := 6) (N := some 28) (bm 12 127) rfl rfl (one_of HT_.out (by kernel_rfl)) (by decide) (fun K hK => ?_)
  refine goes_ Tryd.func11 (by kernel_rfl) rfl #[.agg #[.int .u32 ((rd_T31 t737 0).f0.f0), .int .i64 ((rd_T31 t737 0).f0.f1), .slice A743_2 ((rd_T31 t737 0).f1).length c743_2, .int .i64 ((rd_T31 t737 0).f2), .int .i64 ((rd_T31 t737 0).f3), .slice A743_5 ((rd_T31 t737 0).f4).length c743_5], .agg #[.int .u32 ((rd_T31 t737 1).f0.f0), .int .i64 ((rd_T31 t737 1).f0.f1), .slice A744_2 ((rd_T31 t737 1).f1).length c744_2, .int .i64 ((rd_T31 t737 1).f2), .int .i64 ((rd_T31 t737 1).f3), .slice A744_5 ((rd_T31 t737 1).f4).length c744_5]] (by rfl) rfl rfl zM ?_
  with_reducible refine (best_Better.calls k ((rd_T31 t737 0).f0.f0) ((rd_T31 t737 0).f0.f1) _ _ ((rd_T31 t737 0).f1) ((rd_T31 t737 0).f2) ((rd_T31 t737 0).f3) _ _ ((rd_T31 t737 0).f4) ((rd_T31 t737 1).f0.f0) ((rd_T31 t737 1).f0.f1) _ _ ((rd_T31 t737 1).f1) ((rd_T31 t737 1).f2) ((rd_T31 t737 1).f3) _ _ ((rd_T31 t737 1).f4) t745 t746 _ ?side1 ?side2 ?side3 ?side4 ?side5 ?side6 ?side7 ?side8 A15.out).mono ?_
  (case side1 => repeat (first | exact (by repeat (first | (with_reducible exact HR743_2.out) | (with_reducible refine Kd.C_alloc ?_ _) | (with_reducible refine Kd.C_drewN ?_ _) | (with_reducible refine Kd.C_drew ?_) | exact HR743_2.out)) | (with_reducible refine Kd.C_alloc ?_ _) | (with_reducible refine Kd.C_drewN ?_ _) | (with_reducible refine Kd.C_drew ?_)))
  (case side2 => exact HC743_2.out)
  (case side3 => repeat (first | exact (by repeat (first | (with_reducible exact HR743_5.out) | (with_reducible refine Kd.C_alloc ?_ _) | (with_reducible refine Kd.C_drewN ?_ _) | (with_reducible refine Kd.C_drew ?_) | exact HR743_5.out)) | (with_reducible refine Kd.C_alloc ?_ _) | (with_reducible refine Kd.C_drewN ?_ _) | (with_reducible refine Kd.C_drew ?_)))
  (case side4 => exact HC743_5.out)
  (case side5 => repeat (first | exact (by repeat (first | (with_reducible exact HR744_2.out) | (with_reducible refine Kd.C_alloc ?_ _) | (with_reducible refine Kd.C_drewN ?_ _) | (with_reducible refine Kd.C_drew ?_) | exact HR744_2.out)) | (with_reducible refine Kd.C_alloc ?_ _) | (with_reducible refine Kd.C_drewN ?_ _) | (with_reducible refine Kd.C_drew ?_)))
  (case side6 => exact HC744_2.out)
  (case side7 => repeat (first | exact (by repeat (first | (with_reducible exact HR744_5.out) | (with_reducible refine Kd.C_alloc ?_ _) | (with_reducible refine Kd.C_drewN ?_ _) | (with_reducible refine Kd.C_drew ?_) | exact HR744_5.out)) | (with_reducible refine Kd.C_alloc ?_ _) | (with_reducible refine Kd.C_drewN ?_ _) | (with_reducible refine Kd.C_drew ?_)))
  (case side8 => exact HC744_5.out)
  rintro e w87 ⟨rfl, hb⟩
  have HS1_ := (hb.cell (World.block_lt_of_cell? _ _ (hHeld.2.1))).trans (hHeld.2.1)
  have HS2_ := (hb.cell (World.block_lt_of_cell? _ _ (hHeld.2.2.1))).trans (hHeld.2.2.1)
  have HS3_ := (hb.cell (World.block_lt_of_cell? _ _ (hHeld.2.2.2.1))).trans (hHeld.2.2.2.1)
  have HS4_ := (hb.cell (World.block_lt_of_cell? _ _ (hHeld.2.2.2.2.1))).trans (hHeld.2.2.2.2.1)
  have HS5_ := (hb.cell (World.block_lt_of_cell? _ _ (hHeld.2.2.2.2.2.1))).trans (hHeld.2.2.2.2.2.1)
  have HS6_ := (hb.cell (World.block_lt_of_cell? _ _ (hHeld.2.2.2.2.2.2.1))).trans (hHeld.2.2.2.2.2.2.1)
  have HS7_ := (hb.cell (World.block_lt_of_cell? _ _ (hHeld.2.2.2.2.2.2.2.1))).trans (hHeld.2.2.2.2.2.2.2.1)
  have HS8_ := (hb.cell (World.block_lt_of_cell? _ _ (hHeld.2.2.2.2.2.2.2.2.1))).trans (hHeld.2.2.2.2.2.2.2.2.1)
  have HS9_ := (hb.cell (World.block_lt_of_cell? _ _ (hHeld.2.2.2.2.2.2.2.2.2.1))).trans (hHeld.2.2.2.2.2.2.2.2.2.1)
  have HS10_ := (hb.cell (World.block_lt_of_cell? _ _ (hHeld.2.2.2.2.2.2.2.2.2.2.1))).trans (hHeld.2.2.2.2.2.2.2.2.2.2.1)
  have HS11_ := (hb.cell (World.block_lt_of_cell? _ _ (hHeld.2.2.2.2.2.2.2.2.2.2.2.1))).trans (hHeld.2.2.2.2.2.2.2.2.2.2.2.1)
  have HS12_ := (hb.cell (World.block_lt_of_cell? _ _ (hHeld.2.2.2.2.2.2.2.2.2.2.2.2))).trans (hHeld.2.2.2.2.2.2.2.2.2.2.2.2)
  refine ⟨_, rfl, ?_⟩
  have n0_ := Aside0.mk (Kd.S_below (zS HO739) hb)
  have n1_ := Aside0.mk (Kd.R_below (zO HL743_2) hb)
  have n2_ := Aside0.mk (Kd.R_below (zO HL743_5) hb)
  have n3_ := Aside0.mk (Kd.R_below (zO HL744_2) hb)
  have n4_ := Aside0.mk (Kd.R_below (zO HL744_5) hb)
  have n5_ := Aside0.mk (blk_below (g := gb735) (o := .cells #[.slice (some ad743) t737.length co79] 22 (0, 0)) (zK BK735) hb)
  have n6_ := Aside0.mk (blk_below (g := gb742) (o := .cells #[.int .i64 t740] 3 (0, 0)) (zK BK742) hb)
  have n7_ := Aside0.mk (Kd.C_below (by repeat (first | (with_reducible exact HR743_2.out) | (with_reducible refine Kd.C_alloc ?_ _) | (with_reducible refine Kd.C_drewN ?_ _) | (with_reducible refine Kd.C_drew ?_) | exact HR743_2.out)) hb)
  have n8_ := Aside0.mk (Kd.C_below (by repeat (first | (with_reducible exact HR743_5.out) | (with_reducible refine Kd.C_alloc ?_ _) | (with_reducible refine Kd.C_drewN ?_ _) | (with_reducible refine Kd.C_drew ?_) | exact HR743_5.out)) hb)
  have n9_ := Aside0.mk (Kd.C_below (by repeat (first | (with_reducible exact HR744_2.out) | (with_reducible refine Kd.C_alloc ?_ _) | (with_reducible refine Kd.C_drewN ?_ _) | (with_reducible refine Kd.C_drew ?_) | exact HR744_2.out)) hb)
  have n10_ := Aside0.mk (Kd.C_below (by repeat (first | (with_reducible exact HR744_5.out) | (with_reducible refine Kd.C_alloc ?_ _) | (with_reducible refine Kd.C_drewN ?_ _) | (with_reducible refine Kd.C_drew ?_) | exact HR744_5.out)) hb)
  have n11_ := Aside0.mk (below_step zB hb)
  clear HO739
  clear HL743_2
  clear HL743_5
  clear HL744_2
  clear HL744_5
  clear BK735
  clear BK742
  clear HR743_2
  clear HR743_5
  clear HR744_2
  clear HR744_5
  clear HB
  have HO739 := n0_
  have HL743_2 := n1_
  have HL743_5 := n2_
  have HL744_2 := n3_
  have HL744_5 := n4_
  have BK735 := n5_
  have BK742 := n6_
  have HR743_2 := n7_
  have HR743_5 := n8_
  have HR744_2 := n9_
  have HR744_5 := n10_
  have HB := n11_
  clear n0_ n1_ n2_ n3_ n4_ n5_ n6_ n7_ n8_ n9_ n10_ n11_
  (try clear hb)
  (try clear hb2)
  (try clear hk)
  (try clear hi)
  refine hK.out _ _ ⟨zT BK735 0, HS1_, HS2_, HS3_, HS4_, HS5_, HS6_, HS7_, HS8_, HS9_, HS10_, HS11_, HS12_⟩ (fun hHeld => ?_)
  clear hK K
  refine norm_ (a' := ?_) ?_ ?_
  rotate_left
  · show Act.put _ (some 28) _ = _; simp only [Act.put, sA, s0, sS, i64_w, i32_w]; rfl
  refine pu 7 (some 21) (bm 12 255) HT_ ?_
  refine pu 8 (some 29) (bm 12 511) HT_ ?_
  refine pu 9 (some 30) (bm 12 1023) HT_ ?_
  refine pu 10 (some 5) (bm 12 2047) HT_ ?_
  refine pu 11 (some 6) (bm 12 4095) HT_ ?_
  refine done_ (done_of HT_.out (by kernel_rfl)) ?_
  try go_wp2
  have n0_ := Aside0.mk (Kd.S_drew HO739.out)
  have n1_ := Aside0.mk (Kd.R_drew HL743_2.out)
  have n2_ := Aside0.mk (Kd.R_drew HL743_5.out)
  have n3_ := Aside0.mk (Kd.R_drew HL744_2.out)
  have n4_ := Aside0.mk (Kd.R_drew HL744_5.out)
  have n5_ := Aside0.mk (blk_drew BK735.out)
  have n6_ := Aside0.mk (blk_drew BK742.out)
  have n7_ := Aside0.mk (Kd.C_drew HR743_2.out)
  have n8_ := Aside0.mk (Kd.C_drew HR743_5.out)
  have n9_ := Aside0.mk (Kd.C_drew HR744_2.out)
  have n10_ := Aside0.mk (Kd.C_drew HR744_5.out)
  have n11_ := Aside0.mk (below_drew1 HB.out)
  clear HO739
  clear HL743_2
  clear HL743_5
  clear HL744_2
  clear HL744_5
  clear BK735
  clear BK742
  clear HR743_2
  clear HR743_5
  clear HR744_2
  clear HR744_5
  clear HB
  have HO739 := n0_
  have HL743_2 := n1_
  have HL743_5 := n2_
  have HL744_2 := n3_
  have HL744_5 := n4_
  have BK735 := n5_
  have BK742 := n6_
  have HR743_2 := n7_
  have HR743_5 := n8_
  have HR744_2 := n9_
  have HR744_5 := n10_
  have HB := n11_
  clear n0_ n1_ n2_ n3_ n4_ n5_ n6_ n7_ n8_ n9_ n10_ n11_
  have p747 : 0 ≤ (1 : Int) := (by omega)
  have q747 : 1 < (t737.length : Int) := od
  obtain ⟨ad747, A747_2, c747_2, A747_5, c747_5, e747, hx747_0, hx747_1, hx747_2, hx747_3, hx747_4, hx747_5, hl747_2, hi747_2, hl747_5, hi747_5⟩ := at_T31 (Kd.S_reads' HO739.out).2.2 1 p747 q747
  obtain rfl : ad743 = ad747 := (by injection e747)
  obtain ⟨ce747, hce747, hMe747, hcc747⟩ := Kd.S_get HO739.out z31 1 p747 (by first | exact q747 | exact od | (have e_ := (Kd.S_reads' HO739.out).1; omega))
  obtain ⟨ve747_2, ve747_5, rfl, ge747_2, ge747_5⟩ := k31_openM hMe747
  have hv747_2 := hcc747 2 _ rfl
  rw [add_field _ _ 2 (by omega)] at hv747_2
  replace hv747_2 := Option.some.inj (hv747_2.symm.trans hx747_2)
  rw [hv747_2] at ge747_2
  have HL747_2 := Aside0.mk (show Kd.R (Kd.int .i64) 3 _ _ _ _ ((rd_T31 t737 1).f1) from ge747_2)
  clear hv747_2 ge747_2
  have hv747_5 := hcc747 5 _ rfl
  rw [add_field _ _ 5 (by omega)] at hv747_5
  replace hv747_5 := Option.some.inj (hv747_5.symm.trans hx747_5)
  rw [hv747_5] at ge747_5
  have HL747_5 := Aside0.mk (show Kd.R (Kd.int .i64) 3 _ _ _ _ ((rd_T31 t737 1).f4) from ge747_5)
  clear hv747_5 ge747_5
  clear hcc747 hce747
  (try simp only [show (1 : Int).toNat = 1 from rfl, Nat.reduceMul, Nat.reduceEqDiff, Go.Addr.add, ↓reduceIte] at hx747_0)
  (try simp only [show (1 : Int).toNat = 1 from rfl, Nat.reduceMul, Nat.reduceEqDiff, Go.Addr.add, ↓reduceIte] at hx747_1)
  (try simp only [show (1 : Int).toNat = 1 from rfl, Nat.reduceMul, Nat.reduceEqDiff, Go.Addr.add, ↓reduceIte] at hx747_2)
  (try simp only [show (1 : Int).toNat = 1 from rfl, Nat.reduceMul, Nat.reduceEqDiff, Go.Addr.add, ↓reduceIte] at hx747_3)
  (try simp only [show (1 : Int).toNat = 1 from rfl, Nat.reduceMul, Nat.reduceEqDiff, Go.Addr.add, ↓reduceIte] at hx747_4)
  (try simp only [show (1 : Int).toNat = 1 from rfl, Nat.reduceMul, Nat.reduceEqDiff, Go.Addr.add, ↓reduceIte] at hx747_5)
  have qi747 : (1 < t737.length) = True := eq_true (by omega)
  (try rw [show ((1 : Int)).toNat = 1 from rfl] at hx747_0)
  (try rw [show 1 * 6 = 6 from rfl] at hx747_0)
  (try rw [show ((1 : Int)).toNat = 1 from rfl] at hx747_1)
  (try rw [show 1 * 6 = 6 from rfl] at hx747_1)
  (try rw [show ((1 : Int)).toNat = 1 from rfl] at hx747_2)
  (try rw [show 1 * 6 = 6 from rfl] at hx747_2)
  (try rw [show ((1 : Int)).toNat = 1 from rfl] at hx747_3)
  (try rw [show 1 * 6 = 6 from rfl] at hx747_3)
  (try rw [show ((1 : Int)).toNat = 1 from rfl] at hx747_4)
  (try rw [show 1 * 6 = 6 from rfl] at hx747_4)
  (try rw [show ((1 : Int)).toNat = 1 from rfl] at hx747_5)
  (try rw [show 1 * 6 = 6 from rfl] at hx747_5)
  have HR747_2 := Aside0.mk hi747_2
  have HC747_2 := Aside0.mk hl747_2
  clear hi747_2 hl747_2
  have HR747_5 := Aside0.mk hi747_5
  have HC747_5 := Aside0.mk hl747_5
  clear hi747_5 hl747_5
  replace p747 := eq_true p747
  replace q747 := eq_true q747
  have p748 : 0 ≤ (0 : Int) := (by omega)
  have q748 : 0 < (t737.length : Int) := od
  obtain ⟨ad748, A748_2, c748_2, A748_5, c748_5, e748, hx748_0, hx748_1, hx748_2, hx748_3, hx748_4, hx748_5, hl748_2, hi748_2, hl748_5, hi748_5⟩ := at_T31 (Kd.S_reads' HO739.out).2.2 0 p748 q748
  obtain rfl : ad743 = ad748 := (by injection e748)
  obtain ⟨ce748, hce748, hMe748, hcc748⟩ := Kd.S_get HO739.out z31 0 p748 (by first | exact q748 | exact od | (have e_ := (Kd.S_reads' HO739.out).1; omega))
  obtain ⟨ve748_2, ve748_5, rfl, ge748_2, ge748_5⟩ := k31_openM hMe748
  have hv748_2 := hcc748 2 _ rfl
  rw [add_field _ _ 2 (by omega)] at hv748_2
  replace hv748_2 := Option.some.inj (hv748_2.symm.trans hx748_2)
  rw [hv748_2] at ge748_2
  have HL748_2 := Aside0.mk (show Kd.R (Kd.int .i64) 3 _ _ _ _ ((rd_T31 t737 0).f1) from ge748_2)
  clear hv748_2 ge748_2
  have hv748_5 := hcc748 5 _ rfl
  rw [add_field _ _ 5 (by omega)] at hv748_5
  replace hv748_5 := Option.some.inj (hv748_5.symm.trans hx748_5)
  rw [hv748_5] at ge748_5
  have HL748_5 := Aside0.mk (show Kd.R (Kd.int .i64) 3 _ _ _ _ ((rd_T31 t737 0).f4) from ge748_5)
  clear hv748_5 ge748_5
  clear hcc748 hce748
  have qi748 : (0 < t737.length) = True := eq_true (by omega)
  (try rw [show ((0 : Int)).toNat = 0 from rfl] at hx748_0)
  (try rw [show 0 * 6 = 0 from rfl] at hx748_0)
  (try rw [Addr.add_zero'] at hx748_0)
  (try rw [show ((0 : Int)).toNat = 0 from rfl] at hx748_1)
  (try rw [show 0 * 6 = 0 from rfl] at hx748_1)
  (try rw [Addr.add_zero'] at hx748_1)
  (try rw [show ((0 : Int)).toNat = 0 from rfl] at hx748_2)
  (try rw [show 0 * 6 = 0 from rfl] at hx748_2)
  (try rw [Addr.add_zero'] at hx748_2)
  (try rw [show ((0 : Int)).toNat = 0 from rfl] at hx748_3)
  (try rw [show 0 * 6 = 0 from rfl] at hx748_3)
  (try rw [Addr.add_zero'] at hx748_3)
  (try rw [show ((0 : Int)).toNat = 0 from rfl] at hx748_4)
  (try rw [show 0 * 6 = 0 from rfl] at hx748_4)
  (try rw [Addr.add_zero'] at hx748_4)
  (try rw [show ((0 : Int)).toNat = 0 from rfl] at hx748_5)
  (try rw [show 0 * 6 = 0 from rfl] at hx748_5)
  (try rw [Addr.add_zero'] at hx748_5)
  have HR748_2 := Aside0.mk hi748_2
  have HC748_2 := Aside0.mk hl748_2
  clear hi748_2 hl748_2
  have HR748_5 := Aside0.mk hi748_5
  have HC748_5 := Aside0.mk hl748_5
  clear hi748_5 hl748_5
  replace p748 := eq_true p748
  replace q748 := eq_true q748
  refine start_ (n := 12) (S := fun w' => w'.cell? ⟨gb735, 0, none⟩ = some (.slice (some ad743) t737.length co79) ∧ w'.cell? ⟨ad743.block, ad743.off + 6, none⟩ = some (.int .u32 ((rd_T31 t737 1).f0.f0)) ∧ w'.cell? ⟨ad743.block, ad743.off + 6 + 1, none⟩ = some (.int .i64 ((rd_T31 t737 1).f0.f1)) ∧ w'.cell? ⟨ad743.block, ad743.off + 6 + 2, none⟩ = some (.slice A747_2 ((rd_T31 t737 1).f1).length c747_2) ∧ w'.cell? ⟨ad743.block, ad743.off + 6 + 3, none⟩ = some (.int .i64 ((rd_T31 t737 1).f2)) ∧ w'.cell? ⟨ad743.block, ad743.off + 6 + 4, none⟩ = some (.int .i64 ((rd_T31 t737 1).f3)) ∧ w'.cell? ⟨ad743.block, ad743.off + 6 + 5, none⟩ = some (.slice A747_5 ((rd_T31 t737 1).f4).length c747_5) ∧ w'.cell? ad743 = some (.int .u32 ((rd_T31 t737 0).f0.f0)) ∧ w'.cell? ⟨ad743.block, ad743.off + 1, none⟩ = some (.int .i64 ((rd_T31 t737 0).f0.f1)) ∧ w'.cell? ⟨ad743.block, ad743.off + 2, none⟩ = some (.slice A748_2 ((rd_T31 t737 0).f1).length c748_2) ∧ w'.cell? ⟨ad743.block, ad743.off + 3, none⟩ = some (.int .i64 ((rd_T31 t737 0).f2)) ∧ w'.cell? ⟨ad743.block, ad743.off + 4, none⟩ = some (.int .i64 ((rd_T31 t737 0).f3)) ∧ w'.cell? ⟨ad743.block, ad743.off + 5, none⟩ = some (.slice A748_5 ((rd_T31 t737 0).f4).length c748_5)) (ds := []) (bm 12 0) (by kernel_rfl) rfl rfl ⟨zT BK735 0, hx747_0, hx747_1, hx747_2, hx747_3, hx747_4, hx747_5, hx748_0, hx748_1, hx748_2, hx748_3, hx748_4, hx748_5⟩ (fun hHeld => ?_); refine with_tabW g8_.tab8 g8_.bits8 (fun HT_ HW_ => ?_)
  generalize w87.drew = w88 at HO739 HL743_2 HL743_5 HL744_2 HL744_5 BK735 BK742 HR743_2 HR743_5 HR744_2 HR744_5 HB HL747_2 HL747_5 HL748_2 HL748_5 HR747_2 HR747_5 HR748_2 HR748_5 hx747_0 hx747_1 hx747_2 hx747_3 hx747_4 hx747_5 hx748_0 hx748_1 hx748_2 hx748_3 hx748_4 hx748_5 hHeld ⊢
  refine tk 0 (some 32) (bm 12 1) HT_ HW_ hHeld ?_
  refine pu 1 (some 33) (bm 12 3) HT_ ?_
  refine tk 2 (some 34) (bm 12 7) HT_ HW_ hHeld ?_
  refine tk 3 (some 35) (bm 12 15) HT_ HW_ hHeld ?_
  refine pu 4 (some 36) (bm 12 31) HT_ ?_
  refine tk 5 (some 37) (bm 12 63) HT_ HW_ hHeld ?_
  refine one_ (i := 6) (N := some 38) (bm 12 127) rfl rfl (one_of HT_.out (by kernel_rfl)) (by decide) (fun K hK => ?_)
  refine goes_ Tryd.func11 (by kernel_rfl) rfl #[.agg #[.int .u32 ((rd_T31 t737 1).f0.f0), .int .i64 ((rd_T31 t737 1).f0.f1), .slice A747_2 ((rd_T31 t737 1).f1).length c747_2, .int .i64 ((rd_T31 t737 1).f2), .int .i64 ((rd_T31 t737 1).f3), .slice A747_5 ((rd_T31 t737 1).f4).length c747_5], .agg #[.int .u32 ((rd_T31 t737 0).f0.f0), .int .i64 ((rd_T31 t737 0).f0.f1), .slice A748_2 ((rd_T31 t737 0).f1).length c748_2, .int .i64 ((rd_T31 t737 0).f2), .int .i64 ((rd_T31 t737 0).f3), .slice A748_5 ((rd_T31 t737 0).f4).length c748_5]] (by rfl) rfl rfl zM ?_
  with_reducible refine (best_Better.calls k ((rd_T31 t737 1).f0.f0) ((rd_T31 t737 1).f0.f1) _ _ ((rd_T31 t737 1).f1) ((rd_T31 t737 1).f2) ((rd_T31 t737 1).f3) _ _ ((rd_T31 t737 1).f4) ((rd_T31 t737 0).f0.f0) ((rd_T31 t737 0).f0.f1) _ _ ((rd_T31 t737 0).f1) ((rd_T31 t737 0).f2) ((rd_T31 t737 0).f3) _ _ ((rd_T31 t737 0).f4) t749 t750 _ ?side1 ?side2 ?side3 ?side4 ?side5 ?side6 ?side7 ?side8 A16.out).mono ?_
  (case side1 => repeat (first | exact (by repeat (first | (with_reducible exact HR747_2.out) | (with_reducible refine Kd.C_alloc ?_ _) | (with_reducible refine Kd.C_drewN ?_ _) | (with_reducible refine Kd.C_drew ?_) | exact HR747_2.out)) | (with_reducible refine Kd.C_alloc ?_ _) | (with_reducible refine Kd.C_drewN ?_ _) | (with_reducible refine Kd.C_drew ?_)))
  (case side2 => exact HC747_2.out)
  (case side3 => repeat (first | exact (by repeat (first | (with_reducible exact HR747_5.out) | (with_reducible refine Kd.C_alloc ?_ _) | (with_reducible refine Kd.C_drewN ?_ _) | (with_reducible refine Kd.C_drew ?_) | exact HR747_5.out)) | (with_reducible refine Kd.C_alloc ?_ _) | (with_reducible refine Kd.C_drewN ?_ _) | (with_reducible refine Kd.C_drew ?_)))
  (case side4 => exact HC747_5.out)
  (case side5 => repeat (first | exact (by repeat (first | (with_reducible exact HR748_2.out) | (with_reducible refine Kd.C_alloc ?_ _) | (with_reducible refine Kd.C_drewN ?_ _) | (with_reducible refine Kd.C_drew ?_) | exact HR748_2.out)) | (with_reducible refine Kd.C_alloc ?_ _) | (with_reducible refine Kd.C_drewN ?_ _) | (with_reducible refine Kd.C_drew ?_)))
  (case side6 => exact HC748_2.out)
  (case side7 => repeat (first | exact (by repeat (first | (with_reducible exact HR748_5.out) | (with_reducible refine Kd.C_alloc ?_ _) | (with_reducible refine Kd.C_drewN ?_ _) | (with_reducible refine Kd.C_drew ?_) | exact HR748_5.out)) | (with_reducible refine Kd.C_alloc ?_ _) | (with_reducible refine Kd.C_drewN ?_ _) | (with_reducible refine Kd.C_drew ?_)))
  (case side8 => exact HC748_5.out)
  rintro e w89 ⟨rfl, hb⟩
  have HS1_ := (hb.cell (World.block_lt_of_cell? _ _ (hHeld.2.1))).trans (hHeld.2.1)
  have HS2_ := (hb.cell (World.block_lt_of_cell? _ _ (hHeld.2.2.1))).trans (hHeld.2.2.1)
  have HS3_ := (hb.cell (World.block_lt_of_cell? _ _ (hHeld.2.2.2.1))).trans (hHeld.2.2.2.1)
  have HS4_ := (hb.cell (World.block_lt_of_cell? _ _ (hHeld.2.2.2.2.1))).trans (hHeld.2.2.2.2.1)
  have HS5_ := (hb.cell (World.block_lt_of_cell? _ _ (hHeld.2.2.2.2.2.1))).trans (hHeld.2.2.2.2.2.1)
  have HS6_ := (hb.cell (World.block_lt_of_cell? _ _ (hHeld.2.2.2.2.2.2.1))).trans (hHeld.2.2.2.2.2.2.1)
  have HS7_ := (hb.cell (World.block_lt_of_cell? _ _ (hHeld.2.2.2.2.2.2.2.1))).trans (hHeld.2.2.2.2.2.2.2.1)
  have HS8_ := (hb.cell (World.block_lt_of_cell? _ _ (hHeld.2.2.2.2.2.2.2.2.1))).trans (hHeld.2.2.2.2.2.2.2.2.1)
  have HS9_ := (hb.cell (World.block_lt_of_cell? _ _ (hHeld.2.2.2.2.2.2.2.2.2.1))).trans (hHeld.2.2.2.2.2.2.2.2.2.1)
  have HS10_ := (hb.cell (World.block_lt_of_cell? _ _ (hHeld.2.2.2.2.2.2.2.2.2.2.1))).trans (hHeld.2.2.2.2.2.2.2.2.2.2.1)
  have HS11_ := (hb.cell (World.block_lt_of_cell? _ _ (hHeld.2.2.2.2.2.2.2.2.2.2.2.1))).trans (hHeld.2.2.2.2.2.2.2.2.2.2.2.1)
  have HS12_ := (hb.cell (World.block_lt_of_cell? _ _ (hHeld.2.2.2.2.2.2.2.2.2.2.2.2))).trans (hHeld.2.2.2.2.2.2.2.2.2.2.2.2)
  refine ⟨_, rfl, ?_⟩
  have n0_ := Aside0.mk (Kd.S_below (zS HO739) hb)
  have n1_ := Aside0.mk (Kd.R_below (zO HL743_2) hb)
  have n2_ := Aside0.mk (Kd.R_below (zO HL743_5) hb)
  have n3_ := Aside0.mk (Kd.R_below (zO HL744_2) hb)
  have n4_ := Aside0.mk (Kd.R_below (zO HL744_5) hb)
  have n5_ := Aside0.mk (Kd.R_below (zO HL747_2) hb)
  have n6_ := Aside0.mk (Kd.R_below (zO HL747_5) hb)
  have n7_ := Aside0.mk (Kd.R_below (zO HL748_2) hb)
  have n8_ := Aside0.mk (Kd.R_below (zO HL748_5) hb)
  have n9_ := Aside0.mk (blk_below (g := gb735) (o := .cells #[.slice (some ad743) t737.length co79] 22 (0, 0)) (zK BK735) hb)
  have n10_ := Aside0.mk (blk_below (g := gb742) (o := .cells #[.int .i64 t740] 3 (0, 0)) (zK BK742) hb)
  have n11_ := Aside0.mk (Kd.C_below (by repeat (first | (with_reducible exact HR743_2.out) | (with_reducible refine Kd.C_alloc ?_ _) | (with_reducible refine Kd.C_drewN ?_ _) | (with_reducible refine Kd.C_drew ?_) | exact HR743_2.out)) hb)
  have n12_ := Aside0.mk (Kd.C_below (by repeat (first | (with_reducible exact HR743_5.out) | (with_reducible refine Kd.C_alloc ?_ _) | (with_reducible refine Kd.C_drewN ?_ _) | (with_reducible refine Kd.C_drew ?_) | exact HR743_5.out)) hb)
  have n13_ := Aside0.mk (Kd.C_below (by repeat (first | (with_reducible exact HR744_2.out) | (with_reducible refine Kd.C_alloc ?_ _) | (with_reducible refine Kd.C_drewN ?_ _) | (with_reducible refine Kd.C_drew ?_) | exact HR744_2.out)) hb)
  have n14_ := Aside0.mk (Kd.C_below (by repeat (first | (with_reducible exact HR744_5.out) | (with_reducible refine Kd.C_alloc ?_ _) | (with_reducible refine Kd.C_drewN ?_ _) | (with_reducible refine Kd.C_drew ?_) | exact HR744_5.out)) hb)
  have n15_ := Aside0.mk (Kd.C_below (by repeat (first | (with_reducible exact HR747_2.out) | (with_reducible refine Kd.C_alloc ?_ _) | (with_reducible refine Kd.C_drewN ?_ _) | (with_reducible refine Kd.C_drew ?_) | exact HR747_2.out)) hb)
  have n16_ := Aside0.mk (Kd.C_below (by repeat (first | (with_reducible exact HR747_5.out) | (with_reducible refine Kd.C_alloc ?_ _) | (with_reducible refine Kd.C_drewN ?_ _) | (with_reducible refine Kd.C_drew ?_) | exact HR747_5.out)) hb)
  have n17_ := Aside0.mk (Kd.C_below (by repeat (first | (with_reducible exact HR748_2.out) | (with_reducible refine Kd.C_alloc ?_ _) | (with_reducible refine Kd.C_drewN ?_ _) | (with_reducible refine Kd.C_drew ?_) | exact HR748_2.out)) hb)
  have n18_ := Aside0.mk (Kd.C_below (by repeat (first | (with_reducible exact HR748_5.out) | (with_reducible refine Kd.C_alloc ?_ _) | (with_reducible refine Kd.C_drewN ?_ _) | (with_reducible refine Kd.C_drew ?_) | exact HR748_5.out)) hb)
  have n19_ := Aside0.mk (below_step zB hb)
  clear HO739
  clear HL743_2
  clear HL743_5
  clear HL744_2
  clear HL744_5
  clear HL747_2
  clear HL747_5
  clear HL748_2
  clear HL748_5
  clear BK735
  clear BK742
  clear HR743_2
  clear HR743_5
  clear HR744_2
  clear HR744_5
  clear HR747_2
  clear HR747_5
  clear HR748_2
  clear HR748_5
  clear HB
  have HO739 := n0_
  have HL743_2 := n1_
  have HL743_5 := n2_
  have HL744_2 := n3_
  have HL744_5 := n4_
  have HL747_2 := n5_
  have HL747_5 := n6_
  have HL748_2 := n7_
  have HL748_5 := n8_
  have BK735 := n9_
  have BK742 := n10_
  have HR743_2 := n11_
  have HR743_5 := n12_
  have HR744_2 := n13_
  have HR744_5 := n14_
  have HR747_2 := n15_
  have HR747_5 := n16_
  have HR748_2 := n17_
  have HR748_5 := n18_
  have HB := n19_
  clear n0_ n1_ n2_ n3_ n4_ n5_ n6_ n7_ n8_ n9_ n10_ n11_ n12_ n13_ n14_ n15_ n16_ n17_ n18_ n19_
  (try clear hb)
  (try clear hb2)
  (try clear hk)
  (try clear hi)
  refine hK.out _ _ ⟨zT BK735 0, HS1_, HS2_, HS3_, HS4_, HS5_, HS6_, HS7_, HS8_, HS9_, HS10_, HS11_, HS12_⟩ (fun hHeld => ?_)
  clear hK K
  refine norm_ (a' := ?_) ?_ ?_
  rotate_left
  · show Act.put _ (some 38) _ = _; simp only [Act.put, sA, s0, sS, i64_w, i32_w]; rfl
  refine pu 7 (some 31) (bm 12 255) HT_ ?_
  refine pu 8 (some 39) (bm 12 511) HT_ ?_
  refine pu 9 (some 40) (bm 12 1023) HT_ ?_
  refine pu 10 (some 7) (bm 12 2047) HT_ ?_
  refine pu 11 (some 8) (bm 12 4095) HT_ ?_
  refine done_ (done_of HT_.out (by kernel_rfl)) ?_
  try go_wp2
  go_ret
  exact ⟨zE, zB⟩
 rw [if_pos c20] at H
 have c20b0 : (t745 == (wrap64 (-t749))) = true := beq_iff_eq.mpr c20
 have c20b1 : (t745 != (wrap64 (-t749))) = false := bne_eq_false_iff_eq.mpr c20
 clear c20
 by_cases c21 : t740 < 0
 ·
  rw [if_pos c21] at H
  have c21b0 : decide (t740 < 0) = true := decide_eq_true c21
  clear c21
  obtain rfl := Option.some.inj H
  go_enter Tryd.func4, Tryd.ntmps4
  try go_wp2_with (first | ((with_reducible refine gate_dst (N := 1) rfl ?_); (try (refine gate_guard (by rfl) ?_; dsimp only)); refine bx 1 (#[.slice A0 l0.length c0]) 22 ?_; intro gb735 hg w22 hbox hb; have n0_ := Aside0.mk (below_step zB hb); have n1_ := Aside0.mk (hbox); have n2_ := Aside0.mk ((zG hg : w.heap.size ≤ gb735)); have n3_ := Aside0.mk ((zG hg : w.heap.size ≤ gb735)); clear HB; have HB := n0_; have BK735 := n1_; have GW735 := n2_; have GE735 := n3_; clear n0_ n1_ n2_ n3_; clear hb hbox hg) | ((with_reducible refine gate_callee (f := 6) rfl ?_); refine goesL_ (some 9) rfl rfl Tryd.func6 (by kernel_rfl) rfl #[] rfl zM ?_; (with_reducible refine (g15_.calls k  true _ A2.out).mono ?_); rintro e w23 ⟨rfl, hb⟩; refine ⟨_, rfl, ?_⟩; have n0_ := Aside0.mk (blk_below (g := gb735) (o := .cells #[.slice A0 l0.length c0] 22 (0, 0)) (zK BK735) hb); have n1_ := Aside0.mk (below_step zB hb); clear BK735; clear HB; have BK735 := n0_; have HB := n1_; clear n0_ n1_; (try clear hb); (try clear hb2); (try clear hk); (try clear hi); have hcz24_0 : w23.cell? ⟨gb735, 0, none⟩ = some (.slice A0 l0.length c0) := zT BK735 0; have hfz24_0 := blk_frozen BK735.out 0) | ((with_reducible refine gate_callee (f := 7) rfl ?_); refine goesL_ (some 12) rfl rfl Tryd.func7 (by kernel_rfl) rfl #[.slice A0 l0.length c0, .int .i64 5] rfl zM ?_; (with_reducible refine (g11_.calls k _ _ l0 5 t737 _ ?side1 ?side2 ?side3 ?side4 A4.out).mono ?_); (case side1 => exact zC HR0 HB); (case side2 => exact HC0.out); (case side3 => exact (Below.cell zB (World.block_lt_of_cell? w _ GL0_0.out)).trans GL0_0.out); (case side4 => exact (Below.cell zB (World.block_lt_of_cell? w _ GL0_1.out)).trans GL0_1.out); rintro e w25 ⟨v738, rfl, ho0, hb⟩; refine ⟨_, rfl, ?_⟩; have n0_ := Aside0.mk (Kd.S_lower ho0 (below_size zB)); have n1_ := Aside0.mk (blk_below (g := gb735) (o := .cells #[.slice A0 l0.length c0] 22 (0, 0)) (zK BK735) hb); have n2_ := Aside0.mk (below_step zB hb); clear BK735; clear HB; have HO739 := n0_; have BK735 := n1_; have HB := n2_; clear n0_ n1_ n2_; (try clear hb); (try clear hb2); (try clear hk); (try clear hi); (try clear ho0); obtain ⟨Ao26, co26, eo26⟩ := Kd.S_slice HO739.out; subst eo26; have hcz27_0 : w25.cell? ⟨gb735, 0, none⟩ = some (.slice A0 l0.length c0) := zT BK735 0; have hfz27_0 := blk_frozen BK735.out 0) | ((with_reducible refine gate_callee (f := 9) rfl ?_); refine goesL_ (some 18) rfl rfl Tryd.func9 (by kernel_rfl) rfl #[.slice Ao26 t737.length co26] rfl zM ?_; (with_reducible refine (best_Choose.calls k _ _ t737 t740 t741 _ ?side1 ?side2 A12.out).mono ?_); (case side1 => refine (Kd.S_reads' (e := 31) (base := w.heap.size) (ok := fun k_ => True) (n := t737.length) (c := co26) ?_).2.2; exact (by (with_reducible repeat (first | apply Kd.S_alloc | apply Kd.S_drewN | apply Kd.S_drew)); exact (Kd.S_mono (Kd.S_far (p := ⟨gb735, 0, none⟩) (Kd.S_types HO739.out BK735.out (by decide)) (fun _ hk => hk.2) (.slice Ao26 t737.length co26)) (fun _ h_ => h_.1)))); (case side2 => exact (Kd.S_reads' HO739.out).2.1); rintro e w28 ⟨rfl, hb⟩; refine ⟨_, rfl, ?_⟩; have n0_ := Aside0.mk (Kd.S_below (by (with_reducible repeat (first | apply Kd.S_alloc | apply Kd.S_drewN | apply Kd.S_drew)); exact (Kd.S_mono (Kd.S_far (p := ⟨gb735, 0, none⟩) (Kd.S_types HO739.out BK735.out (by decide)) (fun _ hk => hk.2) (.slice Ao26 t737.length co26)) (fun _ h_ => h_.1))) hb); have n1_ := Aside0.mk (blk_below (g := gb735) (o := .cells #[.slice Ao26 t737.length co26] 22 (0, 0)) (by (with_reducible repeat (first | refine blk_drewN ?_ _ | refine blk_drew ?_ | refine blk_alloc ?_ _)); refine blk_put (cs := #[.slice A0 l0.length c0]) ?_ 0 _ rfl; (with_reducible repeat (first | refine blk_drewN ?_ _ | refine blk_drew ?_ | refine blk_alloc ?_ _)); exact BK735.out) hb); have n2_ := Aside0.mk (below_step zB hb); clear HO739; clear BK735; clear HB; have HO739 := n0_; have BK735 := n1_; have HB := n2_; clear n0_ n1_ n2_; (try clear hb); (try clear hb2); (try clear hk); (try clear hi)) | ((with_reducible refine gate_dst (N := 3) rfl ?_); (try (refine gate_guard (by rfl) ?_; dsimp only)); refine bx 3 (#[.int .i64 0]) 3 ?_; intro gb742 hg w29 hbox hb; have n0_ := Aside0.mk (Kd.S_below (Kd.S_elderB (zS HO739) gb742 (Nat.le_of_eq hg.symm)) hb); have n1_ := Aside0.mk (blk_below (g := gb735) (o := .cells #[.slice Ao26 t737.length co26] 22 (0, 0)) (zK BK735) hb); have n2_ := Aside0.mk (below_step zB hb); have n3_ := Aside0.mk (hbox); have n4_ := Aside0.mk ((zG hg : w.heap.size ≤ gb742)); have n5_ := Aside0.mk ((zG hg : w.heap.size ≤ gb742)); have n6_ := Aside0.mk ((by rw [hg]; exact Nat.ne_of_lt (blk_lt (g := gb735) (o := .cells #[.slice Ao26 t737.length co26] 22 (0, 0)) (zK BK735)) : gb735 ≠ gb742)); have n7_ := Aside0.mk ((by rw [hg]; exact Nat.ne_of_gt (blk_lt (g := gb735) (o := .cells #[.slice Ao26 t737.length co26] 22 (0, 0)) (zK BK735)) : gb742 ≠ gb735)); clear HO739; clear BK735; clear HB; have HO739 := n0_; have BK735 := n1_; have HB := n2_; have BK742 := n3_; have GW742 := n4_; have GE742 := n5_; have NB735_742 := n6_; have NB742_735 := n7_; clear n0_ n1_ n2_ n3_ n4_ n5_ n6_ n7_; clear hb hbox hg; have hnb30 := NB742_735.out; have hnc30 := NB735_742.out; have hcz31_0 : w29.cell? ⟨gb742, 0, none⟩ = some (.int .i64 0) := zT BK742 0; have hfz31_0 := blk_frozen BK742.out 0))
  have n0_ : Aside0 (Kd.S k31 31 (w29.setCell ⟨gb742, 0, none⟩ (.int .i64 t740)) w.heap.size (fun k_ => k_ ≠ gb742) (.slice Ao26 t737.length co26) t737) := ⟨by (with_reducible repeat (first | apply Kd.S_alloc | apply Kd.S_drewN | apply Kd.S_drew)); exact Kd.S_mono (Kd.S_far (p := ⟨gb742, 0, none⟩) (Kd.S_mono HO739.out (fun k_ hk => (⟨hk, hk.2⟩ : _ ∧ k_ ≠ gb742))) (fun _ hk => hk.2) (.int .i64 t740)) (fun _ hk => hk.1.2)⟩
  have n1_ : Aside0 ((w29.setCell ⟨gb742, 0, none⟩ (.int .i64 t740)).heap[gb735]? = some (.cells #[.slice Ao26 t737.length co26] 22 (0, 0))) := ⟨by (with_reducible repeat (first | refine blk_drewN ?_ _ | refine blk_drew ?_ | refine blk_alloc ?_ _)); refine blk_far ?_ NB735_742.out _; (with_reducible repeat (first | refine blk_drewN ?_ _ | refine blk_drew ?_ | refine blk_alloc ?_ _)); exact BK735.out⟩
  have n2_ : Aside0 ((w29.setCell ⟨gb742, 0, none⟩ (.int .i64 t740)).heap[gb742]? = some (.cells #[.int .i64 t740] 3 (0, 0))) := ⟨by (with_reducible repeat (first | refine blk_drewN ?_ _ | refine blk_drew ?_ | refine blk_alloc ?_ _)); refine blk_put (cs := #[.int .i64 0]) ?_ 0 _ rfl; (with_reducible repeat (first | refine blk_drewN ?_ _ | refine blk_drew ?_ | refine blk_alloc ?_ _)); exact BK742.out⟩
  have n3_ : Aside0 (Below w.heap.size w (w29.setCell ⟨gb742, 0, none⟩ (.int .i64 t740))) := ⟨zB⟩
  (try clear HO739)
  (try clear BK735)
  (try clear BK742)
  (try clear HB)
  generalize (w29.setCell ⟨gb742, 0, none⟩ (.int .i64 t740)) = w32 at n0_ n1_ n2_ n3_ ⊢
  have HO739 := n0_
  have BK735 := n1_
  have BK742 := n2_
  have HB := n3_
  clear n0_ n1_ n2_ n3_
  have n0_ := Aside0.mk (Kd.S_drew HO739.out)
  have n1_ := Aside0.mk (blk_drew BK735.out)
  have n2_ := Aside0.mk (blk_drew BK742.out)
  have n3_ := Aside0.mk (below_drew1 HB.out)
  clear HO739
  clear BK735
  clear BK742
  clear HB
  have HO739 := n0_
  have BK735 := n1_
  have BK742 := n2_
  have HB := n3_
  clear n0_ n1_ n2_ n3_
  have p743 : 0 ≤ (0 : Int) := (by omega)
  have q743 : 0 < (t737.length : Int) := od
  obtain ⟨ad743, A743_2, c743_2, A743_5, c743_5, e743, hx743_0, hx743_1, hx743_2, hx743_3, hx743_4, hx743_5, hl743_2, hi743_2, hl743_5, hi743_5⟩ := at_T31 (Kd.S_reads' HO739.out).2.2 0 p743 q743
  cases e743
  obtain ⟨ce743, hce743, hMe743, hcc743⟩ := Kd.S_get HO739.out z31 0 p743 (by first | exact q743 | exact od | (have e_ := (Kd.S_reads' HO739.out).1; omega))
  obtain ⟨ve743_2, ve743_5, rfl, ge743_2, ge743_5⟩ := k31_openM hMe743
  have hv743_2 := hcc743 2 _ rfl
  rw [add_field _ _ 2 (by omega)] at hv743_2
  replace hv743_2 := Option.some.inj (hv743_2.symm.trans hx743_2)
  rw [hv743_2] at ge743_2
  have HL743_2 := Aside0.mk (show Kd.R (Kd.int .i64) 3 _ _ _ _ ((rd_T31 t737 0).f1) from ge743_2)
  clear hv743_2 ge743_2
  have hv743_5 := hcc743 5 _ rfl
  rw [add_field _ _ 5 (by omega)] at hv743_5
  replace hv743_5 := Option.some.inj (hv743_5.symm.trans hx743_5)
  rw [hv743_5] at ge743_5
  have HL743_5 := Aside0.mk (show Kd.R (Kd.int .i64) 3 _ _ _ _ ((rd_T31 t737 0).f4) from ge743_5)
  clear hv743_5 ge743_5
  clear hcc743 hce743
  have qi743 : (0 < t737.length) = True := eq_true (by omega)
  (try rw [show ((0 : Int)).toNat = 0 from rfl] at hx743_0)
  (try rw [show 0 * 6 = 0 from rfl] at hx743_0)
  (try rw [Addr.add_zero'] at hx743_0)
  (try rw [show ((0 : Int)).toNat = 0 from rfl] at hx743_1)
  (try rw [show 0 * 6 = 0 from rfl] at hx743_1)
  (try rw [Addr.add_zero'] at hx743_1)
  (try rw [show ((0 : Int)).toNat = 0 from rfl] at hx743_2)
  (try rw [show 0 * 6 = 0 from rfl] at hx743_2)
  (try rw [Addr.add_zero'] at hx743_2)
  (try rw [show ((0 : Int)).toNat = 0 from rfl] at hx743_3)
  (try rw [show 0 * 6 = 0 from rfl] at hx743_3)
  (try rw [Addr.add_zero'] at hx743_3)
  (try rw [show ((0 : Int)).toNat = 0 from rfl] at hx743_4)
  (try rw [show 0 * 6 = 0 from rfl] at hx743_4)
  (try rw [Addr.add_zero'] at hx743_4)
  (try rw [show ((0 : Int)).toNat = 0 from rfl] at hx743_5)
  (try rw [show 0 * 6 = 0 from rfl] at hx743_5)
  (try rw [Addr.add_zero'] at hx743_5)
  have HR743_2 := Aside0.mk hi743_2
  have HC743_2 := Aside0.mk hl743_2
  clear hi743_2 hl743_2
  have HR743_5 := Aside0.mk hi743_5
  have HC743_5 := Aside0.mk hl743_5
  clear hi743_5 hl743_5
  replace p743 := eq_true p743
  replace q743 := eq_true q743
  have p744 : 0 ≤ (1 : Int) := (by omega)
  have q744 : 1 < (t737.length : Int) := od
  obtain ⟨ad744, A744_2, c744_2, A744_5, c744_5, e744, hx744_0, hx744_1, hx744_2, hx744_3, hx744_4, hx744_5, hl744_2, hi744_2, hl744_5, hi744_5⟩ := at_T31 (Kd.S_reads' HO739.out).2.2 1 p744 q744
  obtain rfl : ad743 = ad744 := (by injection e744)
  obtain ⟨ce744, hce744, hMe744, hcc744⟩ := Kd.S_get HO739.out z31 1 p744 (by first | exact q744 | exact od | (have e_ := (Kd.S_reads' HO739.out).1; omega))
  obtain ⟨ve744_2, ve744_5, rfl, ge744_2, ge744_5⟩ := k31_openM hMe744
  have hv744_2 := hcc744 2 _ rfl
  rw [add_field _ _ 2 (by omega)] at hv744_2
  replace hv744_2 := Option.some.inj (hv744_2.symm.trans hx744_2)
  rw [hv744_2] at ge744_2
  have HL744_2 := Aside0.mk (show Kd.R (Kd.int .i64) 3 _ _ _ _ ((rd_T31 t737 1).f1) from ge744_2)
  clear hv744_2 ge744_2
  have hv744_5 := hcc744 5 _ rfl
  rw [add_field _ _ 5 (by omega)] at hv744_5
  replace hv744_5 := Option.some.inj (hv744_5.symm.trans hx744_5)
  rw [hv744_5] at ge744_5
  have HL744_5 := Aside0.mk (show Kd.R (Kd.int .i64) 3 _ _ _ _ ((rd_T31 t737 1).f4) from ge744_5)
  clear hv744_5 ge744_5
  clear hcc744 hce744
  (try simp only [show (1 : Int).toNat = 1 from rfl, Nat.reduceMul, Nat.reduceEqDiff, Go.Addr.add, ↓reduceIte] at hx744_0)
  (try simp only [show (1 : Int).toNat = 1 from rfl, Nat.reduceMul, Nat.reduceEqDiff, Go.Addr.add, ↓reduceIte] at hx744_1)
  (try simp only [show (1 : Int).toNat = 1 from rfl, Nat.reduceMul, Nat.reduceEqDiff, Go.Addr.add, ↓reduceIte] at hx744_2)
  (try simp only [show (1 : Int).toNat = 1 from rfl, Nat.reduceMul, Nat.reduceEqDiff, Go.Addr.add, ↓reduceIte] at hx744_3)
  (try simp only [show (1 : Int).toNat = 1 from rfl, Nat.reduceMul, Nat.reduceEqDiff, Go.Addr.add, ↓reduceIte] at hx744_4)
  (try simp only [show (1 : Int).toNat = 1 from rfl, Nat.reduceMul, Nat.reduceEqDiff, Go.Addr.add, ↓reduceIte] at hx744_5)
  have qi744 : (1 < t737.length) = True := eq_true (by omega)
  (try rw [show ((1 : Int)).toNat = 1 from rfl] at hx744_0)
  (try rw [show 1 * 6 = 6 from rfl] at hx744_0)
  (try rw [show ((1 : Int)).toNat = 1 from rfl] at hx744_1)
  (try rw [show 1 * 6 = 6 from rfl] at hx744_1)
  (try rw [show ((1 : Int)).toNat = 1 from rfl] at hx744_2)
  (try rw [show 1 * 6 = 6 from rfl] at hx744_2)
  (try rw [show ((1 : Int)).toNat = 1 from rfl] at hx744_3)
  (try rw [show 1 * 6 = 6 from rfl] at hx744_3)
  (try rw [show ((1 : Int)).toNat = 1 from rfl] at hx744_4)
  (try rw [show 1 * 6 = 6 from rfl] at hx744_4)
  (try rw [show ((1 : Int)).toNat = 1 from rfl] at hx744_5)
  (try rw [show 1 * 6 = 6 from rfl] at hx744_5)
  have HR744_2 := Aside0.mk hi744_2
  have HC744_2 := Aside0.mk hl744_2
  clear hi744_2 hl744_2
  have HR744_5 := Aside0.mk hi744_5
  have HC744_5 := Aside0.mk hl744_5
  clear hi744_5 hl744_5
  replace p744 := eq_true p744
  replace q744 := eq_true q744
  refine start_ (n := 12) (S := fun w' => w'.cell? ⟨gb735, 0, none⟩ = some (.slice (some ad743) t737.length co26) ∧ w'.cell? ad743 = some (.int .u32 ((rd_T31 t737 0).f0.f0)) ∧ w'.cell? ⟨ad743.block, ad743.off + 1, none⟩ = some (.int .i64 ((rd_T31 t737 0).f0.f1)) ∧ w'.cell? ⟨ad743.block, ad743.off + 2, none⟩ = some (.slice A743_2 ((rd_T31 t737 0).f1).length c743_2) ∧ w'.cell? ⟨ad743.block, ad743.off + 3, none⟩ = some (.int .i64 ((rd_T31 t737 0).f2)) ∧ w'.cell? ⟨ad743.block, ad743.off + 4, none⟩ = some (.int .i64 ((rd_T31 t737 0).f3)) ∧ w'.cell? ⟨ad743.block, ad743.off + 5, none⟩ = some (.slice A743_5 ((rd_T31 t737 0).f4).length c743_5) ∧ w'.cell? ⟨ad743.block, ad743.off + 6, none⟩ = some (.int .u32 ((rd_T31 t737 1).f0.f0)) ∧ w'.cell? ⟨ad743.block, ad743.off + 6 + 1, none⟩ = some (.int .i64 ((rd_T31 t737 1).f0.f1)) ∧ w'.cell? ⟨ad743.block, ad743.off + 6 + 2, none⟩ = some (.slice A744_2 ((rd_T31 t737 1).f1).length c744_2) ∧ w'.cell? ⟨ad743.block, ad743.off + 6 + 3, none⟩ = some (.int .i64 ((rd_T31 t737 1).f2)) ∧ w'.cell? ⟨ad743.block, ad743.off + 6 + 4, none⟩ = some (.int .i64 ((rd_T31 t737 1).f3)) ∧ w'.cell? ⟨ad743.block, ad743.off + 6 + 5, none⟩ = some (.slice A744_5 ((rd_T31 t737 1).f4).length c744_5)) (ds := []) (bm 12 0) (by kernel_rfl) rfl rfl ⟨zT BK735 0, hx743_0, hx743_1, hx743_2, hx743_3, hx743_4, hx743_5, hx744_0, hx744_1, hx744_2, hx744_3, hx744_4, hx744_5⟩ (fun hHeld => ?_); refine with_tabW g8_.tab7 g8_.bits7 (fun HT_ HW_ => ?_)
  generalize w32.drew = w33 at HO739 BK735 BK742 HB HL743_2 HL743_5 HL744_2 HL744_5 HR743_2 HR743_5 HR744_2 HR744_5 hx743_0 hx743_1 hx743_2 hx743_3 hx743_4 hx743_5 hx744_0 hx744_1 hx744_2 hx744_3 hx744_4 hx744_5 hHeld ⊢
  refine tk 0 (some 22) (bm 12 1) HT_ HW_ hHeld ?_
  refine pu 1 (some 23) (bm 12 3) HT_ ?_
  refine tk 2 (some 24) (bm 12 7) HT_ HW_ hHeld ?_
  refine tk 3 (some 25) (bm 12 15) HT_ HW_ hHeld ?_
  refine pu 4 (some 26) (bm 12 31) HT_ ?_
  refine tk 5 (some 27) (bm 12 63) HT_ HW_ hHeld ?_
  refine one_ (i := 6) (N := some 28) (bm 12 127) rfl rfl (one_of HT_.out (by kernel_rfl)) (by decide) (fun K hK => ?_)
  refine goes_ Tryd.func11 (by kernel_rfl) rfl #[.agg #[.int .u32 ((rd_T31 t737 0).f0.f0), .int .i64 ((rd_T31 t737 0).f0.f1), .slice A743_2 ((rd_T31 t737 0).f1).length c743_2, .int .i64 ((rd_T31 t737 0).f2), .int .i64 ((rd_T31 t737 0).f3), .slice A743_5 ((rd_T31 t737 0).f4).length c743_5], .agg #[.int .u32 ((rd_T31 t737 1).f0.f0), .int .i64 ((rd_T31 t737 1).f0.f1), .slice A744_2 ((rd_T31 t737 1).f1).length c744_2, .int .i64 ((rd_T31 t737 1).f2), .int .i64 ((rd_T31 t737 1).f3), .slice A744_5 ((rd_T31 t737 1).f4).length c744_5]] (by rfl) rfl rfl zM ?_
  with_reducible refine (best_Better.calls k ((rd_T31 t737 0).f0.f0) ((rd_T31 t737 0).f0.f1) _ _ ((rd_T31 t737 0).f1) ((rd_T31 t737 0).f2) ((rd_T31 t737 0).f3) _ _ ((rd_T31 t737 0).f4) ((rd_T31 t737 1).f0.f0) ((rd_T31 t737 1).f0.f1) _ _ ((rd_T31 t737 1).f1) ((rd_T31 t737 1).f2) ((rd_T31 t737 1).f3) _ _ ((rd_T31 t737 1).f4) t745 t746 _ ?side1 ?side2 ?side3 ?side4 ?side5 ?side6 ?side7 ?side8 A15.out).mono ?_
  (case side1 => repeat (first | exact (by repeat (first | (with_reducible exact HR743_2.out) | (with_reducible refine Kd.C_alloc ?_ _) | (with_reducible refine Kd.C_drewN ?_ _) | (with_reducible refine Kd.C_drew ?_) | exact HR743_2.out)) | (with_reducible refine Kd.C_alloc ?_ _) | (with_reducible refine Kd.C_drewN ?_ _) | (with_reducible refine Kd.C_drew ?_)))
  (case side2 => exact HC743_2.out)
  (case side3 => repeat (first | exact (by repeat (first | (with_reducible exact HR743_5.out) | (with_reducible refine Kd.C_alloc ?_ _) | (with_reducible refine Kd.C_drewN ?_ _) | (with_reducible refine Kd.C_drew ?_) | exact HR743_5.out)) | (with_reducible refine Kd.C_alloc ?_ _) | (with_reducible refine Kd.C_drewN ?_ _) | (with_reducible refine Kd.C_drew ?_)))
  (case side4 => exact HC743_5.out)
  (case side5 => repeat (first | exact (by repeat (first | (with_reducible exact HR744_2.out) | (with_reducible refine Kd.C_alloc ?_ _) | (with_reducible refine Kd.C_drewN ?_ _) | (with_reducible refine Kd.C_drew ?_) | exact HR744_2.out)) | (with_reducible refine Kd.C_alloc ?_ _) | (with_reducible refine Kd.C_drewN ?_ _) | (with_reducible refine Kd.C_drew ?_)))
  (case side6 => exact HC744_2.out)
  (case side7 => repeat (first | exact (by repeat (first | (with_reducible exact HR744_5.out) | (with_reducible refine Kd.C_alloc ?_ _) | (with_reducible refine Kd.C_drewN ?_ _) | (with_reducible refine Kd.C_drew ?_) | exact HR744_5.out)) | (with_reducible refine Kd.C_alloc ?_ _) | (with_reducible refine Kd.C_drewN ?_ _) | (with_reducible refine Kd.C_drew ?_)))
  (case side8 => exact HC744_5.out)
  rintro e w34 ⟨rfl, hb⟩
  have HS1_ := (hb.cell (World.block_lt_of_cell? _ _ (hHeld.2.1))).trans (hHeld.2.1)
  have HS2_ := (hb.cell (World.block_lt_of_cell? _ _ (hHeld.2.2.1))).trans (hHeld.2.2.1)
  have HS3_ := (hb.cell (World.block_lt_of_cell? _ _ (hHeld.2.2.2.1))).trans (hHeld.2.2.2.1)
  have HS4_ := (hb.cell (World.block_lt_of_cell? _ _ (hHeld.2.2.2.2.1))).trans (hHeld.2.2.2.2.1)
  have HS5_ := (hb.cell (World.block_lt_of_cell? _ _ (hHeld.2.2.2.2.2.1))).trans (hHeld.2.2.2.2.2.1)
  have HS6_ := (hb.cell (World.block_lt_of_cell? _ _ (hHeld.2.2.2.2.2.2.1))).trans (hHeld.2.2.2.2.2.2.1)
  have HS7_ := (hb.cell (World.block_lt_of_cell? _ _ (hHeld.2.2.2.2.2.2.2.1))).trans (hHeld.2.2.2.2.2.2.2.1)
  have HS8_ := (hb.cell (World.block_lt_of_cell? _ _ (hHeld.2.2.2.2.2.2.2.2.1))).trans (hHeld.2.2.2.2.2.2.2.2.1)
  have HS9_ := (hb.cell (World.block_lt_of_cell? _ _ (hHeld.2.2.2.2.2.2.2.2.2.1))).trans (hHeld.2.2.2.2.2.2.2.2.2.1)
  have HS10_ := (hb.cell (World.block_lt_of_cell? _ _ (hHeld.2.2.2.2.2.2.2.2.2.2.1))).trans (hHeld.2.2.2.2.2.2.2.2.2.2.1)
  have HS11_ := (hb.cell (World.block_lt_of_cell? _ _ (hHeld.2.2.2.2.2.2.2.2.2.2.2.1))).trans (hHeld.2.2.2.2.2.2.2.2.2.2.2.1)
  have HS12_ := (hb.cell (World.block_lt_of_cell? _ _ (hHeld.2.2.2.2.2.2.2.2.2.2.2.2))).trans (hHeld.2.2.2.2.2.2.2.2.2.2.2.2)
  refine ⟨_, rfl, ?_⟩
  have n0_ := Aside0.mk (Kd.S_below (zS HO739) hb)
  have n1_ := Aside0.mk (Kd.R_below (zO HL743_2) hb)
  have n2_ := Aside0.mk (Kd.R_below (zO HL743_5) hb)
  have n3_ := Aside0.mk (Kd.R_below (zO HL744_2) hb)
  have n4_ := Aside0.mk (Kd.R_below (zO HL744_5) hb)
  have n5_ := Aside0.mk (blk_below (g := gb735) (o := .cells #[.slice (some ad743) t737.length co26] 22 (0, 0)) (zK BK735) hb)
  have n6_ := Aside0.mk (blk_below (g := gb742) (o := .cells #[.int .i64 t740] 3 (0, 0)) (zK BK742) hb)
  have n7_ := Aside0.mk (Kd.C_below (by repeat (first | (with_reducible exact HR743_2.out) | (with_reducible refine Kd.C_alloc ?_ _) | (with_reducible refine Kd.C_drewN ?_ _) | (with_reducible refine Kd.C_drew ?_) | exact HR743_2.out)) hb)
  have n8_ := Aside0.mk (Kd.C_below (by repeat (first | (with_reducible exact HR743_5.out) | (with_reducible refine Kd.C_alloc ?_ _) | (with_reducible refine Kd.C_drewN ?_ _) | (with_reducible refine Kd.C_drew ?_) | exact HR743_5.out)) hb)
  have n9_ := Aside0.mk (Kd.C_below (by repeat (first | (with_reducible exact HR744_2.out) | (with_reducible refine Kd.C_alloc ?_ _) | (with_reducible refine Kd.C_drewN ?_ _) | (with_reducible refine Kd.C_drew ?_) | exact HR744_2.out)) hb)
  have n10_ := Aside0.mk (Kd.C_below (by repeat (first | (with_reducible exact HR744_5.out) | (with_reducible refine Kd.C_alloc ?_ _) | (with_reducible refine Kd.C_drewN ?_ _) | (with_reducible refine Kd.C_drew ?_) | exact HR744_5.out)) hb)
  have n11_ := Aside0.mk (below_step zB hb)
  clear HO739
  clear HL743_2
  clear HL743_5
  clear HL744_2
  clear HL744_5
  clear BK735
  clear BK742
  clear HR743_2
  clear HR743_5
  clear HR744_2
  clear HR744_5
  clear HB
  have HO739 := n0_
  have HL743_2 := n1_
  have HL743_5 := n2_
  have HL744_2 := n3_
  have HL744_5 := n4_
  have BK735 := n5_
  have BK742 := n6_
  have HR743_2 := n7_
  have HR743_5 := n8_
  have HR744_2 := n9_
  have HR744_5 := n10_
  have HB := n11_
  clear n0_ n1_ n2_ n3_ n4_ n5_ n6_ n7_ n8_ n9_ n10_ n11_
  (try clear hb)
  (try clear hb2)
  (try clear hk)
  (try clear hi)
  refine hK.out _ _ ⟨zT BK735 0, HS1_, HS2_, HS3_, HS4_, HS5_, HS6_, HS7_, HS8_, HS9_, HS10_, HS11_, HS12_⟩ (fun hHeld => ?_)
  clear hK K
  refine norm_ (a' := ?_) ?_ ?_
  rotate_left
  · show Act.put _ (some 28) _ = _; simp only [Act.put, sA, s0, sS, i64_w, i32_w]; rfl
  refine pu 7 (some 21) (bm 12 255) HT_ ?_
  refine pu 8 (some 29) (bm 12 511) HT_ ?_
  refine pu 9 (some 30) (bm 12 1023) HT_ ?_
  refine pu 10 (some 5) (bm 12 2047) HT_ ?_
  refine pu 11 (some 6) (bm 12 4095) HT_ ?_
  refine done_ (done_of HT_.out (by kernel_rfl)) ?_
  try go_wp2
  have n0_ := Aside0.mk (Kd.S_drew HO739.out)
  have n1_ := Aside0.mk (Kd.R_drew HL743_2.out)
  have n2_ := Aside0.mk (Kd.R_drew HL743_5.out)
  have n3_ := Aside0.mk (Kd.R_drew HL744_2.out)
  have n4_ := Aside0.mk (Kd.R_drew HL744_5.out)
  have n5_ := Aside0.mk (blk_drew BK735.out)
  have n6_ := Aside0.mk (blk_drew BK742.out)
  have n7_ := Aside0.mk (Kd.C_drew HR743_2.out)
  have n8_ := Aside0.mk (Kd.C_drew HR743_5.out)
  have n9_ := Aside0.mk (Kd.C_drew HR744_2.out)
  have n10_ := Aside0.mk (Kd.C_drew HR744_5.out)
  have n11_ := Aside0.mk (below_drew1 HB.out)
  clear HO739
  clear HL743_2
  clear HL743_5
  clear HL744_2
  clear HL744_5
  clear BK735
  clear BK742
  clear HR743_2
  clear HR743_5
  clear HR744_2
  clear HR744_5
  clear HB
  have HO739 := n0_
  have HL743_2 := n1_
  have HL743_5 := n2_
  have HL744_2 := n3_
  have HL744_5 := n4_
  have BK735 := n5_
  have BK742 := n6_
  have HR743_2 := n7_
  have HR743_5 := n8_
  have HR744_2 := n9_
  have HR744_5 := n10_
  have HB := n11_
  clear n0_ n1_ n2_ n3_ n4_ n5_ n6_ n7_ n8_ n9_ n10_ n11_
  have p747 : 0 ≤ (1 : Int) := (by omega)
  have q747 : 1 < (t737.length : Int) := od
  obtain ⟨ad747, A747_2, c747_2, A747_5, c747_5, e747, hx747_0, hx747_1, hx747_2, hx747_3, hx747_4, hx747_5, hl747_2, hi747_2, hl747_5, hi747_5⟩ := at_T31 (Kd.S_reads' HO739.out).2.2 1 p747 q747
  obtain rfl : ad743 = ad747 := (by injection e747)
  obtain ⟨ce747, hce747, hMe747, hcc747⟩ := Kd.S_get HO739.out z31 1 p747 (by first | exact q747 | exact od | (have e_ := (Kd.S_reads' HO739.out).1; omega))
  obtain ⟨ve747_2, ve747_5, rfl, ge747_2, ge747_5⟩ := k31_openM hMe747
  have hv747_2 := hcc747 2 _ rfl
  rw [add_field _ _ 2 (by omega)] at hv747_2
  replace hv747_2 := Option.some.inj (hv747_2.symm.trans hx747_2)
  rw [hv747_2] at ge747_2
  have HL747_2 := Aside0.mk (show Kd.R (Kd.int .i64) 3 _ _ _ _ ((rd_T31 t737 1).f1) from ge747_2)
  clear hv747_2 ge747_2
  have hv747_5 := hcc747 5 _ rfl
  rw [add_field _ _ 5 (by omega)] at hv747_5
  replace hv747_5 := Option.some.inj (hv747_5.symm.trans hx747_5)
  rw [hv747_5] at ge747_5
  have HL747_5 := Aside0.mk (show Kd.R (Kd.int .i64) 3 _ _ _ _ ((rd_T31 t737 1).f4) from ge747_5)
  clear hv747_5 ge747_5
  clear hcc747 hce747
  (try simp only [show (1 : Int).toNat = 1 from rfl, Nat.reduceMul, Nat.reduceEqDiff, Go.Addr.add, ↓reduceIte] at hx747_0)
  (try simp only [show (1 : Int).toNat = 1 from rfl, Nat.reduceMul, Nat.reduceEqDiff, Go.Addr.add, ↓reduceIte] at hx747_1)
  (try simp only [show (1 : Int).toNat = 1 from rfl, Nat.reduceMul, Nat.reduceEqDiff, Go.Addr.add, ↓reduceIte] at hx747_2)
  (try simp only [show (1 : Int).toNat = 1 from rfl, Nat.reduceMul, Nat.reduceEqDiff, Go.Addr.add, ↓reduceIte] at hx747_3)
  (try simp only [show (1 : Int).toNat = 1 from rfl, Nat.reduceMul, Nat.reduceEqDiff, Go.Addr.add, ↓reduceIte] at hx747_4)
  (try simp only [show (1 : Int).toNat = 1 from rfl, Nat.reduceMul, Nat.reduceEqDiff, Go.Addr.add, ↓reduceIte] at hx747_5)
  have qi747 : (1 < t737.length) = True := eq_true (by omega)
  (try rw [show ((1 : Int)).toNat = 1 from rfl] at hx747_0)
  (try rw [show 1 * 6 = 6 from rfl] at hx747_0)
  (try rw [show ((1 : Int)).toNat = 1 from rfl] at hx747_1)
  (try rw [show 1 * 6 = 6 from rfl] at hx747_1)
  (try rw [show ((1 : Int)).toNat = 1 from rfl] at hx747_2)
  (try rw [show 1 * 6 = 6 from rfl] at hx747_2)
  (try rw [show ((1 : Int)).toNat = 1 from rfl] at hx747_3)
  (try rw [show 1 * 6 = 6 from rfl] at hx747_3)
  (try rw [show ((1 : Int)).toNat = 1 from rfl] at hx747_4)
  (try rw [show 1 * 6 = 6 from rfl] at hx747_4)
  (try rw [show ((1 : Int)).toNat = 1 from rfl] at hx747_5)
  (try rw [show 1 * 6 = 6 from rfl] at hx747_5)
  have HR747_2 := Aside0.mk hi747_2
  have HC747_2 := Aside0.mk hl747_2
  clear hi747_2 hl747_2
  have HR747_5 := Aside0.mk hi747_5
  have HC747_5 := Aside0.mk hl747_5
  clear hi747_5 hl747_5
  replace p747 := eq_true p747
  replace q747 := eq_true q747
  have p748 : 0 ≤ (0 : Int) := (by omega)
  have q748 : 0 < (t737.length : Int) := od
  obtain ⟨ad748, A748_2, c748_2, A748_5, c748_5, e748, hx748_0, hx748_1, hx748_2, hx748_3, hx748_4, hx748_5, hl748_2, hi748_2, hl748_5, hi748_5⟩ := at_T31 (Kd.S_reads' HO739.out).2.2 0 p748 q748
  obtain rfl : ad743 = ad748 := (by injection e748)
  obtain ⟨ce748, hce748, hMe748, hcc748⟩ := Kd.S_get HO739.out z31 0 p748 (by first | exact q748 | exact od | (have e_ := (Kd.S_reads' HO739.out).1; omega))
  obtain ⟨ve748_2, ve748_5, rfl, ge748_2, ge748_5⟩ := k31_openM hMe748
  have hv748_2 := hcc748 2 _ rfl
  rw [add_field _ _ 2 (by omega)] at hv748_2
  replace hv748_2 := Option.some.inj (hv748_2.symm.trans hx748_2)
  rw [hv748_2] at ge748_2
  have HL748_2 := Aside0.mk (show Kd.R (Kd.int .i64) 3 _ _ _ _ ((rd_T31 t737 0).f1) from ge748_2)
  clear hv748_2 ge748_2
  have hv748_5 := hcc748 5 _ rfl
  rw [add_field _ _ 5 (by omega)] at hv748_5
  replace hv748_5 := Option.some.inj (hv748_5.symm.trans hx748_5)
  rw [hv748_5] at ge748_5
  have HL748_5 := Aside0.mk (show Kd.R (Kd.int .i64) 3 _ _ _ _ ((rd_T31 t737 0).f4) from ge748_5)
  clear hv748_5 ge748_5
  clear hcc748 hce748
  have qi748 : (0 < t737.length) = True := eq_true (by omega)
  (try rw [show ((0 : Int)).toNat = 0 from rfl] at hx748_0)
  (try rw [show 0 * 6 = 0 from rfl] at hx748_0)
  (try rw [Addr.add_zero'] at hx748_0)
  (try rw [show ((0 : Int)).toNat = 0 from rfl] at hx748_1)
  (try rw [show 0 * 6 = 0 from rfl] at hx748_1)
  (try rw [Addr.add_zero'] at hx748_1)
  (try rw [show ((0 : Int)).toNat = 0 from rfl] at hx748_2)
  (try rw [show 0 * 6 = 0 from rfl] at hx748_2)
  (try rw [Addr.add_zero'] at hx748_2)
  (try rw [show ((0 : Int)).toNat = 0 from rfl] at hx748_3)
  (try rw [show 0 * 6 = 0 from rfl] at hx748_3)
  (try rw [Addr.add_zero'] at hx748_3)
  (try rw [show ((0 : Int)).toNat = 0 from rfl] at hx748_4)
  (try rw [show 0 * 6 = 0 from rfl] at hx748_4)
  (try rw [Addr.add_zero'] at hx748_4)
  (try rw [show ((0 : Int)).toNat = 0 from rfl] at hx748_5)
  (try rw [show 0 * 6 = 0 from rfl] at hx748_5)
  (try rw [Addr.add_zero'] at hx748_5)
  have HR748_2 := Aside0.mk hi748_2
  have HC748_2 := Aside0.mk hl748_2
  clear hi748_2 hl748_2
  have HR748_5 := Aside0.mk hi748_5
  have HC748_5 := Aside0.mk hl748_5
  clear hi748_5 hl748_5
  replace p748 := eq_true p748
  replace q748 := eq_true q748
  refine start_ (n := 12) (S := fun w' => w'.cell? ⟨gb735, 0, none⟩ = some (.slice (some ad743) t737.length co26) ∧ w'.cell? ⟨ad743.block, ad743.off + 6, none⟩ = some (.int .u32 ((rd_T31 t737 1).f0.f0)) ∧ w'.cell? ⟨ad743.block, ad743.off + 6 + 1, none⟩ = some (.int .i64 ((rd_T31 t737 1).f0.f1)) ∧ w'.cell? ⟨ad743.block, ad743.off + 6 + 2, none⟩ = some (.slice A747_2 ((rd_T31 t737 1).f1).length c747_2) ∧ w'.cell? ⟨ad743.block, ad743.off + 6 + 3, none⟩ = some (.int .i64 ((rd_T31 t737 1).f2)) ∧ w'.cell? ⟨ad743.block, ad743.off + 6 + 4, none⟩ = some (.int .i64 ((rd_T31 t737 1).f3)) ∧ w'.cell? ⟨ad743.block, ad743.off + 6 + 5, none⟩ = some (.slice A747_5 ((rd_T31 t737 1).f4).length c747_5) ∧ w'.cell? ad743 = some (.int .u32 ((rd_T31 t737 0).f0.f0)) ∧ w'.cell? ⟨ad743.block, ad743.off + 1, none⟩ = some (.int .i64 ((rd_T31 t737 0).f0.f1)) ∧ w'.cell? ⟨ad743.block, ad743.off + 2, none⟩ = some (.slice A748_2 ((rd_T31 t737 0).f1).length c748_2) ∧ w'.cell? ⟨ad743.block, ad743.off + 3, none⟩ = some (.int .i64 ((rd_T31 t737 0).f2)) ∧ w'.cell? ⟨ad743.block, ad743.off + 4, none⟩ = some (.int .i64 ((rd_T31 t737 0).f3)) ∧ w'.cell? ⟨ad743.block, ad743.off + 5, none⟩ = some (.slice A748_5 ((rd_T31 t737 0).f4).length c748_5)) (ds := []) (bm 12 0) (by kernel_rfl) rfl rfl ⟨zT BK735 0, hx747_0, hx747_1, hx747_2, hx747_3, hx747_4, hx747_5, hx748_0, hx748_1, hx748_2, hx748_3, hx748_4, hx748_5⟩ (fun hHeld => ?_); refine with_tabW g8_.tab8 g8_.bits8 (fun HT_ HW_ => ?_)
  generalize w34.drew = w35 at HO739 HL743_2 HL743_5 HL744_2 HL744_5 BK735 BK742 HR743_2 HR743_5 HR744_2 HR744_5 HB HL747_2 HL747_5 HL748_2 HL748_5 HR747_2 HR747_5 HR748_2 HR748_5 hx747_0 hx747_1 hx747_2 hx747_3 hx747_4 hx747_5 hx748_0 hx748_1 hx748_2 hx748_3 hx748_4 hx748_5 hHeld ⊢
  refine tk 0 (some 32) (bm 12 1) HT_ HW_ hHeld ?_
  refine pu 1 (some 33) (bm 12 3) HT_ ?_
  refine tk 2 (some 34) (bm 12 7) HT_ HW_ hHeld ?_
  refine tk 3 (some 35) (bm 12 15) HT_ HW_ hHeld ?_
  refine pu 4 (some 36) (bm 12 31) HT_ ?_
  refine tk 5 (some 37) (bm 12 63) HT_ HW_ hHeld ?_
  refine one_ (i := 6) (N := some 38) (bm 12 127) rfl rfl (one_of HT_.out (by kernel_rfl)) (by decide) (fun K hK => ?_)
  refine goes_ Tryd.func11 (by kernel_rfl) rfl #[.agg #[.int .u32 ((rd_T31 t737 1).f0.f0), .int .i64 ((rd_T31 t737 1).f0.f1), .slice A747_2 ((rd_T31 t737 1).f1).length c747_2, .int .i64 ((rd_T31 t737 1).f2), .int .i64 ((rd_T31 t737 1).f3), .slice A747_5 ((rd_T31 t737 1).f4).length c747_5], .agg #[.int .u32 ((rd_T31 t737 0).f0.f0), .int .i64 ((rd_T31 t737 0).f0.f1), .slice A748_2 ((rd_T31 t737 0).f1).length c748_2, .int .i64 ((rd_T31 t737 0).f2), .int .i64 ((rd_T31 t737 0).f3), .slice A748_5 ((rd_T31 t737 0).f4).length c748_5]] (by rfl) rfl rfl zM ?_
  with_reducible refine (best_Better.calls k ((rd_T31 t737 1).f0.f0) ((rd_T31 t737 1).f0.f1) _ _ ((rd_T31 t737 1).f1) ((rd_T31 t737 1).f2) ((rd_T31 t737 1).f3) _ _ ((rd_T31 t737 1).f4) ((rd_T31 t737 0).f0.f0) ((rd_T31 t737 0).f0.f1) _ _ ((rd_T31 t737 0).f1) ((rd_T31 t737 0).f2) ((rd_T31 t737 0).f3) _ _ ((rd_T31 t737 0).f4) t749 t750 _ ?side1 ?side2 ?side3 ?side4 ?side5 ?side6 ?side7 ?side8 A16.out).mono ?_
  (case side1 => repeat (first | exact (by repeat (first | (with_reducible exact HR747_2.out) | (with_reducible refine Kd.C_alloc ?_ _) | (with_reducible refine Kd.C_drewN ?_ _) | (with_reducible refine Kd.C_drew ?_) | exact HR747_2.out)) | (with_reducible refine Kd.C_alloc ?_ _) | (with_reducible refine Kd.C_drewN ?_ _) | (with_reducible refine Kd.C_drew ?_)))
  (case side2 => exact HC747_2.out)
  (case side3 => repeat (first | exact (by repeat (first | (with_reducible exact HR747_5.out) | (with_reducible refine Kd.C_alloc ?_ _) | (with_reducible refine Kd.C_drewN ?_ _) | (with_reducible refine Kd.C_drew ?_) | exact HR747_5.out)) | (with_reducible refine Kd.C_alloc ?_ _) | (with_reducible refine Kd.C_drewN ?_ _) | (with_reducible refine Kd.C_drew ?_)))
  (case side4 => exact HC747_5.out)
  (case side5 => repeat (first | exact (by repeat (first | (with_reducible exact HR748_2.out) | (with_reducible refine Kd.C_alloc ?_ _) | (with_reducible refine Kd.C_drewN ?_ _) | (with_reducible refine Kd.C_drew ?_) | exact HR748_2.out)) | (with_reducible refine Kd.C_alloc ?_ _) | (with_reducible refine Kd.C_drewN ?_ _) | (with_reducible refine Kd.C_drew ?_)))
  (case side6 => exact HC748_2.out)
  (case side7 => repeat (first | exact (by repeat (first | (with_reducible exact HR748_5.out) | (with_reducible refine Kd.C_alloc ?_ _) | (with_reducible refine Kd.C_drewN ?_ _) | (with_reducible refine Kd.C_drew ?_) | exact HR748_5.out)) | (with_reducible refine Kd.C_alloc ?_ _) | (with_reducible refine Kd.C_drewN ?_ _) | (with_reducible refine Kd.C_drew ?_)))
  (case side8 => exact HC748_5.out)
  rintro e w36 ⟨rfl, hb⟩
  have HS1_ := (hb.cell (World.block_lt_of_cell? _ _ (hHeld.2.1))).trans (hHeld.2.1)
  have HS2_ := (hb.cell (World.block_lt_of_cell? _ _ (hHeld.2.2.1))).trans (hHeld.2.2.1)
  have HS3_ := (hb.cell (World.block_lt_of_cell? _ _ (hHeld.2.2.2.1))).trans (hHeld.2.2.2.1)
  have HS4_ := (hb.cell (World.block_lt_of_cell? _ _ (hHeld.2.2.2.2.1))).trans (hHeld.2.2.2.2.1)
  have HS5_ := (hb.cell (World.block_lt_of_cell? _ _ (hHeld.2.2.2.2.2.1))).trans (hHeld.2.2.2.2.2.1)
  have HS6_ := (hb.cell (World.block_lt_of_cell? _ _ (hHeld.2.2.2.2.2.2.1))).trans (hHeld.2.2.2.2.2.2.1)
  have HS7_ := (hb.cell (World.block_lt_of_cell? _ _ (hHeld.2.2.2.2.2.2.2.1))).trans (hHeld.2.2.2.2.2.2.2.1)
  have HS8_ := (hb.cell (World.block_lt_of_cell? _ _ (hHeld.2.2.2.2.2.2.2.2.1))).trans (hHeld.2.2.2.2.2.2.2.2.1)
  have HS9_ := (hb.cell (World.block_lt_of_cell? _ _ (hHeld.2.2.2.2.2.2.2.2.2.1))).trans (hHeld.2.2.2.2.2.2.2.2.2.1)
  have HS10_ := (hb.cell (World.block_lt_of_cell? _ _ (hHeld.2.2.2.2.2.2.2.2.2.2.1))).trans (hHeld.2.2.2.2.2.2.2.2.2.2.1)
  have HS11_ := (hb.cell (World.block_lt_of_cell? _ _ (hHeld.2.2.2.2.2.2.2.2.2.2.2.1))).trans (hHeld.2.2.2.2.2.2.2.2.2.2.2.1)
  have HS12_ := (hb.cell (World.block_lt_of_cell? _ _ (hHeld.2.2.2.2.2.2.2.2.2.2.2.2))).trans (hHeld.2.2.2.2.2.2.2.2.2.2.2.2)
  refine ⟨_, rfl, ?_⟩
  have n0_ := Aside0.mk (Kd.S_below (zS HO739) hb)
  have n1_ := Aside0.mk (Kd.R_below (zO HL743_2) hb)
  have n2_ := Aside0.mk (Kd.R_below (zO HL743_5) hb)
  have n3_ := Aside0.mk (Kd.R_below (zO HL744_2) hb)
  have n4_ := Aside0.mk (Kd.R_below (zO HL744_5) hb)
  have n5_ := Aside0.mk (Kd.R_below (zO HL747_2) hb)
  have n6_ := Aside0.mk (Kd.R_below (zO HL747_5) hb)
  have n7_ := Aside0.mk (Kd.R_below (zO HL748_2) hb)
  have n8_ := Aside0.mk (Kd.R_below (zO HL748_5) hb)
  have n9_ := Aside0.mk (blk_below (g := gb735) (o := .cells #[.slice (some ad743) t737.length co26] 22 (0, 0)) (zK BK735) hb)
  have n10_ := Aside0.mk (blk_below (g := gb742) (o := .cells #[.int .i64 t740] 3 (0, 0)) (zK BK742) hb)
  have n11_ := Aside0.mk (Kd.C_below (by repeat (first | (with_reducible exact HR743_2.out) | (with_reducible refine Kd.C_alloc ?_ _) | (with_reducible refine Kd.C_drewN ?_ _) | (with_reducible refine Kd.C_drew ?_) | exact HR743_2.out)) hb)
  have n12_ := Aside0.mk (Kd.C_below (by repeat (first | (with_reducible exact HR743_5.out) | (with_reducible refine Kd.C_alloc ?_ _) | (with_reducible refine Kd.C_drewN ?_ _) | (with_reducible refine Kd.C_drew ?_) | exact HR743_5.out)) hb)
  have n13_ := Aside0.mk (Kd.C_below (by repeat (first | (with_reducible exact HR744_2.out) | (with_reducible refine Kd.C_alloc ?_ _) | (with_reducible refine Kd.C_drewN ?_ _) | (with_reducible refine Kd.C_drew ?_) | exact HR744_2.out)) hb)
  have n14_ := Aside0.mk (Kd.C_below (by repeat (first | (with_reducible exact HR744_5.out) | (with_reducible refine Kd.C_alloc ?_ _) | (with_reducible refine Kd.C_drewN ?_ _) | (with_reducible refine Kd.C_drew ?_) | exact HR744_5.out)) hb)
  have n15_ := Aside0.mk (Kd.C_below (by repeat (first | (with_reducible exact HR747_2.out) | (with_reducible refine Kd.C_alloc ?_ _) | (with_reducible refine Kd.C_drewN ?_ _) | (with_reducible refine Kd.C_drew ?_) | exact HR747_2.out)) hb)
  have n16_ := Aside0.mk (Kd.C_below (by repeat (first | (with_reducible exact HR747_5.out) | (with_reducible refine Kd.C_alloc ?_ _) | (with_reducible refine Kd.C_drewN ?_ _) | (with_reducible refine Kd.C_drew ?_) | exact HR747_5.out)) hb)
  have n17_ := Aside0.mk (Kd.C_below (by repeat (first | (with_reducible exact HR748_2.out) | (with_reducible refine Kd.C_alloc ?_ _) | (with_reducible refine Kd.C_drewN ?_ _) | (with_reducible refine Kd.C_drew ?_) | exact HR748_2.out)) hb)
  have n18_ := Aside0.mk (Kd.C_below (by repeat (first | (with_reducible exact HR748_5.out) | (with_reducible refine Kd.C_alloc ?_ _) | (with_reducible refine Kd.C_drewN ?_ _) | (with_reducible refine Kd.C_drew ?_) | exact HR748_5.out)) hb)
  have n19_ := Aside0.mk (below_step zB hb)
  clear HO739
  clear HL743_2
  clear HL743_5
  clear HL744_2
  clear HL744_5
  clear HL747_2
  clear HL747_5
  clear HL748_2
  clear HL748_5
  clear BK735
  clear BK742
  clear HR743_2
  clear HR743_5
  clear HR744_2
  clear HR744_5
  clear HR747_2
  clear HR747_5
  clear HR748_2
  clear HR748_5
  clear HB
  have HO739 := n0_
  have HL743_2 := n1_
  have HL743_5 := n2_
  have HL744_2 := n3_
  have HL744_5 := n4_
  have HL747_2 := n5_
  have HL747_5 := n6_
  have HL748_2 := n7_
  have HL748_5 := n8_
  have BK735 := n9_
  have BK742 := n10_
  have HR743_2 := n11_
  have HR743_5 := n12_
  have HR744_2 := n13_
  have HR744_5 := n14_
  have HR747_2 := n15_
  have HR747_5 := n16_
  have HR748_2 := n17_
  have HR748_5 := n18_
  have HB := n19_
  clear n0_ n1_ n2_ n3_ n4_ n5_ n6_ n7_ n8_ n9_ n10_ n11_ n12_ n13_ n14_ n15_ n16_ n17_ n18_ n19_
  (try clear hb)
  (try clear hb2)
  (try clear hk)
  (try clear hi)
  refine hK.out _ _ ⟨zT BK735 0, HS1_, HS2_, HS3_, HS4_, HS5_, HS6_, HS7_, HS8_, HS9_, HS10_, HS11_, HS12_⟩ (fun hHeld => ?_)
  clear hK K
  refine norm_ (a' := ?_) ?_ ?_
  rotate_left
  · show Act.put _ (some 38) _ = _; simp only [Act.put, sA, s0, sS, i64_w, i32_w]; rfl
  refine pu 7 (some 31) (bm 12 255) HT_ ?_
  refine pu 8 (some 39) (bm 12 511) HT_ ?_
  refine pu 9 (some 40) (bm 12 1023) HT_ ?_
  refine pu 10 (some 7) (bm 12 2047) HT_ ?_
  refine pu 11 (some 8) (bm 12 4095) HT_ ?_
  refine done_ (done_of HT_.out (by kernel_rfl)) ?_
  have hcz37_0 : w36.cell? ⟨gb742, 0, none⟩ = some (.int .i64 t740) := zT BK742 0
  have hfz37_0 := blk_frozen BK742.out 0
  try go_wp2
  go_ret
  exact ⟨zE, zB⟩
 rw [if_neg c21] at H
 have c21b0 : decide (t740 < 0) = false := decide_eq_false c21
 clear c21
 by_cases c38 : t740 ≥ (t737.length : Int)
 ·
  rw [if_pos c38] at H
  have c38b0 : decide ((t737.length : Int) ≤ t740) = true := decide_eq_true c38
  clear c38
  obtain rfl := Option.some.inj H
  go_enter Tryd.func4, Tryd.ntmps4
  try go_wp2_with (first | ((with_reducible refine gate_dst (N := 1) rfl ?_); (try (refine gate_guard (by rfl) ?_; dsimp only)); refine bx 1 (#[.slice A0 l0.length c0]) 22 ?_; intro gb735 hg w39 hbox hb; have n0_ := Aside0.mk (below_step zB hb); have n1_ := Aside0.mk (hbox); have n2_ := Aside0.mk ((zG hg : w.heap.size ≤ gb735)); have n3_ := Aside0.mk ((zG hg : w.heap.size ≤ gb735)); clear HB; have HB := n0_; have BK735 := n1_; have GW735 := n2_; have GE735 := n3_; clear n0_ n1_ n2_ n3_; clear hb hbox hg) | ((with_reducible refine gate_callee (f := 6) rfl ?_); refine goesL_ (some 9) rfl rfl Tryd.func6 (by kernel_rfl) rfl #[] rfl zM ?_; (with_reducible refine (g15_.calls k  true _ A2.out).mono ?_); rintro e w40 ⟨rfl, hb⟩; refine ⟨_, rfl, ?_⟩; have n0_ := Aside0.mk (blk_below (g := gb735) (o := .cells #[.slice A0 l0.length c0] 22 (0, 0)) (zK BK735) hb); have n1_ := Aside0.mk (below_step zB hb); clear BK735; clear HB; have BK735 := n0_; have HB := n1_; clear n0_ n1_; (try clear hb); (try clear hb2); (try clear hk); (try clear hi); have hcz41_0 : w40.cell? ⟨gb735, 0, none⟩ = some (.slice A0 l0.length c0) := zT BK735 0; have hfz41_0 := blk_frozen BK735.out 0) | ((with_reducible refine gate_callee (f := 7) rfl ?_); refine goesL_ (some 12) rfl rfl Tryd.func7 (by kernel_rfl) rfl #[.slice A0 l0.length c0, .int .i64 5] rfl zM ?_; (with_reducible refine (g11_.calls k _ _ l0 5 t737 _ ?side1 ?side2 ?side3 ?side4 A4.out).mono ?_); (case side1 => exact zC HR0 HB); (case side2 => exact HC0.out); (case side3 => exact (Below.cell zB (World.block_lt_of_cell? w _ GL0_0.out)).trans GL0_0.out); (case side4 => exact (Below.cell zB (World.block_lt_of_cell? w _ GL0_1.out)).trans GL0_1.out); rintro e w42 ⟨v738, rfl, ho0, hb⟩; refine ⟨_, rfl, ?_⟩; have n0_ := Aside0.mk (Kd.S_lower ho0 (below_size zB)); have n1_ := Aside0.mk (blk_below (g := gb735) (o := .cells #[.slice A0 l0.length c0] 22 (0, 0)) (zK BK735) hb); have n2_ := Aside0.mk (below_step zB hb); clear BK735; clear HB; have HO739 := n0_; have BK735 := n1_; have HB := n2_; clear n0_ n1_ n2_; (try clear hb); (try clear hb2); (try clear hk); (try clear hi); (try clear ho0); obtain ⟨Ao43, co43, eo43⟩ := Kd.S_slice HO739.out; subst eo43; have hcz44_0 : w42.cell? ⟨gb735, 0, none⟩ = some (.slice A0 l0.length c0) := zT BK735 0; have hfz44_0 := blk_frozen BK735.out 0) | ((with_reducible refine gate_callee (f := 9) rfl ?_); refine goesL_ (some 18) rfl rfl Tryd.func9 (by kernel_rfl) rfl #[.slice Ao43 t737.length co43] rfl zM ?_; (with_reducible refine (best_Choose.calls k _ _ t737 t740 t741 _ ?side1 ?side2 A12.out).mono ?_); (case side1 => refine (Kd.S_reads' (e := 31) (base := w.heap.size) (ok := fun k_ => True) (n := t737.length) (c := co43) ?_).2.2; exact (by (with_reducible repeat (first | apply Kd.S_alloc | apply Kd.S_drewN | apply Kd.S_drew)); exact (Kd.S_mono (Kd.S_far (p := ⟨gb735, 0, none⟩) (Kd.S_types HO739.out BK735.out (by decide)) (fun _ hk => hk.2) (.slice Ao43 t737.length co43)) (fun _ h_ => h_.1)))); (case side2 => exact (Kd.S_reads' HO739.out).2.1); rintro e w45 ⟨rfl, hb⟩; refine ⟨_, rfl, ?_⟩; have n0_ := Aside0.mk (Kd.S_below (by (with_reducible repeat (first | apply Kd.S_alloc | apply Kd.S_drewN | apply Kd.S_drew)); exact (Kd.S_mono (Kd.S_far (p := ⟨gb735, 0, none⟩) (Kd.S_types HO739.out BK735.out (by decide)) (fun _ hk => hk.2) (.slice Ao43 t737.length co43)) (fun _ h_ => h_.1))) hb); have n1_ := Aside0.mk (blk_below (g := gb735) (o := .cells #[.slice Ao43 t737.length co43] 22 (0, 0)) (by (with_reducible repeat (first | refine blk_drewN ?_ _ | refine blk_drew ?_ | refine blk_alloc ?_ _)); refine blk_put (cs := #[.slice A0 l0.length c0]) ?_ 0 _ rfl; (with_reducible repeat (first | refine blk_drewN ?_ _ | refine blk_drew ?_ | refine blk_alloc ?_ _)); exact BK735.out) hb); have n2_ := Aside0.mk (below_step zB hb); clear HO739; clear BK735; clear HB; have HO739 := n0_; have BK735 := n1_; have HB := n2_; clear n0_ n1_ n2_; (try clear hb); (try clear hb2); (try clear hk); (try clear hi)) | ((with_reducible refine gate_dst (N := 3) rfl ?_); (try (refine gate_guard (by rfl) ?_; dsimp only)); refine bx 3 (#[.int .i64 0]) 3 ?_; intro gb742 hg w46 hbox hb; have n0_ := Aside0.mk (Kd.S_below (Kd.S_elderB (zS HO739) gb742 (Nat.le_of_eq hg.symm)) hb); have n1_ := Aside0.mk (blk_below (g := gb735) (o := .cells #[.slice Ao43 t737.length co43] 22 (0, 0)) (zK BK735) hb); have n2_ := Aside0.mk (below_step zB hb); have n3_ := Aside0.mk (hbox); have n4_ := Aside0.mk ((zG hg : w.heap.size ≤ gb742)); have n5_ := Aside0.mk ((zG hg : w.heap.size ≤ gb742)); have n6_ := Aside0.mk ((by rw [hg]; exact Nat.ne_of_lt (blk_lt (g := gb735) (o := .cells #[.slice Ao43 t737.length co43] 22 (0, 0)) (zK BK735)) : gb735 ≠ gb742)); have n7_ := Aside0.mk ((by rw [hg]; exact Nat.ne_of_gt (blk_lt (g := gb735) (o := .cells #[.slice Ao43 t737.length co43] 22 (0, 0)) (zK BK735)) : gb742 ≠ gb735)); clear HO739; clear BK735; clear HB; have HO739 := n0_; have BK735 := n1_; have HB := n2_; have BK742 := n3_; have GW742 := n4_; have GE742 := n5_; have NB735_742 := n6_; have NB742_735 := n7_; clear n0_ n1_ n2_ n3_ n4_ n5_ n6_ n7_; clear hb hbox hg; have hnb47 := NB742_735.out; have hnc47 := NB735_742.out; have hcz48_0 : w46.cell? ⟨gb742, 0, none⟩ = some (.int .i64 0) := zT BK742 0; have hfz48_0 := blk_frozen BK742.out 0))
  have n0_ : Aside0 (Kd.S k31 31 (w46.setCell ⟨gb742, 0, none⟩ (.int .i64 t740)) w.heap.size (fun k_ => k_ ≠ gb742) (.slice Ao43 t737.length co43) t737) := ⟨by (with_reducible repeat (first | apply Kd.S_alloc | apply Kd.S_drewN | apply Kd.S_drew)); exact Kd.S_mono (Kd.S_far (p := ⟨gb742, 0, none⟩) (Kd.S_mono HO739.out (fun k_ hk => (⟨hk, hk.2⟩ : _ ∧ k_ ≠ gb742))) (fun _ hk => hk.2) (.int .i64 t740)) (fun _ hk => hk.1.2)⟩
  have n1_ : Aside0 ((w46.setCell ⟨gb742, 0, none⟩ (.int .i64 t740)).heap[gb735]? = some (.cells #[.slice Ao43 t737.length co43] 22 (0, 0))) := ⟨by (with_reducible repeat (first | refine blk_drewN ?_ _ | refine blk_drew ?_ | refine blk_alloc ?_ _)); refine blk_far ?_ NB735_742.out _; (with_reducible repeat (first | refine blk_drewN ?_ _ | refine blk_drew ?_ | refine blk_alloc ?_ _)); exact BK735.out⟩
  have n2_ : Aside0 ((w46.setCell ⟨gb742, 0, none⟩ (.int .i64 t740)).heap[gb742]? = some (.cells #[.int .i64 t740] 3 (0, 0))) := ⟨by (with_reducible repeat (first | refine blk_drewN ?_ _ | refine blk_drew ?_ | refine blk_alloc ?_ _)); refine blk_put (cs := #[.int .i64 0]) ?_ 0 _ rfl; (with_reducible repeat (first | refine blk_drewN ?_ _ | refine blk_drew ?_ | refine blk_alloc ?_ _)); exact BK742.out⟩
  have n3_ : Aside0 (Below w.heap.size w (w46.setCell ⟨gb742, 0, none⟩ (.int .i64 t740))) := ⟨zB⟩
  (try clear HO739)
  (try clear BK735)
  (try clear BK742)
  (try clear HB)
  generalize (w46.setCell ⟨gb742, 0, none⟩ (.int .i64 t740)) = w49 at n0_ n1_ n2_ n3_ ⊢
  have HO739 := n0_
  have BK735 := n1_
  have BK742 := n2_
  have HB := n3_
  clear n0_ n1_ n2_ n3_
  have n0_ := Aside0.mk (Kd.S_drew HO739.out)
  have n1_ := Aside0.mk (blk_drew BK735.out)
  have n2_ := Aside0.mk (blk_drew BK742.out)
  have n3_ := Aside0.mk (below_drew1 HB.out)
  clear HO739
  clear BK735
  clear BK742
  clear HB
  have HO739 := n0_
  have BK735 := n1_
  have BK742 := n2_
  have HB := n3_
  clear n0_ n1_ n2_ n3_
  have p743 : 0 ≤ (0 : Int) := (by omega)
  have q743 : 0 < (t737.length : Int) := od
  obtain ⟨ad743, A743_2, c743_2, A743_5, c743_5, e743, hx743_0, hx743_1, hx743_2, hx743_3, hx743_4, hx743_5, hl743_2, hi743_2, hl743_5, hi743_5⟩ := at_T31 (Kd.S_reads' HO739.out).2.2 0 p743 q743
  cases e743
  obtain ⟨ce743, hce743, hMe743, hcc743⟩ := Kd.S_get HO739.out z31 0 p743 (by first | exact q743 | exact od | (have e_ := (Kd.S_reads' HO739.out).1; omega))
  obtain ⟨ve743_2, ve743_5, rfl, ge743_2, ge743_5⟩ := k31_openM hMe743
  have hv743_2 := hcc743 2 _ rfl
  rw [add_field _ _ 2 (by omega)] at hv743_2
  replace hv743_2 := Option.some.inj (hv743_2.symm.trans hx743_2)
  rw [hv743_2] at ge743_2
  have HL743_2 := Aside0.mk (show Kd.R (Kd.int .i64) 3 _ _ _ _ ((rd_T31 t737 0).f1) from ge743_2)
  clear hv743_2 ge743_2
  have hv743_5 := hcc743 5 _ rfl
  rw [add_field _ _ 5 (by omega)] at hv743_5
  replace hv743_5 := Option.some.inj (hv743_5.symm.trans hx743_5)
  rw [hv743_5] at ge743_5
  have HL743_5 := Aside0.mk (show Kd.R (Kd.int .i64) 3 _ _ _ _ ((rd_T31 t737 0).f4) from ge743_5)
  clear hv743_5 ge743_5
  clear hcc743 hce743
  have qi743 : (0 < t737.length) = True := eq_true (by omega)
  (try rw [show ((0 : Int)).toNat = 0 from rfl] at hx743_0)
  (try rw [show 0 * 6 = 0 from rfl] at hx743_0)
  (try rw [Addr.add_zero'] at hx743_0)
  (try rw [show ((0 : Int)).toNat = 0 from rfl] at hx743_1)
  (try rw [show 0 * 6 = 0 from rfl] at hx743_1)
  (try rw [Addr.add_zero'] at hx743_1)
  (try rw [show ((0 : Int)).toNat = 0 from rfl] at hx743_2)
  (try rw [show 0 * 6 = 0 from rfl] at hx743_2)
  (try rw [Addr.add_zero'] at hx743_2)
  (try rw [show ((0 : Int)).toNat = 0 from rfl] at hx743_3)
  (try rw [show 0 * 6 = 0 from rfl] at hx743_3)
  (try rw [Addr.add_zero'] at hx743_3)
  (try rw [show ((0 : Int)).toNat = 0 from rfl] at hx743_4)
  (try rw [show 0 * 6 = 0 from rfl] at hx743_4)
  (try rw [Addr.add_zero'] at hx743_4)
  (try rw [show ((0 : Int)).toNat = 0 from rfl] at hx743_5)
  (try rw [show 0 * 6 = 0 from rfl] at hx743_5)
  (try rw [Addr.add_zero'] at hx743_5)
  have HR743_2 := Aside0.mk hi743_2
  have HC743_2 := Aside0.mk hl743_2
  clear hi743_2 hl743_2
  have HR743_5 := Aside0.mk hi743_5
  have HC743_5 := Aside0.mk hl743_5
  clear hi743_5 hl743_5
  replace p743 := eq_true p743
  replace q743 := eq_true q743
  have p744 : 0 ≤ (1 : Int) := (by omega)
  have q744 : 1 < (t737.length : Int) := od
  obtain ⟨ad744, A744_2, c744_2, A744_5, c744_5, e744, hx744_0, hx744_1, hx744_2, hx744_3, hx744_4, hx744_5, hl744_2, hi744_2, hl744_5, hi744_5⟩ := at_T31 (Kd.S_reads' HO739.out).2.2 1 p744 q744
  obtain rfl : ad743 = ad744 := (by injection e744)
  obtain ⟨ce744, hce744, hMe744, hcc744⟩ := Kd.S_get HO739.out z31 1 p744 (by first | exact q744 | exact od | (have e_ := (Kd.S_reads' HO739.out).1; omega))
  obtain ⟨ve744_2, ve744_5, rfl, ge744_2, ge744_5⟩ := k31_openM hMe744
  have hv744_2 := hcc744 2 _ rfl
  rw [add_field _ _ 2 (by omega)] at hv744_2
  replace hv744_2 := Option.some.inj (hv744_2.symm.trans hx744_2)
  rw [hv744_2] at ge744_2
  have HL744_2 := Aside0.mk (show Kd.R (Kd.int .i64) 3 _ _ _ _ ((rd_T31 t737 1).f1) from ge744_2)
  clear hv744_2 ge744_2
  have hv744_5 := hcc744 5 _ rfl
  rw [add_field _ _ 5 (by omega)] at hv744_5
  replace hv744_5 := Option.some.inj (hv744_5.symm.trans hx744_5)
  rw [hv744_5] at ge744_5
  have HL744_5 := Aside0.mk (show Kd.R (Kd.int .i64) 3 _ _ _ _ ((rd_T31 t737 1).f4) from ge744_5)
  clear hv744_5 ge744_5
  clear hcc744 hce744
  (try simp only [show (1 : Int).toNat = 1 from rfl, Nat.reduceMul, Nat.reduceEqDiff, Go.Addr.add, ↓reduceIte] at hx744_0)
  (try simp only [show (1 : Int).toNat = 1 from rfl, Nat.reduceMul, Nat.reduceEqDiff, Go.Addr.add, ↓reduceIte] at hx744_1)
  (try simp only [show (1 : Int).toNat = 1 from rfl, Nat.reduceMul, Nat.reduceEqDiff, Go.Addr.add, ↓reduceIte] at hx744_2)
  (try simp only [show (1 : Int).toNat = 1 from rfl, Nat.reduceMul, Nat.reduceEqDiff, Go.Addr.add, ↓reduceIte] at hx744_3)
  (try simp only [show (1 : Int).toNat = 1 from rfl, Nat.reduceMul, Nat.reduceEqDiff, Go.Addr.add, ↓reduceIte] at hx744_4)
  (try simp only [show (1 : Int).toNat = 1 from rfl, Nat.reduceMul, Nat.reduceEqDiff, Go.Addr.add, ↓reduceIte] at hx744_5)
  have qi744 : (1 < t737.length) = True := eq_true (by omega)
  (try rw [show ((1 : Int)).toNat = 1 from rfl] at hx744_0)
  (try rw [show 1 * 6 = 6 from rfl] at hx744_0)
  (try rw [show ((1 : Int)).toNat = 1 from rfl] at hx744_1)
  (try rw [show 1 * 6 = 6 from rfl] at hx744_1)
  (try rw [show ((1 : Int)).toNat = 1 from rfl] at hx744_2)
  (try rw [show 1 * 6 = 6 from rfl] at hx744_2)
  (try rw [show ((1 : Int)).toNat = 1 from rfl] at hx744_3)
  (try rw [show 1 * 6 = 6 from rfl] at hx744_3)
  (try rw [show ((1 : Int)).toNat = 1 from rfl] at hx744_4)
  (try rw [show 1 * 6 = 6 from rfl] at hx744_4)
  (try rw [show ((1 : Int)).toNat = 1 from rfl] at hx744_5)
  (try rw [show 1 * 6 = 6 from rfl] at hx744_5)
  have HR744_2 := Aside0.mk hi744_2
  have HC744_2 := Aside0.mk hl744_2
  clear hi744_2 hl744_2
  have HR744_5 := Aside0.mk hi744_5
  have HC744_5 := Aside0.mk hl744_5
  clear hi744_5 hl744_5
  replace p744 := eq_true p744
  replace q744 := eq_true q744
  refine start_ (n := 12) (S := fun w' => w'.cell? ⟨gb735, 0, none⟩ = some (.slice (some ad743) t737.length co43) ∧ w'.cell? ad743 = some (.int .u32 ((rd_T31 t737 0).f0.f0)) ∧ w'.cell? ⟨ad743.block, ad743.off + 1, none⟩ = some (.int .i64 ((rd_T31 t737 0).f0.f1)) ∧ w'.cell? ⟨ad743.block, ad743.off + 2, none⟩ = some (.slice A743_2 ((rd_T31 t737 0).f1).length c743_2) ∧ w'.cell? ⟨ad743.block, ad743.off + 3, none⟩ = some (.int .i64 ((rd_T31 t737 0).f2)) ∧ w'.cell? ⟨ad743.block, ad743.off + 4, none⟩ = some (.int .i64 ((rd_T31 t737 0).f3)) ∧ w'.cell? ⟨ad743.block, ad743.off + 5, none⟩ = some (.slice A743_5 ((rd_T31 t737 0).f4).length c743_5) ∧ w'.cell? ⟨ad743.block, ad743.off + 6, none⟩ = some (.int .u32 ((rd_T31 t737 1).f0.f0)) ∧ w'.cell? ⟨ad743.block, ad743.off + 6 + 1, none⟩ = some (.int .i64 ((rd_T31 t737 1).f0.f1)) ∧ w'.cell? ⟨ad743.block, ad743.off + 6 + 2, none⟩ = some (.slice A744_2 ((rd_T31 t737 1).f1).length c744_2) ∧ w'.cell? ⟨ad743.block, ad743.off + 6 + 3, none⟩ = some (.int .i64 ((rd_T31 t737 1).f2)) ∧ w'.cell? ⟨ad743.block, ad743.off + 6 + 4, none⟩ = some (.int .i64 ((rd_T31 t737 1).f3)) ∧ w'.cell? ⟨ad743.block, ad743.off + 6 + 5, none⟩ = some (.slice A744_5 ((rd_T31 t737 1).f4).length c744_5)) (ds := []) (bm 12 0) (by kernel_rfl) rfl rfl ⟨zT BK735 0, hx743_0, hx743_1, hx743_2, hx743_3, hx743_4, hx743_5, hx744_0, hx744_1, hx744_2, hx744_3, hx744_4, hx744_5⟩ (fun hHeld => ?_); refine with_tabW g8_.tab7 g8_.bits7 (fun HT_ HW_ => ?_)
  generalize w49.drew = w50 at HO739 BK735 BK742 HB HL743_2 HL743_5 HL744_2 HL744_5 HR743_2 HR743_5 HR744_2 HR744_5 hx743_0 hx743_1 hx743_2 hx743_3 hx743_4 hx743_5 hx744_0 hx744_1 hx744_2 hx744_3 hx744_4 hx744_5 hHeld ⊢
  refine tk 0 (some 22) (bm 12 1) HT_ HW_ hHeld ?_
  refine pu 1 (some 23) (bm 12 3) HT_ ?_
  refine tk 2 (some 24) (bm 12 7) HT_ HW_ hHeld ?_
  refine tk 3 (some 25) (bm 12 15) HT_ HW_ hHeld ?_
  refine pu 4 (some 26) (bm 12 31) HT_ ?_
  refine tk 5 (some 27) (bm 12 63) HT_ HW_ hHeld ?_
  refine one_ (i := 6) (N := some 28) (bm 12 127) rfl rfl (one_of HT_.out (by kernel_rfl)) (by decide) (fun K hK => ?_)
  refine goes_ Tryd.func11 (by kernel_rfl) rfl #[.agg #[.int .u32 ((rd_T31 t737 0).f0.f0), .int .i64 ((rd_T31 t737 0).f0.f1), .slice A743_2 ((rd_T31 t737 0).f1).length c743_2, .int .i64 ((rd_T31 t737 0).f2), .int .i64 ((rd_T31 t737 0).f3), .slice A743_5 ((rd_T31 t737 0).f4).length c743_5], .agg #[.int .u32 ((rd_T31 t737 1).f0.f0), .int .i64 ((rd_T31 t737 1).f0.f1), .slice A744_2 ((rd_T31 t737 1).f1).length c744_2, .int .i64 ((rd_T31 t737 1).f2), .int .i64 ((rd_T31 t737 1).f3), .slice A744_5 ((rd_T31 t737 1).f4).length c744_5]] (by rfl) rfl rfl zM ?_
  with_reducible refine (best_Better.calls k ((rd_T31 t737 0).f0.f0) ((rd_T31 t737 0).f0.f1) _ _ ((rd_T31 t737 0).f1) ((rd_T31 t737 0).f2) ((rd_T31 t737 0).f3) _ _ ((rd_T31 t737 0).f4) ((rd_T31 t737 1).f0.f0) ((rd_T31 t737 1).f0.f1) _ _ ((rd_T31 t737 1).f1) ((rd_T31 t737 1).f2) ((rd_T31 t737 1).f3) _ _ ((rd_T31 t737 1).f4) t745 t746 _ ?side1 ?side2 ?side3 ?side4 ?side5 ?side6 ?side7 ?side8 A15.out).mono ?_
  (case side1 => repeat (first | exact (by repeat (first | (with_reducible exact HR743_2.out) | (with_reducible refine Kd.C_alloc ?_ _) | (with_reducible refine Kd.C_drewN ?_ _) | (with_reducible refine Kd.C_drew ?_) | exact HR743_2.out)) | (with_reducible refine Kd.C_alloc ?_ _) | (with_reducible refine Kd.C_drewN ?_ _) | (with_reducible refine Kd.C_drew ?_)))
  (case side2 => exact HC743_2.out)
  (case side3 => repeat (first | exact (by repeat (first | (with_reducible exact HR743_5.out) | (with_reducible refine Kd.C_alloc ?_ _) | (with_reducible refine Kd.C_drewN ?_ _) | (with_reducible refine Kd.C_drew ?_) | exact HR743_5.out)) | (with_reducible refine Kd.C_alloc ?_ _) | (with_reducible refine Kd.C_drewN ?_ _) | (with_reducible refine Kd.C_drew ?_)))
  (case side4 => exact HC743_5.out)
  (case side5 => repeat (first | exact (by repeat (first | (with_reducible exact HR744_2.out) | (with_reducible refine Kd.C_alloc ?_ _) | (with_reducible refine Kd.C_drewN ?_ _) | (with_reducible refine Kd.C_drew ?_) | exact HR744_2.out)) | (with_reducible refine Kd.C_alloc ?_ _) | (with_reducible refine Kd.C_drewN ?_ _) | (with_reducible refine Kd.C_drew ?_)))
  (case side6 => exact HC744_2.out)
  (case side7 => repeat (first | exact (by repeat (first | (with_reducible exact HR744_5.out) | (with_reducible refine Kd.C_alloc ?_ _) | (with_reducible refine Kd.C_drewN ?_ _) | (with_reducible refine Kd.C_drew ?_) | exact HR744_5.out)) | (with_reducible refine Kd.C_alloc ?_ _) | (with_reducible refine Kd.C_drewN ?_ _) | (with_reducible refine Kd.C_drew ?_)))
  (case side8 => exact HC744_5.out)
  rintro e w51 ⟨rfl, hb⟩
  have HS1_ := (hb.cell (World.block_lt_of_cell? _ _ (hHeld.2.1))).trans (hHeld.2.1)
  have HS2_ := (hb.cell (World.block_lt_of_cell? _ _ (hHeld.2.2.1))).trans (hHeld.2.2.1)
  have HS3_ := (hb.cell (World.block_lt_of_cell? _ _ (hHeld.2.2.2.1))).trans (hHeld.2.2.2.1)
  have HS4_ := (hb.cell (World.block_lt_of_cell? _ _ (hHeld.2.2.2.2.1))).trans (hHeld.2.2.2.2.1)
  have HS5_ := (hb.cell (World.block_lt_of_cell? _ _ (hHeld.2.2.2.2.2.1))).trans (hHeld.2.2.2.2.2.1)
  have HS6_ := (hb.cell (World.block_lt_of_cell? _ _ (hHeld.2.2.2.2.2.2.1))).trans (hHeld.2.2.2.2.2.2.1)
  have HS7_ := (hb.cell (World.block_lt_of_cell? _ _ (hHeld.2.2.2.2.2.2.2.1))).trans (hHeld.2.2.2.2.2.2.2.1)
  have HS8_ := (hb.cell (World.block_lt_of_cell? _ _ (hHeld.2.2.2.2.2.2.2.2.1))).trans (hHeld.2.2.2.2.2.2.2.2.1)
  have HS9_ := (hb.cell (World.block_lt_of_cell? _ _ (hHeld.2.2.2.2.2.2.2.2.2.1))).trans (hHeld.2.2.2.2.2.2.2.2.2.1)
  have HS10_ := (hb.cell (World.block_lt_of_cell? _ _ (hHeld.2.2.2.2.2.2.2.2.2.2.1))).trans (hHeld.2.2.2.2.2.2.2.2.2.2.1)
  have HS11_ := (hb.cell (World.block_lt_of_cell? _ _ (hHeld.2.2.2.2.2.2.2.2.2.2.2.1))).trans (hHeld.2.2.2.2.2.2.2.2.2.2.2.1)
  have HS12_ := (hb.cell (World.block_lt_of_cell? _ _ (hHeld.2.2.2.2.2.2.2.2.2.2.2.2))).trans (hHeld.2.2.2.2.2.2.2.2.2.2.2.2)
  refine ⟨_, rfl, ?_⟩
  have n0_ := Aside0.mk (Kd.S_below (zS HO739) hb)
  have n1_ := Aside0.mk (Kd.R_below (zO HL743_2) hb)
  have n2_ := Aside0.mk (Kd.R_below (zO HL743_5) hb)
  have n3_ := Aside0.mk (Kd.R_below (zO HL744_2) hb)
  have n4_ := Aside0.mk (Kd.R_below (zO HL744_5) hb)
  have n5_ := Aside0.mk (blk_below (g := gb735) (o := .cells #[.slice (some ad743) t737.length co43] 22 (0, 0)) (zK BK735) hb)
  have n6_ := Aside0.mk (blk_below (g := gb742) (o := .cells #[.int .i64 t740] 3 (0, 0)) (zK BK742) hb)
  have n7_ := Aside0.mk (Kd.C_below (by repeat (first | (with_reducible exact HR743_2.out) | (with_reducible refine Kd.C_alloc ?_ _) | (with_reducible refine Kd.C_drewN ?_ _) | (with_reducible refine Kd.C_drew ?_) | exact HR743_2.out)) hb)
  have n8_ := Aside0.mk (Kd.C_below (by repeat (first | (with_reducible exact HR743_5.out) | (with_reducible refine Kd.C_alloc ?_ _) | (with_reducible refine Kd.C_drewN ?_ _) | (with_reducible refine Kd.C_drew ?_) | exact HR743_5.out)) hb)
  have n9_ := Aside0.mk (Kd.C_below (by repeat (first | (with_reducible exact HR744_2.out) | (with_reducible refine Kd.C_alloc ?_ _) | (with_reducible refine Kd.C_drewN ?_ _) | (with_reducible refine Kd.C_drew ?_) | exact HR744_2.out)) hb)
  have n10_ := Aside0.mk (Kd.C_below (by repeat (first | (with_reducible exact HR744_5.out) | (with_reducible refine Kd.C_alloc ?_ _) | (with_reducible refine Kd.C_drewN ?_ _) | (with_reducible refine Kd.C_drew ?_) | exact HR744_5.out)) hb)
  have n11_ := Aside0.mk (below_step zB hb)
  clear HO739
  clear HL743_2
  clear HL743_5
  clear HL744_2
  clear HL744_5
  clear BK735
  clear BK742
  clear HR743_2
  clear HR743_5
  clear HR744_2
  clear HR744_5
  clear HB
  have HO739 := n0_
  have HL743_2 := n1_
  have HL743_5 := n2_
  have HL744_2 := n3_
  have HL744_5 := n4_
  have BK735 := n5_
  have BK742 := n6_
  have HR743_2 := n7_
  have HR743_5 := n8_
  have HR744_2 := n9_
  have HR744_5 := n10_
  have HB := n11_
  clear n0_ n1_ n2_ n3_ n4_ n5_ n6_ n7_ n8_ n9_ n10_ n11_
  (try clear hb)
  (try clear hb2)
  (try clear hk)
  (try clear hi)
  refine hK.out _ _ ⟨zT BK735 0, HS1_, HS2_, HS3_, HS4_, HS5_, HS6_, HS7_, HS8_, HS9_, HS10_, HS11_, HS12_⟩ (fun hHeld => ?_)
  clear hK K
  refine norm_ (a' := ?_) ?_ ?_
  rotate_left
  · show Act.put _ (some 28) _ = _; simp only [Act.put, sA, s0, sS, i64_w, i32_w]; rfl
  refine pu 7 (some 21) (bm 12 255) HT_ ?_
  refine pu 8 (some 29) (bm 12 511) HT_ ?_
  refine pu 9 (some 30) (bm 12 1023) HT_ ?_
  refine pu 10 (some 5) (bm 12 2047) HT_ ?_
  refine pu 11 (some 6) (bm 12 4095) HT_ ?_
  refine done_ (done_of HT_.out (by kernel_rfl)) ?_
  try go_wp2
  have n0_ := Aside0.mk (Kd.S_drew HO739.out)
  have n1_ := Aside0.mk (Kd.R_drew HL743_2.out)
  have n2_ := Aside0.mk (Kd.R_drew HL743_5.out)
  have n3_ := Aside0.mk (Kd.R_drew HL744_2.out)
  have n4_ := Aside0.mk (Kd.R_drew HL744_5.out)
  have n5_ := Aside0.mk (blk_drew BK735.out)
  have n6_ := Aside0.mk (blk_drew BK742.out)
  have n7_ := Aside0.mk (Kd.C_drew HR743_2.out)
  have n8_ := Aside0.mk (Kd.C_drew HR743_5.out)
  have n9_ := Aside0.mk (Kd.C_drew HR744_2.out)
  have n10_ := Aside0.mk (Kd.C_drew HR744_5.out)
  have n11_ := Aside0.mk (below_drew1 HB.out)
  clear HO739
  clear HL743_2
  clear HL743_5
  clear HL744_2
  clear HL744_5
  clear BK735
  clear BK742
  clear HR743_2
  clear HR743_5
  clear HR744_2
  clear HR744_5
  clear HB
  have HO739 := n0_
  have HL743_2 := n1_
  have HL743_5 := n2_
  have HL744_2 := n3_
  have HL744_5 := n4_
  have BK735 := n5_
  have BK742 := n6_
  have HR743_2 := n7_
  have HR743_5 := n8_
  have HR744_2 := n9_
  have HR744_5 := n10_
  have HB := n11_
  clear n0_ n1_ n2_ n3_ n4_ n5_ n6_ n7_ n8_ n9_ n10_ n11_
  have p747 : 0 ≤ (1 : Int) := (by omega)
  have q747 : 1 < (t737.length : Int) := od
  obtain ⟨ad747, A747_2, c747_2, A747_5, c747_5, e747, hx747_0, hx747_1, hx747_2, hx747_3, hx747_4, hx747_5, hl747_2, hi747_2, hl747_5, hi747_5⟩ := at_T31 (Kd.S_reads' HO739.out).2.2 1 p747 q747
  obtain rfl : ad743 = ad747 := (by injection e747)
  obtain ⟨ce747, hce747, hMe747, hcc747⟩ := Kd.S_get HO739.out z31 1 p747 (by first | exact q747 | exact od | (have e_ := (Kd.S_reads' HO739.out).1; omega))
  obtain ⟨ve747_2, ve747_5, rfl, ge747_2, ge747_5⟩ := k31_openM hMe747
  have hv747_2 := hcc747 2 _ rfl
  rw [add_field _ _ 2 (by omega)] at hv747_2
  replace hv747_2 := Option.some.inj (hv747_2.symm.trans hx747_2)
  rw [hv747_2] at ge747_2
  have HL747_2 := Aside0.mk (show Kd.R (Kd.int .i64) 3 _ _ _ _ ((rd_T31 t737 1).f1) from ge747_2)
  clear hv747_2 ge747_2
  have hv747_5 := hcc747 5 _ rfl
  rw [add_field _ _ 5 (by omega)] at hv747_5
  replace hv747_5 := Option.some.inj (hv747_5.symm.trans hx747_5)
  rw [hv747_5] at ge747_5
  have HL747_5 := Aside0.mk (show Kd.R (Kd.int .i64) 3 _ _ _ _ ((rd_T31 t737 1).f4) from ge747_5)
  clear hv747_5 ge747_5
  clear hcc747 hce747
  (try simp only [show (1 : Int).toNat = 1 from rfl, Nat.reduceMul, Nat.reduceEqDiff, Go.Addr.add, ↓reduceIte] at hx747_0)
  (try simp only [show (1 : Int).toNat = 1 from rfl, Nat.reduceMul, Nat.reduceEqDiff, Go.Addr.add, ↓reduceIte] at hx747_1)
  (try simp only [show (1 : Int).toNat = 1 from rfl, Nat.reduceMul, Nat.reduceEqDiff, Go.Addr.add, ↓reduceIte] at hx747_2)
  (try simp only [show (1 : Int).toNat = 1 from rfl, Nat.reduceMul, Nat.reduceEqDiff, Go.Addr.add, ↓reduceIte] at hx747_3)
  (try simp only [show (1 : Int).toNat = 1 from rfl, Nat.reduceMul, Nat.reduceEqDiff, Go.Addr.add, ↓reduceIte] at hx747_4)
  (try simp only [show (1 : Int).toNat = 1 from rfl, Nat.reduceMul, Nat.reduceEqDiff, Go.Addr.add, ↓reduceIte] at hx747_5)
  have qi747 : (1 < t737.length) = True := eq_true (by omega)
  (try rw [show ((1 : Int)).toNat = 1 from rfl] at hx747_0)
  (try rw [show 1 * 6 = 6 from rfl] at hx747_0)
  (try rw [show ((1 : Int)).toNat = 1 from rfl] at hx747_1)
  (try rw [show 1 * 6 = 6 from rfl] at hx747_1)
  (try rw [show ((1 : Int)).toNat = 1 from rfl] at hx747_2)
  (try rw [show 1 * 6 = 6 from rfl] at hx747_2)
  (try rw [show ((1 : Int)).toNat = 1 from rfl] at hx747_3)
  (try rw [show 1 * 6 = 6 from rfl] at hx747_3)
  (try rw [show ((1 : Int)).toNat = 1 from rfl] at hx747_4)
  (try rw [show 1 * 6 = 6 from rfl] at hx747_4)
  (try rw [show ((1 : Int)).toNat = 1 from rfl] at hx747_5)
  (try rw [show 1 * 6 = 6 from rfl] at hx747_5)
  have HR747_2 := Aside0.mk hi747_2
  have HC747_2 := Aside0.mk hl747_2
  clear hi747_2 hl747_2
  have HR747_5 := Aside0.mk hi747_5
  have HC747_5 := Aside0.mk hl747_5
  clear hi747_5 hl747_5
  replace p747 := eq_true p747
  replace q747 := eq_true q747
  have p748 : 0 ≤ (0 : Int) := (by omega)
  have q748 : 0 < (t737.length : Int) := od
  obtain ⟨ad748, A748_2, c748_2, A748_5, c748_5, e748, hx748_0, hx748_1, hx748_2, hx748_3, hx748_4, hx748_5, hl748_2, hi748_2, hl748_5, hi748_5⟩ := at_T31 (Kd.S_reads' HO739.out).2.2 0 p748 q748
  obtain rfl : ad743 = ad748 := (by injection e748)
  obtain ⟨ce748, hce748, hMe748, hcc748⟩ := Kd.S_get HO739.out z31 0 p748 (by first | exact q748 | exact od | (have e_ := (Kd.S_reads' HO739.out).1; omega))
  obtain ⟨ve748_2, ve748_5, rfl, ge748_2, ge748_5⟩ := k31_openM hMe748
  have hv748_2 := hcc748 2 _ rfl
  rw [add_field _ _ 2 (by omega)] at hv748_2
  replace hv748_2 := Option.some.inj (hv748_2.symm.trans hx748_2)
  rw [hv748_2] at ge748_2
  have HL748_2 := Aside0.mk (show Kd.R (Kd.int .i64) 3 _ _ _ _ ((rd_T31 t737 0).f1) from ge748_2)
  clear hv748_2 ge748_2
  have hv748_5 := hcc748 5 _ rfl
  rw [add_field _ _ 5 (by omega)] at hv748_5
  replace hv748_5 := Option.some.inj (hv748_5.symm.trans hx748_5)
  rw [hv748_5] at ge748_5
  have HL748_5 := Aside0.mk (show Kd.R (Kd.int .i64) 3 _ _ _ _ ((rd_T31 t737 0).f4) from ge748_5)
  clear hv748_5 ge748_5
  clear hcc748 hce748
  have qi748 : (0 < t737.length) = True := eq_true (by omega)
  (try rw [show ((0 : Int)).toNat = 0 from rfl] at hx748_0)
  (try rw [show 0 * 6 = 0 from rfl] at hx748_0)
  (try rw [Addr.add_zero'] at hx748_0)
  (try rw [show ((0 : Int)).toNat = 0 from rfl] at hx748_1)
  (try rw [show 0 * 6 = 0 from rfl] at hx748_1)
  (try rw [Addr.add_zero'] at hx748_1)
  (try rw [show ((0 : Int)).toNat = 0 from rfl] at hx748_2)
  (try rw [show 0 * 6 = 0 from rfl] at hx748_2)
  (try rw [Addr.add_zero'] at hx748_2)
  (try rw [show ((0 : Int)).toNat = 0 from rfl] at hx748_3)
  (try rw [show 0 * 6 = 0 from rfl] at hx748_3)
  (try rw [Addr.add_zero'] at hx748_3)
  (try rw [show ((0 : Int)).toNat = 0 from rfl] at hx748_4)
  (try rw [show 0 * 6 = 0 from rfl] at hx748_4)
  (try rw [Addr.add_zero'] at hx748_4)
  (try rw [show ((0 : Int)).toNat = 0 from rfl] at hx748_5)
  (try rw [show 0 * 6 = 0 from rfl] at hx748_5)
  (try rw [Addr.add_zero'] at hx748_5)
  have HR748_2 := Aside0.mk hi748_2
  have HC748_2 := Aside0.mk hl748_2
  clear hi748_2 hl748_2
  have HR748_5 := Aside0.mk hi748_5
  have HC748_5 := Aside0.mk hl748_5
  clear hi748_5 hl748_5
  replace p748 := eq_true p748
  replace q748 := eq_true q748
  refine start_ (n := 12) (S := fun w' => w'.cell? ⟨gb735, 0, none⟩ = some (.slice (some ad743) t737.length co43) ∧ w'.cell? ⟨ad743.block, ad743.off + 6, none⟩ = some (.int .u32 ((rd_T31 t737 1).f0.f0)) ∧ w'.cell? ⟨ad743.block, ad743.off + 6 + 1, none⟩ = some (.int .i64 ((rd_T31 t737 1).f0.f1)) ∧ w'.cell? ⟨ad743.block, ad743.off + 6 + 2, none⟩ = some (.slice A747_2 ((rd_T31 t737 1).f1).length c747_2) ∧ w'.cell? ⟨ad743.block, ad743.off + 6 + 3, none⟩ = some (.int .i64 ((rd_T31 t737 1).f2)) ∧ w'.cell? ⟨ad743.block, ad743.off + 6 + 4, none⟩ = some (.int .i64 ((rd_T31 t737 1).f3)) ∧ w'.cell? ⟨ad743.block, ad743.off + 6 + 5, none⟩ = some (.slice A747_5 ((rd_T31 t737 1).f4).length c747_5) ∧ w'.cell? ad743 = some (.int .u32 ((rd_T31 t737 0).f0.f0)) ∧ w'.cell? ⟨ad743.block, ad743.off + 1, none⟩ = some (.int .i64 ((rd_T31 t737 0).f0.f1)) ∧ w'.cell? ⟨ad743.block, ad743.off + 2, none⟩ = some (.slice A748_2 ((rd_T31 t737 0).f1).length c748_2) ∧ w'.cell? ⟨ad743.block, ad743.off + 3, none⟩ = some (.int .i64 ((rd_T31 t737 0).f2)) ∧ w'.cell? ⟨ad743.block, ad743.off + 4, none⟩ = some (.int .i64 ((rd_T31 t737 0).f3)) ∧ w'.cell? ⟨ad743.block, ad743.off + 5, none⟩ = some (.slice A748_5 ((rd_T31 t737 0).f4).length c748_5)) (ds := []) (bm 12 0) (by kernel_rfl) rfl rfl ⟨zT BK735 0, hx747_0, hx747_1, hx747_2, hx747_3, hx747_4, hx747_5, hx748_0, hx748_1, hx748_2, hx748_3, hx748_4, hx748_5⟩ (fun hHeld => ?_); refine with_tabW g8_.tab8 g8_.bits8 (fun HT_ HW_ => ?_)
  generalize w51.drew = w52 at HO739 HL743_2 HL743_5 HL744_2 HL744_5 BK735 BK742 HR743_2 HR743_5 HR744_2 HR744_5 HB HL747_2 HL747_5 HL748_2 HL748_5 HR747_2 HR747_5 HR748_2 HR748_5 hx747_0 hx747_1 hx747_2 hx747_3 hx747_4 hx747_5 hx748_0 hx748_1 hx748_2 hx748_3 hx748_4 hx748_5 hHeld ⊢
  refine tk 0 (some 32) (bm 12 1) HT_ HW_ hHeld ?_
  refine pu 1 (some 33) (bm 12 3) HT_ ?_
  refine tk 2 (some 34) (bm 12 7) HT_ HW_ hHeld ?_
  refine tk 3 (some 35) (bm 12 15) HT_ HW_ hHeld ?_
  refine pu 4 (some 36) (bm 12 31) HT_ ?_
  refine tk 5 (some 37) (bm 12 63) HT_ HW_ hHeld ?_
  refine one_ (i := 6) (N := some 38) (bm 12 127) rfl rfl (one_of HT_.out (by kernel_rfl)) (by decide) (fun K hK => ?_)
  refine goes_ Tryd.func11 (by kernel_rfl) rfl #[.agg #[.int .u32 ((rd_T31 t737 1).f0.f0), .int .i64 ((rd_T31 t737 1).f0.f1), .slice A747_2 ((rd_T31 t737 1).f1).length c747_2, .int .i64 ((rd_T31 t737 1).f2), .int .i64 ((rd_T31 t737 1).f3), .slice A747_5 ((rd_T31 t737 1).f4).length c747_5], .agg #[.int .u32 ((rd_T31 t737 0).f0.f0), .int .i64 ((rd_T31 t737 0).f0.f1), .slice A748_2 ((rd_T31 t737 0).f1).length c748_2, .int .i64 ((rd_T31 t737 0).f2), .int .i64 ((rd_T31 t737 0).f3), .slice A748_5 ((rd_T31 t737 0).f4).length c748_5]] (by rfl) rfl rfl zM ?_
  with_reducible refine (best_Better.calls k ((rd_T31 t737 1).f0.f0) ((rd_T31 t737 1).f0.f1) _ _ ((rd_T31 t737 1).f1) ((rd_T31 t737 1).f2) ((rd_T31 t737 1).f3) _ _ ((rd_T31 t737 1).f4) ((rd_T31 t737 0).f0.f0) ((rd_T31 t737 0).f0.f1) _ _ ((rd_T31 t737 0).f1) ((rd_T31 t737 0).f2) ((rd_T31 t737 0).f3) _ _ ((rd_T31 t737 0).f4) t749 t750 _ ?side1 ?side2 ?side3 ?side4 ?side5 ?side6 ?side7 ?side8 A16.out).mono ?_
  (case side1 => repeat (first | exact (by repeat (first | (with_reducible exact HR747_2.out) | (with_reducible refine Kd.C_alloc ?_ _) | (with_reducible refine Kd.C_drewN ?_ _) | (with_reducible refine Kd.C_drew ?_) | exact HR747_2.out)) | (with_reducible refine Kd.C_alloc ?_ _) | (with_reducible refine Kd.C_drewN ?_ _) | (with_reducible refine Kd.C_drew ?_)))
  (case side2 => exact HC747_2.out)
  (case side3 => repeat (first | exact (by repeat (first | (with_reducible exact HR747_5.out) | (with_reducible refine Kd.C_alloc ?_ _) | (with_reducible refine Kd.C_drewN ?_ _) | (with_reducible refine Kd.C_drew ?_) | exact HR747_5.out)) | (with_reducible refine Kd.C_alloc ?_ _) | (with_reducible refine Kd.C_drewN ?_ _) | (with_reducible refine Kd.C_drew ?_)))
  (case side4 => exact HC747_5.out)
  (case side5 => repeat (first | exact (by repeat (first | (with_reducible exact HR748_2.out) | (with_reducible refine Kd.C_alloc ?_ _) | (with_reducible refine Kd.C_drewN ?_ _) | (with_reducible refine Kd.C_drew ?_) | exact HR748_2.out)) | (with_reducible refine Kd.C_alloc ?_ _) | (with_reducible refine Kd.C_drewN ?_ _) | (with_reducible refine Kd.C_drew ?_)))
  (case side6 => exact HC748_2.out)
  (case side7 => repeat (first | exact (by repeat (first | (with_reducible exact HR748_5.out) | (with_reducible refine Kd.C_alloc ?_ _) | (with_reducible refine Kd.C_drewN ?_ _) | (with_reducible refine Kd.C_drew ?_) | exact HR748_5.out)) | (with_reducible refine Kd.C_alloc ?_ _) | (with_reducible refine Kd.C_drewN ?_ _) | (with_reducible refine Kd.C_drew ?_)))
  (case side8 => exact HC748_5.out)
  rintro e w53 ⟨rfl, hb⟩
  have HS1_ := (hb.cell (World.block_lt_of_cell? _ _ (hHeld.2.1))).trans (hHeld.2.1)
  have HS2_ := (hb.cell (World.block_lt_of_cell? _ _ (hHeld.2.2.1))).trans (hHeld.2.2.1)
  have HS3_ := (hb.cell (World.block_lt_of_cell? _ _ (hHeld.2.2.2.1))).trans (hHeld.2.2.2.1)
  have HS4_ := (hb.cell (World.block_lt_of_cell? _ _ (hHeld.2.2.2.2.1))).trans (hHeld.2.2.2.2.1)
  have HS5_ := (hb.cell (World.block_lt_of_cell? _ _ (hHeld.2.2.2.2.2.1))).trans (hHeld.2.2.2.2.2.1)
  have HS6_ := (hb.cell (World.block_lt_of_cell? _ _ (hHeld.2.2.2.2.2.2.1))).trans (hHeld.2.2.2.2.2.2.1)
  have HS7_ := (hb.cell (World.block_lt_of_cell? _ _ (hHeld.2.2.2.2.2.2.2.1))).trans (hHeld.2.2.2.2.2.2.2.1)
  have HS8_ := (hb.cell (World.block_lt_of_cell? _ _ (hHeld.2.2.2.2.2.2.2.2.1))).trans (hHeld.2.2.2.2.2.2.2.2.1)
  have HS9_ := (hb.cell (World.block_lt_of_cell? _ _ (hHeld.2.2.2.2.2.2.2.2.2.1))).trans (hHeld.2.2.2.2.2.2.2.2.2.1)
  have HS10_ := (hb.cell (World.block_lt_of_cell? _ _ (hHeld.2.2.2.2.2.2.2.2.2.2.1))).trans (hHeld.2.2.2.2.2.2.2.2.2.2.1)
  have HS11_ := (hb.cell (World.block_lt_of_cell? _ _ (hHeld.2.2.2.2.2.2.2.2.2.2.2.1))).trans (hHeld.2.2.2.2.2.2.2.2.2.2.2.1)
  have HS12_ := (hb.cell (World.block_lt_of_cell? _ _ (hHeld.2.2.2.2.2.2.2.2.2.2.2.2))).trans (hHeld.2.2.2.2.2.2.2.2.2.2.2.2)
  refine ⟨_, rfl, ?_⟩
  have n0_ := Aside0.mk (Kd.S_below (zS HO739) hb)
  have n1_ := Aside0.mk (Kd.R_below (zO HL743_2) hb)
  have n2_ := Aside0.mk (Kd.R_below (zO HL743_5) hb)
  have n3_ := Aside0.mk (Kd.R_below (zO HL744_2) hb)
  have n4_ := Aside0.mk (Kd.R_below (zO HL744_5) hb)
  have n5_ := Aside0.mk (Kd.R_below (zO HL747_2) hb)
  have n6_ := Aside0.mk (Kd.R_below (zO HL747_5) hb)
  have n7_ := Aside0.mk (Kd.R_below (zO HL748_2) hb)
  have n8_ := Aside0.mk (Kd.R_below (zO HL748_5) hb)
  have n9_ := Aside0.mk (blk_below (g := gb735) (o := .cells #[.slice (some ad743) t737.length co43] 22 (0, 0)) (zK BK735) hb)
  have n10_ := Aside0.mk (blk_below (g := gb742) (o := .cells #[.int .i64 t740] 3 (0, 0)) (zK BK742) hb)
  have n11_ := Aside0.mk (Kd.C_below (by repeat (first | (with_reducible exact HR743_2.out) | (with_reducible refine Kd.C_alloc ?_ _) | (with_reducible refine Kd.C_drewN ?_ _) | (with_reducible refine Kd.C_drew ?_) | exact HR743_2.out)) hb)
  have n12_ := Aside0.mk (Kd.C_below (by repeat (first | (with_reducible exact HR743_5.out) | (with_reducible refine Kd.C_alloc ?_ _) | (with_reducible refine Kd.C_drewN ?_ _) | (with_reducible refine Kd.C_drew ?_) | exact HR743_5.out)) hb)
  have n13_ := Aside0.mk (Kd.C_below (by repeat (first | (with_reducible exact HR744_2.out) | (with_reducible refine Kd.C_alloc ?_ _) | (with_reducible refine Kd.C_drewN ?_ _) | (with_reducible refine Kd.C_drew ?_) | exact HR744_2.out)) hb)
  have n14_ := Aside0.mk (Kd.C_below (by repeat (first | (with_reducible exact HR744_5.out) | (with_reducible refine Kd.C_alloc ?_ _) | (with_reducible refine Kd.C_drewN ?_ _) | (with_reducible refine Kd.C_drew ?_) | exact HR744_5.out)) hb)
  have n15_ := Aside0.mk (Kd.C_below (by repeat (first | (with_reducible exact HR747_2.out) | (with_reducible refine Kd.C_alloc ?_ _) | (with_reducible refine Kd.C_drewN ?_ _) | (with_reducible refine Kd.C_drew ?_) | exact HR747_2.out)) hb)
  have n16_ := Aside0.mk (Kd.C_below (by repeat (first | (with_reducible exact HR747_5.out) | (with_reducible refine Kd.C_alloc ?_ _) | (with_reducible refine Kd.C_drewN ?_ _) | (with_reducible refine Kd.C_drew ?_) | exact HR747_5.out)) hb)
  have n17_ := Aside0.mk (Kd.C_below (by repeat (first | (with_reducible exact HR748_2.out) | (with_reducible refine Kd.C_alloc ?_ _) | (with_reducible refine Kd.C_drewN ?_ _) | (with_reducible refine Kd.C_drew ?_) | exact HR748_2.out)) hb)
  have n18_ := Aside0.mk (Kd.C_below (by repeat (first | (with_reducible exact HR748_5.out) | (with_reducible refine Kd.C_alloc ?_ _) | (with_reducible refine Kd.C_drewN ?_ _) | (with_reducible refine Kd.C_drew ?_) | exact HR748_5.out)) hb)
  have n19_ := Aside0.mk (below_step zB hb)
  clear HO739
  clear HL743_2
  clear HL743_5
  clear HL744_2
  clear HL744_5
  clear HL747_2
  clear HL747_5
  clear HL748_2
  clear HL748_5
  clear BK735
  clear BK742
  clear HR743_2
  clear HR743_5
  clear HR744_2
  clear HR744_5
  clear HR747_2
  clear HR747_5
  clear HR748_2
  clear HR748_5
  clear HB
  have HO739 := n0_
  have HL743_2 := n1_
  have HL743_5 := n2_
  have HL744_2 := n3_
  have HL744_5 := n4_
  have HL747_2 := n5_
  have HL747_5 := n6_
  have HL748_2 := n7_
  have HL748_5 := n8_
  have BK735 := n9_
  have BK742 := n10_
  have HR743_2 := n11_
  have HR743_5 := n12_
  have HR744_2 := n13_
  have HR744_5 := n14_
  have HR747_2 := n15_
  have HR747_5 := n16_
  have HR748_2 := n17_
  have HR748_5 := n18_
  have HB := n19_
  clear n0_ n1_ n2_ n3_ n4_ n5_ n6_ n7_ n8_ n9_ n10_ n11_ n12_ n13_ n14_ n15_ n16_ n17_ n18_ n19_
  (try clear hb)
  (try clear hb2)
  (try clear hk)
  (try clear hi)
  refine hK.out _ _ ⟨zT BK735 0, HS1_, HS2_, HS3_, HS4_, HS5_, HS6_, HS7_, HS8_, HS9_, HS10_, HS11_, HS12_⟩ (fun hHeld => ?_)
  clear hK K
  refine norm_ (a' := ?_) ?_ ?_
  rotate_left
  · show Act.put _ (some 38) _ = _; simp only [Act.put, sA, s0, sS, i64_w, i32_w]; rfl
  refine pu 7 (some 31) (bm 12 255) HT_ ?_
  refine pu 8 (some 39) (bm 12 511) HT_ ?_
  refine pu 9 (some 40) (bm 12 1023) HT_ ?_
  refine pu 10 (some 7) (bm 12 2047) HT_ ?_
  refine pu 11 (some 8) (bm 12 4095) HT_ ?_
  refine done_ (done_of HT_.out (by kernel_rfl)) ?_
  have hcz54_0 : w53.cell? ⟨gb742, 0, none⟩ = some (.int .i64 t740) := zT BK742 0
  have hfz54_0 := blk_frozen BK742.out 0
  have hcz55_0 : w53.cell? ⟨gb735, 0, none⟩ = some (.slice (some ad743) t737.length co43) := zT BK735 0
  have hfz55_0 := blk_frozen BK735.out 0
  try go_wp2
  go_ret
  exact ⟨zE, zB⟩
 rw [if_neg c38] at H
 have c38b0 : decide ((t737.length : Int) ≤ t740) = false := decide_eq_false c38
 clear c38
 replace H := Option.bind_eq_some_iff.mp H
 obtain ⟨t751, A560, H⟩ := H
 replace H : (some (!t751)) = some r := H
 have A56 := Aside0.mk A560
 clear A560
 obtain rfl := Option.some.inj H
 go_enter Tryd.func4, Tryd.ntmps4
 try go_wp2_with (first | ((with_reducible refine gate_dst (N := 1) rfl ?_); (try (refine gate_guard (by rfl) ?_; dsimp only)); refine bx 1 (#[.slice A0 l0.length c0]) 22 ?_; intro gb735 hg w57 hbox hb; have n0_ := Aside0.mk (below_step zB hb); have n1_ := Aside0.mk (hbox); have n2_ := Aside0.mk ((zG hg : w.heap.size ≤ gb735)); have n3_ := Aside0.mk ((zG hg : w.heap.size ≤ gb735)); clear HB; have HB := n0_; have BK735 := n1_; have GW735 := n2_; have GE735 := n3_; clear n0_ n1_ n2_ n3_; clear hb hbox hg) | ((with_reducible refine gate_callee (f := 6) rfl ?_); refine goesL_ (some 9) rfl rfl Tryd.func6 (by kernel_rfl) rfl #[] rfl zM ?_; (with_reducible refine (g15_.calls k  true _ A2.out).mono ?_); rintro e w58 ⟨rfl, hb⟩; refine ⟨_, rfl, ?_⟩; have n0_ := Aside0.mk (blk_below (g := gb735) (o := .cells #[.slice A0 l0.length c0] 22 (0, 0)) (zK BK735) hb); have n1_ := Aside0.mk (below_step zB hb); clear BK735; clear HB; have BK735 := n0_; have HB := n1_; clear n0_ n1_; (try clear hb); (try clear hb2); (try clear hk); (try clear hi); have hcz59_0 : w58.cell? ⟨gb735, 0, none⟩ = some (.slice A0 l0.length c0) := zT BK735 0; have hfz59_0 := blk_frozen BK735.out 0) | ((with_reducible refine gate_callee (f := 7) rfl ?_); refine goesL_ (some 12) rfl rfl Tryd.func7 (by kernel_rfl) rfl #[.slice A0 l0.length c0, .int .i64 5] rfl zM ?_; (with_reducible refine (g11_.calls k _ _ l0 5 t737 _ ?side1 ?side2 ?side3 ?side4 A4.out).mono ?_); (case side1 => exact zC HR0 HB); (case side2 => exact HC0.out); (case side3 => exact (Below.cell zB (World.block_lt_of_cell? w _ GL0_0.out)).trans GL0_0.out); (case side4 => exact (Below.cell zB (World.block_lt_of_cell? w _ GL0_1.out)).trans GL0_1.out); rintro e w60 ⟨v738, rfl, ho0, hb⟩; refine ⟨_, rfl, ?_⟩; have n0_ := Aside0.mk (Kd.S_lower ho0 (below_size zB)); have n1_ := Aside0.mk (blk_below (g := gb735) (o := .cells #[.slice A0 l0.length c0] 22 (0, 0)) (zK BK735) hb); have n2_ := Aside0.mk (below_step zB hb); clear BK735; clear HB; have HO739 := n0_; have BK735 := n1_; have HB := n2_; clear n0_ n1_ n2_; (try clear hb); (try clear hb2); (try clear hk); (try clear hi); (try clear ho0); obtain ⟨Ao61, co61, eo61⟩ := Kd.S_slice HO739.out; subst eo61; have hcz62_0 : w60.cell? ⟨gb735, 0, none⟩ = some (.slice A0 l0.length c0) := zT BK735 0; have hfz62_0 := blk_frozen BK735.out 0) | ((with_reducible refine gate_callee (f := 9) rfl ?_); refine goesL_ (some 18) rfl rfl Tryd.func9 (by kernel_rfl) rfl #[.slice Ao61 t737.length co61] rfl zM ?_; (with_reducible refine (best_Choose.calls k _ _ t737 t740 t741 _ ?side1 ?side2 A12.out).mono ?_); (case side1 => refine (Kd.S_reads' (e := 31) (base := w.heap.size) (ok := fun k_ => True) (n := t737.length) (c := co61) ?_).2.2; exact (by (with_reducible repeat (first | apply Kd.S_alloc | apply Kd.S_drewN | apply Kd.S_drew)); exact (Kd.S_mono (Kd.S_far (p := ⟨gb735, 0, none⟩) (Kd.S_types HO739.out BK735.out (by decide)) (fun _ hk => hk.2) (.slice Ao61 t737.length co61)) (fun _ h_ => h_.1)))); (case side2 => exact (Kd.S_reads' HO739.out).2.1); rintro e w63 ⟨rfl, hb⟩; refine ⟨_, rfl, ?_⟩; have n0_ := Aside0.mk (Kd.S_below (by (with_reducible repeat (first | apply Kd.S_alloc | apply Kd.S_drewN | apply Kd.S_drew)); exact (Kd.S_mono (Kd.S_far (p := ⟨gb735, 0, none⟩) (Kd.S_types HO739.out BK735.out (by decide)) (fun _ hk => hk.2) (.slice Ao61 t737.length co61)) (fun _ h_ => h_.1))) hb); have n1_ := Aside0.mk (blk_below (g := gb735) (o := .cells #[.slice Ao61 t737.length co61] 22 (0, 0)) (by (with_reducible repeat (first | refine blk_drewN ?_ _ | refine blk_drew ?_ | refine blk_alloc ?_ _)); refine blk_put (cs := #[.slice A0 l0.length c0]) ?_ 0 _ rfl; (with_reducible repeat (first | refine blk_drewN ?_ _ | refine blk_drew ?_ | refine blk_alloc ?_ _)); exact BK735.out) hb); have n2_ := Aside0.mk (below_step zB hb); clear HO739; clear BK735; clear HB; have HO739 := n0_; have BK735 := n1_; have HB := n2_; clear n0_ n1_ n2_; (try clear hb); (try clear hb2); (try clear hk); (try clear hi)) | ((with_reducible refine gate_dst (N := 3) rfl ?_); (try (refine gate_guard (by rfl) ?_; dsimp only)); refine bx 3 (#[.int .i64 0]) 3 ?_; intro gb742 hg w64 hbox hb; have n0_ := Aside0.mk (Kd.S_below (Kd.S_elderB (zS HO739) gb742 (Nat.le_of_eq hg.symm)) hb); have n1_ := Aside0.mk (blk_below (g := gb735) (o := .cells #[.slice Ao61 t737.length co61] 22 (0, 0)) (zK BK735) hb); have n2_ := Aside0.mk (below_step zB hb); have n3_ := Aside0.mk (hbox); have n4_ := Aside0.mk ((zG hg : w.heap.size ≤ gb742)); have n5_ := Aside0.mk ((zG hg : w.heap.size ≤ gb742)); have n6_ := Aside0.mk ((by rw [hg]; exact Nat.ne_of_lt (blk_lt (g := gb735) (o := .cells #[.slice Ao61 t737.length co61] 22 (0, 0)) (zK BK735)) : gb735 ≠ gb742)); have n7_ := Aside0.mk ((by rw [hg]; exact Nat.ne_of_gt (blk_lt (g := gb735) (o := .cells #[.slice Ao61 t737.length co61] 22 (0, 0)) (zK BK735)) : gb742 ≠ gb735)); clear HO739; clear BK735; clear HB; have HO739 := n0_; have BK735 := n1_; have HB := n2_; have BK742 := n3_; have GW742 := n4_; have GE742 := n5_; have NB735_742 := n6_; have NB742_735 := n7_; clear n0_ n1_ n2_ n3_ n4_ n5_ n6_ n7_; clear hb hbox hg; have hnb65 := NB742_735.out; have hnc65 := NB735_742.out; have hcz66_0 : w64.cell? ⟨gb742, 0, none⟩ = some (.int .i64 0) := zT BK742 0; have hfz66_0 := blk_frozen BK742.out 0))
 have n0_ : Aside0 (Kd.S k31 31 (w64.setCell ⟨gb742, 0, none⟩ (.int .i64 t740)) w.heap.size (fun k_ => k_ ≠ gb742) (.slice Ao61 t737.length co61) t737) := ⟨by (with_reducible repeat (first | apply Kd.S_alloc | apply Kd.S_drewN | apply Kd.S_drew)); exact Kd.S_mono (Kd.S_far (p := ⟨gb742, 0, none⟩) (Kd.S_mono HO739.out (fun k_ hk => (⟨hk, hk.2⟩ : _ ∧ k_ ≠ gb742))) (fun _ hk => hk.2) (.int .i64 t740)) (fun _ hk => hk.1.2)⟩
 have n1_ : Aside0 ((w64.setCell ⟨gb742, 0, none⟩ (.int .i64 t740)).heap[gb735]? = some (.cells #[.slice Ao61 t737.length co61] 22 (0, 0))) := ⟨by (with_reducible repeat (first | refine blk_drewN ?_ _ | refine blk_drew ?_ | refine blk_alloc ?_ _)); refine blk_far ?_ NB735_742.out _; (with_reducible repeat (first | refine blk_drewN ?_ _ | refine blk_drew ?_ | refine blk_alloc ?_ _)); exact BK735.out⟩
 have n2_ : Aside0 ((w64.setCell ⟨gb742, 0, none⟩ (.int .i64 t740)).heap[gb742]? = some (.cells #[.int .i64 t740] 3 (0, 0))) := ⟨by (with_reducible repeat (first | refine blk_drewN ?_ _ | refine blk_drew ?_ | refine blk_alloc ?_ _)); refine blk_put (cs := #[.int .i64 0]) ?_ 0 _ rfl; (with_reducible repeat (first | refine blk_drewN ?_ _ | refine blk_drew ?_ | refine blk_alloc ?_ _)); exact BK742.out⟩
 have n3_ : Aside0 (Below w.heap.size w (w64.setCell ⟨gb742, 0, none⟩ (.int .i64 t740))) := ⟨zB⟩
 (try clear HO739)
 (try clear BK735)
 (try clear BK742)
 (try clear HB)
 generalize (w64.setCell ⟨gb742, 0, none⟩ (.int .i64 t740)) = w67 at n0_ n1_ n2_ n3_ ⊢
 have HO739 := n0_
 have BK735 := n1_
 have BK742 := n2_
 have HB := n3_
 clear n0_ n1_ n2_ n3_
 have n0_ := Aside0.mk (Kd.S_drew HO739.out)
 have n1_ := Aside0.mk (blk_drew BK735.out)
 have n2_ := Aside0.mk (blk_drew BK742.out)
 have n3_ := Aside0.mk (below_drew1 HB.out)
 clear HO739
 clear BK735
 clear BK742
 clear HB
 have HO739 := n0_
 have BK735 := n1_
 have BK742 := n2_
 have HB := n3_
 clear n0_ n1_ n2_ n3_
 have p743 : 0 ≤ (0 : Int) := (by omega)
 have q743 : 0 < (t737.length : Int) := od
 obtain ⟨ad743, A743_2, c743_2, A743_5, c743_5, e743, hx743_0, hx743_1, hx743_2, hx743_3, hx743_4, hx743_5, hl743_2, hi743_2, hl743_5, hi743_5⟩ := at_T31 (Kd.S_reads' HO739.out).2.2 0 p743 q743
 cases e743
 obtain ⟨ce743, hce743, hMe743, hcc743⟩ := Kd.S_get HO739.out z31 0 p743 (by first | exact q743 | exact od | (have e_ := (Kd.S_reads' HO739.out).1; omega))
 obtain ⟨ve743_2, ve743_5, rfl, ge743_2, ge743_5⟩ := k31_openM hMe743
 have hv743_2 := hcc743 2 _ rfl
 rw [add_field _ _ 2 (by omega)] at hv743_2
 replace hv743_2 := Option.some.inj (hv743_2.symm.trans hx743_2)
 rw [hv743_2] at ge743_2
 have HL743_2 := Aside0.mk (show Kd.R (Kd.int .i64) 3 _ _ _ _ ((rd_T31 t737 0).f1) from ge743_2)
 clear hv743_2 ge743_2
 have hv743_5 := hcc743 5 _ rfl
 rw [add_field _ _ 5 (by omega)] at hv743_5
 replace hv743_5 := Option.some.inj (hv743_5.symm.trans hx743_5)
 rw [hv743_5] at ge743_5
 have HL743_5 := Aside0.mk (show Kd.R (Kd.int .i64) 3 _ _ _ _ ((rd_T31 t737 0).f4) from ge743_5)
 clear hv743_5 ge743_5
 clear hcc743 hce743
 have qi743 : (0 < t737.length) = True := eq_true (by omega)
 (try rw [show ((0 : Int)).toNat = 0 from rfl] at hx743_0)
 (try rw [show 0 * 6 = 0 from rfl] at hx743_0)
 (try rw [Addr.add_zero'] at hx743_0)
 (try rw [show ((0 : Int)).toNat = 0 from rfl] at hx743_1)
 (try rw [show 0 * 6 = 0 from rfl] at hx743_1)
 (try rw [Addr.add_zero'] at hx743_1)
 (try rw [show ((0 : Int)).toNat = 0 from rfl] at hx743_2)
 (try rw [show 0 * 6 = 0 from rfl] at hx743_2)
 (try rw [Addr.add_zero'] at hx743_2)
 (try rw [show ((0 : Int)).toNat = 0 from rfl] at hx743_3)
 (try rw [show 0 * 6 = 0 from rfl] at hx743_3)
 (try rw [Addr.add_zero'] at hx743_3)
 (try rw [show ((0 : Int)).toNat = 0 from rfl] at hx743_4)
 (try rw [show 0 * 6 = 0 from rfl] at hx743_4)
 (try rw [Addr.add_zero'] at hx743_4)
 (try rw [show ((0 : Int)).toNat = 0 from rfl] at hx743_5)
 (try rw [show 0 * 6 = 0 from rfl] at hx743_5)
 (try rw [Addr.add_zero'] at hx743_5)
 have HR743_2 := Aside0.mk hi743_2
 have HC743_2 := Aside0.mk hl743_2
 clear hi743_2 hl743_2
 have HR743_5 := Aside0.mk hi743_5
 have HC743_5 := Aside0.mk hl743_5
 clear hi743_5 hl743_5
 replace p743 := eq_true p743
 replace q743 := eq_true q743
 have p744 : 0 ≤ (1 : Int) := (by omega)
 have q744 : 1 < (t737.length : Int) := od
 obtain ⟨ad744, A744_2, c744_2, A744_5, c744_5, e744, hx744_0, hx744_1, hx744_2, hx744_3, hx744_4, hx744_5, hl744_2, hi744_2, hl744_5, hi744_5⟩ := at_T31 (Kd.S_reads' HO739.out).2.2 1 p744 q744
 obtain rfl : ad743 = ad744 := (by injection e744)
 obtain ⟨ce744, hce744, hMe744, hcc744⟩ := Kd.S_get HO739.out z31 1 p744 (by first | exact q744 | exact od | (have e_ := (Kd.S_reads' HO739.out).1; omega))
 obtain ⟨ve744_2, ve744_5, rfl, ge744_2, ge744_5⟩ := k31_openM hMe744
 have hv744_2 := hcc744 2 _ rfl
 rw [add_field _ _ 2 (by omega)] at hv744_2
 replace hv744_2 := Option.some.inj (hv744_2.symm.trans hx744_2)
 rw [hv744_2] at ge744_2
 have HL744_2 := Aside0.mk (show Kd.R (Kd.int .i64) 3 _ _ _ _ ((rd_T31 t737 1).f1) from ge744_2)
 clear hv744_2 ge744_2
 have hv744_5 := hcc744 5 _ rfl
 rw [add_field _ _ 5 (by omega)] at hv744_5
 replace hv744_5 := Option.some.inj (hv744_5.symm.trans hx744_5)
 rw [hv744_5] at ge744_5
 have HL744_5 := Aside0.mk (show Kd.R (Kd.int .i64) 3 _ _ _ _ ((rd_T31 t737 1).f4) from ge744_5)
 clear hv744_5 ge744_5
 clear hcc744 hce744
 (try simp only [show (1 : Int).toNat = 1 from rfl, Nat.reduceMul, Nat.reduceEqDiff, Go.Addr.add, ↓reduceIte] at hx744_0)
 (try simp only [show (1 : Int).toNat = 1 from rfl, Nat.reduceMul, Nat.reduceEqDiff, Go.Addr.add, ↓reduceIte] at hx744_1)
 (try simp only [show (1 : Int).toNat = 1 from rfl, Nat.reduceMul, Nat.reduceEqDiff, Go.Addr.add, ↓reduceIte] at hx744_2)
 (try simp only [show (1 : Int).toNat = 1 from rfl, Nat.reduceMul, Nat.reduceEqDiff, Go.Addr.add, ↓reduceIte] at hx744_3)
 (try simp only [show (1 : Int).toNat = 1 from rfl, Nat.reduceMul, Nat.reduceEqDiff, Go.Addr.add, ↓reduceIte] at hx744_4)
 (try simp only [show (1 : Int).toNat = 1 from rfl, Nat.reduceMul, Nat.reduceEqDiff, Go.Addr.add, ↓reduceIte] at hx744_5)
 have qi744 : (1 < t737.length) = True := eq_true (by omega)
 (try rw [show ((1 : Int)).toNat = 1 from rfl] at hx744_0)
 (try rw [show 1 * 6 = 6 from rfl] at hx744_0)
 (try rw [show ((1 : Int)).toNat = 1 from rfl] at hx744_1)
 (try rw [show 1 * 6 = 6 from rfl] at hx744_1)
 (try rw [show ((1 : Int)).toNat = 1 from rfl] at hx744_2)
 (try rw [show 1 * 6 = 6 from rfl] at hx744_2)
 (try rw [show ((1 : Int)).toNat = 1 from rfl] at hx744_3)
 (try rw [show 1 * 6 = 6 from rfl] at hx744_3)
 (try rw [show ((1 : Int)).toNat = 1 from rfl] at hx744_4)
 (try rw [show 1 * 6 = 6 from rfl] at hx744_4)
 (try rw [show ((1 : Int)).toNat = 1 from rfl] at hx744_5)
 (try rw [show 1 * 6 = 6 from rfl] at hx744_5)
 have HR744_2 := Aside0.mk hi744_2
 have HC744_2 := Aside0.mk hl744_2
 clear hi744_2 hl744_2
 have HR744_5 := Aside0.mk hi744_5
 have HC744_5 := Aside0.mk hl744_5
 clear hi744_5 hl744_5
 replace p744 := eq_true p744
 replace q744 := eq_true q744
 refine start_ (n := 12) (S := fun w' => w'.cell? ⟨gb735, 0, none⟩ = some (.slice (some ad743) t737.length co61) ∧ w'.cell? ad743 = some (.int .u32 ((rd_T31 t737 0).f0.f0)) ∧ w'.cell? ⟨ad743.block, ad743.off + 1, none⟩ = some (.int .i64 ((rd_T31 t737 0).f0.f1)) ∧ w'.cell? ⟨ad743.block, ad743.off + 2, none⟩ = some (.slice A743_2 ((rd_T31 t737 0).f1).length c743_2) ∧ w'.cell? ⟨ad743.block, ad743.off + 3, none⟩ = some (.int .i64 ((rd_T31 t737 0).f2)) ∧ w'.cell? ⟨ad743.block, ad743.off + 4, none⟩ = some (.int .i64 ((rd_T31 t737 0).f3)) ∧ w'.cell? ⟨ad743.block, ad743.off + 5, none⟩ = some (.slice A743_5 ((rd_T31 t737 0).f4).length c743_5) ∧ w'.cell? ⟨ad743.block, ad743.off + 6, none⟩ = some (.int .u32 ((rd_T31 t737 1).f0.f0)) ∧ w'.cell? ⟨ad743.block, ad743.off + 6 + 1, none⟩ = some (.int .i64 ((rd_T31 t737 1).f0.f1)) ∧ w'.cell? ⟨ad743.block, ad743.off + 6 + 2, none⟩ = some (.slice A744_2 ((rd_T31 t737 1).f1).length c744_2) ∧ w'.cell? ⟨ad743.block, ad743.off + 6 + 3, none⟩ = some (.int .i64 ((rd_T31 t737 1).f2)) ∧ w'.cell? ⟨ad743.block, ad743.off + 6 + 4, none⟩ = some (.int .i64 ((rd_T31 t737 1).f3)) ∧ w'.cell? ⟨ad743.block, ad743.off + 6 + 5, none⟩ = some (.slice A744_5 ((rd_T31 t737 1).f4).length c744_5)) (ds := []) (bm 12 0) (by kernel_rfl) rfl rfl ⟨zT BK735 0, hx743_0, hx743_1, hx743_2, hx743_3, hx743_4, hx743_5, hx744_0, hx744_1, hx744_2, hx744_3, hx744_4, hx744_5⟩ (fun hHeld => ?_); refine with_tabW g8_.tab7 g8_.bits7 (fun HT_ HW_ => ?_)
 generalize w67.drew = w68 at HO739 BK735 BK742 HB HL743_2 HL743_5 HL744_2 HL744_5 HR743_2 HR743_5 HR744_2 HR744_5 hx743_0 hx743_1 hx743_2 hx743_3 hx743_4 hx743_5 hx744_0 hx744_1 hx744_2 hx744_3 hx744_4 hx744_5 hHeld ⊢
 refine tk 0 (some 22) (bm 12 1) HT_ HW_ hHeld ?_
 refine pu 1 (some 23) (bm 12 3) HT_ ?_
 refine tk 2 (some 24) (bm 12 7) HT_ HW_ hHeld ?_
 refine tk 3 (some 25) (bm 12 15) HT_ HW_ hHeld ?_
 refine pu 4 (some 26) (bm 12 31) HT_ ?_
 refine tk 5 (some 27) (bm 12 63) HT_ HW_ hHeld ?_
 refine one_ (i := 6) (N := some 28) (bm 12 127) rfl rfl (one_of HT_.out (by kernel_rfl)) (by decide) (fun K hK => ?_)
 refine goes_ Tryd.func11 (by kernel_rfl) rfl #[.agg #[.int .u32 ((rd_T31 t737 0).f0.f0), .int .i64 ((rd_T31 t737 0).f0.f1), .slice A743_2 ((rd_T31 t737 0).f1).length c743_2, .int .i64 ((rd_T31 t737 0).f2), .int .i64 ((rd_T31 t737 0).f3), .slice A743_5 ((rd_T31 t737 0).f4).length c743_5], .agg #[.int .u32 ((rd_T31 t737 1).f0.f0), .int .i64 ((rd_T31 t737 1).f0.f1), .slice A744_2 ((rd_T31 t737 1).f1).length c744_2, .int .i64 ((rd_T31 t737 1).f2), .int .i64 ((rd_T31 t737 1).f3), .slice A744_5 ((rd_T31 t737 1).f4).length c744_5]] (by rfl) rfl rfl zM ?_
 with_reducible refine (best_Better.calls k ((rd_T31 t737 0).f0.f0) ((rd_T31 t737 0).f0.f1) _ _ ((rd_T31 t737 0).f1) ((rd_T31 t737 0).f2) ((rd_T31 t737 0).f3) _ _ ((rd_T31 t737 0).f4) ((rd_T31 t737 1).f0.f0) ((rd_T31 t737 1).f0.f1) _ _ ((rd_T31 t737 1).f1) ((rd_T31 t737 1).f2) ((rd_T31 t737 1).f3) _ _ ((rd_T31 t737 1).f4) t745 t746 _ ?side1 ?side2 ?side3 ?side4 ?side5 ?side6 ?side7 ?side8 A15.out).mono ?_
 (case side1 => repeat (first | exact (by repeat (first | (with_reducible exact HR743_2.out) | (with_reducible refine Kd.C_alloc ?_ _) | (with_reducible refine Kd.C_drewN ?_ _) | (with_reducible refine Kd.C_drew ?_) | exact HR743_2.out)) | (with_reducible refine Kd.C_alloc ?_ _) | (with_reducible refine Kd.C_drewN ?_ _) | (with_reducible refine Kd.C_drew ?_)))
 (case side2 => exact HC743_2.out)
 (case side3 => repeat (first | exact (by repeat (first | (with_reducible exact HR743_5.out) | (with_reducible refine Kd.C_alloc ?_ _) | (with_reducible refine Kd.C_drewN ?_ _) | (with_reducible refine Kd.C_drew ?_) | exact HR743_5.out)) | (with_reducible refine Kd.C_alloc ?_ _) | (with_reducible refine Kd.C_drewN ?_ _) | (with_reducible refine Kd.C_drew ?_)))
 (case side4 => exact HC743_5.out)
 (case side5 => repeat (first | exact (by repeat (first | (with_reducible exact HR744_2.out) | (with_reducible refine Kd.C_alloc ?_ _) | (with_reducible refine Kd.C_drewN ?_ _) | (with_reducible refine Kd.C_drew ?_) | exact HR744_2.out)) | (with_reducible refine Kd.C_alloc ?_ _) | (with_reducible refine Kd.C_drewN ?_ _) | (with_reducible refine Kd.C_drew ?_)))
 (case side6 => exact HC744_2.out)
 (case side7 => repeat (first | exact (by repeat (first | (with_reducible exact HR744_5.out) | (with_reducible refine Kd.C_alloc ?_ _) | (with_reducible refine Kd.C_drewN ?_ _) | (with_reducible refine Kd.C_drew ?_) | exact HR744_5.out)) | (with_reducible refine Kd.C_alloc ?_ _) | (with_reducible refine Kd.C_drewN ?_ _) | (with_reducible refine Kd.C_drew ?_)))
 (case side8 => exact HC744_5.out)
 rintro e w69 ⟨rfl, hb⟩
 have HS1_ := (hb.cell (World.block_lt_of_cell? _ _ (hHeld.2.1))).trans (hHeld.2.1)
 have HS2_ := (hb.cell (World.block_lt_of_cell? _ _ (hHeld.2.2.1))).trans (hHeld.2.2.1)
 have HS3_ := (hb.cell (World.block_lt_of_cell? _ _ (hHeld.2.2.2.1))).trans (hHeld.2.2.2.1)
 have HS4_ := (hb.cell (World.block_lt_of_cell? _ _ (hHeld.2.2.2.2.1))).trans (hHeld.2.2.2.2.1)
 have HS5_ := (hb.cell (World.block_lt_of_cell? _ _ (hHeld.2.2.2.2.2.1))).trans (hHeld.2.2.2.2.2.1)
 have HS6_ := (hb.cell (World.block_lt_of_cell? _ _ (hHeld.2.2.2.2.2.2.1))).trans (hHeld.2.2.2.2.2.2.1)
 have HS7_ := (hb.cell (World.block_lt_of_cell? _ _ (hHeld.2.2.2.2.2.2.2.1))).trans (hHeld.2.2.2.2.2.2.2.1)
 have HS8_ := (hb.cell (World.block_lt_of_cell? _ _ (hHeld.2.2.2.2.2.2.2.2.1))).trans (hHeld.2.2.2.2.2.2.2.2.1)
 have HS9_ := (hb.cell (World.block_lt_of_cell? _ _ (hHeld.2.2.2.2.2.2.2.2.2.1))).trans (hHeld.2.2.2.2.2.2.2.2.2.1)
 have HS10_ := (hb.cell (World.block_lt_of_cell? _ _ (hHeld.2.2.2.2.2.2.2.2.2.2.1))).trans (hHeld.2.2.2.2.2.2.2.2.2.2.1)
 have HS11_ := (hb.cell (World.block_lt_of_cell? _ _ (hHeld.2.2.2.2.2.2.2.2.2.2.2.1))).trans (hHeld.2.2.2.2.2.2.2.2.2.2.2.1)
 have HS12_ := (hb.cell (World.block_lt_of_cell? _ _ (hHeld.2.2.2.2.2.2.2.2.2.2.2.2))).trans (hHeld.2.2.2.2.2.2.2.2.2.2.2.2)
 refine ⟨_, rfl, ?_⟩
 have n0_ := Aside0.mk (Kd.S_below (zS HO739) hb)
 have n1_ := Aside0.mk (Kd.R_below (zO HL743_2) hb)
 have n2_ := Aside0.mk (Kd.R_below (zO HL743_5) hb)
 have n3_ := Aside0.mk (Kd.R_below (zO HL744_2) hb)
 have n4_ := Aside0.mk (Kd.R_below (zO HL744_5) hb)
 have n5_ := Aside0.mk (blk_below (g := gb735) (o := .cells #[.slice (some ad743) t737.length co61] 22 (0, 0)) (zK BK735) hb)
 have n6_ := Aside0.mk (blk_below (g := gb742) (o := .cells #[.int .i64 t740] 3 (0, 0)) (zK BK742) hb)
 have n7_ := Aside0.mk (Kd.C_below (by repeat (first | (with_reducible exact HR743_2.out) | (with_reducible refine Kd.C_alloc ?_ _) | (with_reducible refine Kd.C_drewN ?_ _) | (with_reducible refine Kd.C_drew ?_) | exact HR743_2.out)) hb)
 have n8_ := Aside0.mk (Kd.C_below (by repeat (first | (with_reducible exact HR743_5.out) | (with_reducible refine Kd.C_alloc ?_ _) | (with_reducible refine Kd.C_drewN ?_ _) | (with_reducible refine Kd.C_drew ?_) | exact HR743_5.out)) hb)
 have n9_ := Aside0.mk (Kd.C_below (by repeat (first | (with_reducible exact HR744_2.out) | (with_reducible refine Kd.C_alloc ?_ _) | (with_reducible refine Kd.C_drewN ?_ _) | (with_reducible refine Kd.C_drew ?_) | exact HR744_2.out)) hb)
 have n10_ := Aside0.mk (Kd.C_below (by repeat (first | (with_reducible exact HR744_5.out) | (with_reducible refine Kd.C_alloc ?_ _) | (with_reducible refine Kd.C_drewN ?_ _) | (with_reducible refine Kd.C_drew ?_) | exact HR744_5.out)) hb)
 have n11_ := Aside0.mk (below_step zB hb)
 clear HO739
 clear HL743_2
 clear HL743_5
 clear HL744_2
 clear HL744_5
 clear BK735
 clear BK742
 clear HR743_2
 clear HR743_5
 clear HR744_2
 clear HR744_5
 clear HB
 have HO739 := n0_
 have HL743_2 := n1_
 have HL743_5 := n2_
 have HL744_2 := n3_
 have HL744_5 := n4_
 have BK735 := n5_
 have BK742 := n6_
 have HR743_2 := n7_
 have HR743_5 := n8_
 have HR744_2 := n9_
 have HR744_5 := n10_
 have HB := n11_
 clear n0_ n1_ n2_ n3_ n4_ n5_ n6_ n7_ n8_ n9_ n10_ n11_
 (try clear hb)
 (try clear hb2)
 (try clear hk)
 (try clear hi)
 refine hK.out _ _ ⟨zT BK735 0, HS1_, HS2_, HS3_, HS4_, HS5_, HS6_, HS7_, HS8_, HS9_, HS10_, HS11_, HS12_⟩ (fun hHeld => ?_)
 clear hK K
 refine norm_ (a' := ?_) ?_ ?_
 rotate_left
 · show Act.put _ (some 28) _ = _; simp only [Act.put, sA, s0, sS, i64_w, i32_w]; rfl
 refine pu 7 (some 21) (bm 12 255) HT_ ?_
 refine pu 8 (some 29) (bm 12 511) HT_ ?_
 refine pu 9 (some 30) (bm 12 1023) HT_ ?_
 refine pu 10 (some 5) (bm 12 2047) HT_ ?_
 refine pu 11 (some 6) (bm 12 4095) HT_ ?_
 refine done_ (done_of HT_.out (by kernel_rfl)) ?_
 try go_wp2
 have n0_ := Aside0.mk (Kd.S_drew HO739.out)
 have n1_ := Aside0.mk (Kd.R_drew HL743_2.out)
 have n2_ := Aside0.mk (Kd.R_drew HL743_5.out)
 have n3_ := Aside0.mk (Kd.R_drew HL744_2.out)
 have n4_ := Aside0.mk (Kd.R_drew HL744_5.out)
 have n5_ := Aside0.mk (blk_drew BK735.out)
 have n6_ := Aside0.mk (blk_drew BK742.out)
 have n7_ := Aside0.mk (Kd.C_drew HR743_2.out)
 have n8_ := Aside0.mk (Kd.C_drew HR743_5.out)
 have n9_ := Aside0.mk (Kd.C_drew HR744_2.out)
 have n10_ := Aside0.mk (Kd.C_drew HR744_5.out)
 have n11_ := Aside0.mk (below_drew1 HB.out)
 clear HO739
 clear HL743_2
 clear HL743_5
 clear HL744_2
 clear HL744_5
 clear BK735
 clear BK742
 clear HR743_2
 clear HR743_5
 clear HR744_2
 clear HR744_5
 clear HB
 have HO739 := n0_
 have HL743_2 := n1_
 have HL743_5 := n2_
 have HL744_2 := n3_
 have HL744_5 := n4_
 have BK735 := n5_
 have BK742 := n6_
 have HR743_2 := n7_
 have HR743_5 := n8_
 have HR744_2 := n9_
 have HR744_5 := n10_
 have HB := n11_
 clear n0_ n1_ n2_ n3_ n4_ n5_ n6_ n7_ n8_ n9_ n10_ n11_
 have p747 : 0 ≤ (1 : Int) := (by omega)
 have q747 : 1 < (t737.length : Int) := od
 obtain ⟨ad747, A747_2, c747_2, A747_5, c747_5, e747, hx747_0, hx747_1, hx747_2, hx747_3, hx747_4, hx747_5, hl747_2, hi747_2, hl747_5, hi747_5⟩ := at_T31 (Kd.S_reads' HO739.out).2.2 1 p747 q747
 obtain rfl : ad743 = ad747 := (by injection e747)
 obtain ⟨ce747, hce747, hMe747, hcc747⟩ := Kd.S_get HO739.out z31 1 p747 (by first | exact q747 | exact od | (have e_ := (Kd.S_reads' HO739.out).1; omega))
 obtain ⟨ve747_2, ve747_5, rfl, ge747_2, ge747_5⟩ := k31_openM hMe747
 have hv747_2 := hcc747 2 _ rfl
 rw [add_field _ _ 2 (by omega)] at hv747_2
 replace hv747_2 := Option.some.inj (hv747_2.symm.trans hx747_2)
 rw [hv747_2] at ge747_2
 have HL747_2 := Aside0.mk (show Kd.R (Kd.int .i64) 3 _ _ _ _ ((rd_T31 t737 1).f1) from ge747_2)
 clear hv747_2 ge747_2
 have hv747_5 := hcc747 5 _ rfl
 rw [add_field _ _ 5 (by omega)] at hv747_5
 replace hv747_5 := Option.some.inj (hv747_5.symm.trans hx747_5)
 rw [hv747_5] at ge747_5
 have HL747_5 := Aside0.mk (show Kd.R (Kd.int .i64) 3 _ _ _ _ ((rd_T31 t737 1).f4) from ge747_5)
 clear hv747_5 ge747_5
 clear hcc747 hce747
 (try simp only [show (1 : Int).toNat = 1 from rfl, Nat.reduceMul, Nat.reduceEqDiff, Go.Addr.add, ↓reduceIte] at hx747_0)
 (try simp only [show (1 : Int).toNat = 1 from rfl, Nat.reduceMul, Nat.reduceEqDiff, Go.Addr.add, ↓reduceIte] at hx747_1)
 (try simp only [show (1 : Int).toNat = 1 from rfl, Nat.reduceMul, Nat.reduceEqDiff, Go.Addr.add, ↓reduceIte] at hx747_2)
 (try simp only [show (1 : Int).toNat = 1 from rfl, Nat.reduceMul, Nat.reduceEqDiff, Go.Addr.add, ↓reduceIte] at hx747_3)
 (try simp only [show (1 : Int).toNat = 1 from rfl, Nat.reduceMul, Nat.reduceEqDiff, Go.Addr.add, ↓reduceIte] at hx747_4)
 (try simp only [show (1 : Int).toNat = 1 from rfl, Nat.reduceMul, Nat.reduceEqDiff, Go.Addr.add, ↓reduceIte] at hx747_5)
 have qi747 : (1 < t737.length) = True := eq_true (by omega)
 (try rw [show ((1 : Int)).toNat = 1 from rfl] at hx747_0)
 (try rw [show 1 * 6 = 6 from rfl] at hx747_0)
 (try rw [show ((1 : Int)).toNat = 1 from rfl] at hx747_1)
 (try rw [show 1 * 6 = 6 from rfl] at hx747_1)
 (try rw [show ((1 : Int)).toNat = 1 from rfl] at hx747_2)
 (try rw [show 1 * 6 = 6 from rfl] at hx747_2)
 (try rw [show ((1 : Int)).toNat = 1 from rfl] at hx747_3)
 (try rw [show 1 * 6 = 6 from rfl] at hx747_3)
 (try rw [show ((1 : Int)).toNat = 1 from rfl] at hx747_4)
 (try rw [show 1 * 6 = 6 from rfl] at hx747_4)
 (try rw [show ((1 : Int)).toNat = 1 from rfl] at hx747_5)
 (try rw [show 1 * 6 = 6 from rfl] at hx747_5)
 have HR747_2 := Aside0.mk hi747_2
 have HC747_2 := Aside0.mk hl747_2
 clear hi747_2 hl747_2
 have HR747_5 := Aside0.mk hi747_5
 have HC747_5 := Aside0.mk hl747_5
 clear hi747_5 hl747_5
 replace p747 := eq_true p747
 replace q747 := eq_true q747
 have p748 : 0 ≤ (0 : Int) := (by omega)
 have q748 : 0 < (t737.length : Int) := od
 obtain ⟨ad748, A748_2, c748_2, A748_5, c748_5, e748, hx748_0, hx748_1, hx748_2, hx748_3, hx748_4, hx748_5, hl748_2, hi748_2, hl748_5, hi748_5⟩ := at_T31 (Kd.S_reads' HO739.out).2.2 0 p748 q748
 obtain rfl : ad743 = ad748 := (by injection e748)
 obtain ⟨ce748, hce748, hMe748, hcc748⟩ := Kd.S_get HO739.out z31 0 p748 (by first | exact q748 | exact od | (have e_ := (Kd.S_reads' HO739.out).1; omega))
 obtain ⟨ve748_2, ve748_5, rfl, ge748_2, ge748_5⟩ := k31_openM hMe748
 have hv748_2 := hcc748 2 _ rfl
 rw [add_field _ _ 2 (by omega)] at hv748_2
 replace hv748_2 := Option.some.inj (hv748_2.symm.trans hx748_2)
 rw [hv748_2] at ge748_2
 have HL748_2 := Aside0.mk (show Kd.R (Kd.int .i64) 3 _ _ _ _ ((rd_T31 t737 0).f1) from ge748_2)
 clear hv748_2 ge748_2
 have hv748_5 := hcc748 5 _ rfl
 rw [add_field _ _ 5 (by omega)] at hv748_5
 replace hv748_5 := Option.some.inj (hv748_5.symm.trans hx748_5)
 rw [hv748_5] at ge748_5
 have HL748_5 := Aside0.mk (show Kd.R (Kd.int .i64) 3 _ _ _ _ ((rd_T31 t737 0).f4) from ge748_5)
 clear hv748_5 ge748_5
 clear hcc748 hce748
 have qi748 : (0 < t737.length) = True := eq_true (by omega)
 (try rw [show ((0 : Int)).toNat = 0 from rfl] at hx748_0)
 (try rw [show 0 * 6 = 0 from rfl] at hx748_0)
 (try rw [Addr.add_zero'] at hx748_0)
 (try rw [show ((0 : Int)).toNat = 0 from rfl] at hx748_1)
 (try rw [show 0 * 6 = 0 from rfl] at hx748_1)
 (try rw [Addr.add_zero'] at hx748_1)
 (try rw [show ((0 : Int)).toNat = 0 from rfl] at hx748_2)
 (try rw [show 0 * 6 = 0 from rfl] at hx748_2)
 (try rw [Addr.add_zero'] at hx748_2)
 (try rw [show ((0 : Int)).toNat = 0 from rfl] at hx748_3)
 (try rw [show 0 * 6 = 0 from rfl] at hx748_3)
 (try rw [Addr.add_zero'] at hx748_3)
 (try rw [show ((0 : Int)).toNat = 0 from rfl] at hx748_4)
 (try rw [show 0 * 6 = 0 from rfl] at hx748_4)
 (try rw [Addr.add_zero'] at hx748_4)
 (try rw [show ((0 : Int)).toNat = 0 from rfl] at hx748_5)
 (try rw [show 0 * 6 = 0 from rfl] at hx748_5)
 (try rw [Addr.add_zero'] at hx748_5)
 have HR748_2 := Aside0.mk hi748_2
 have HC748_2 := Aside0.mk hl748_2
 clear hi748_2 hl748_2
 have HR748_5 := Aside0.mk hi748_5
 have HC748_5 := Aside0.mk hl748_5
 clear hi748_5 hl748_5
 replace p748 := eq_true p748
 replace q748 := eq_true q748
 refine start_ (n := 12) (S := fun w' => w'.cell? ⟨gb735, 0, none⟩ = some (.slice (some ad743) t737.length co61) ∧ w'.cell? ⟨ad743.block, ad743.off + 6, none⟩ = some (.int .u32 ((rd_T31 t737 1).f0.f0)) ∧ w'.cell? ⟨ad743.block, ad743.off + 6 + 1, none⟩ = some (.int .i64 ((rd_T31 t737 1).f0.f1)) ∧ w'.cell? ⟨ad743.block, ad743.off + 6 + 2, none⟩ = some (.slice A747_2 ((rd_T31 t737 1).f1).length c747_2) ∧ w'.cell? ⟨ad743.block, ad743.off + 6 + 3, none⟩ = some (.int .i64 ((rd_T31 t737 1).f2)) ∧ w'.cell? ⟨ad743.block, ad743.off + 6 + 4, none⟩ = some (.int .i64 ((rd_T31 t737 1).f3)) ∧ w'.cell? ⟨ad743.block, ad743.off + 6 + 5, none⟩ = some (.slice A747_5 ((rd_T31 t737 1).f4).length c747_5) ∧ w'.cell? ad743 = some (.int .u32 ((rd_T31 t737 0).f0.f0)) ∧ w'.cell? ⟨ad743.block, ad743.off + 1, none⟩ = some (.int .i64 ((rd_T31 t737 0).f0.f1)) ∧ w'.cell? ⟨ad743.block, ad743.off + 2, none⟩ = some (.slice A748_2 ((rd_T31 t737 0).f1).length c748_2) ∧ w'.cell? ⟨ad743.block, ad743.off + 3, none⟩ = some (.int .i64 ((rd_T31 t737 0).f2)) ∧ w'.cell? ⟨ad743.block, ad743.off + 4, none⟩ = some (.int .i64 ((rd_T31 t737 0).f3)) ∧ w'.cell? ⟨ad743.block, ad743.off + 5, none⟩ = some (.slice A748_5 ((rd_T31 t737 0).f4).length c748_5)) (ds := []) (bm 12 0) (by kernel_rfl) rfl rfl ⟨zT BK735 0, hx747_0, hx747_1, hx747_2, hx747_3, hx747_4, hx747_5, hx748_0, hx748_1, hx748_2, hx748_3, hx748_4, hx748_5⟩ (fun hHeld => ?_); refine with_tabW g8_.tab8 g8_.bits8 (fun HT_ HW_ => ?_)
 generalize w69.drew = w70 at HO739 HL743_2 HL743_5 HL744_2 HL744_5 BK735 BK742 HR743_2 HR743_5 HR744_2 HR744_5 HB HL747_2 HL747_5 HL748_2 HL748_5 HR747_2 HR747_5 HR748_2 HR748_5 hx747_0 hx747_1 hx747_2 hx747_3 hx747_4 hx747_5 hx748_0 hx748_1 hx748_2 hx748_3 hx748_4 hx748_5 hHeld ⊢
 refine tk 0 (some 32) (bm 12 1) HT_ HW_ hHeld ?_
 refine pu 1 (some 33) (bm 12 3) HT_ ?_
 refine tk 2 (some 34) (bm 12 7) HT_ HW_ hHeld ?_
 refine tk 3 (some 35) (bm 12 15) HT_ HW_ hHeld ?_
 refine pu 4 (some 36) (bm 12 31) HT_ ?_
 refine tk 5 (some 37) (bm 12 63) HT_ HW_ hHeld ?_
 refine one_ (i := 6) (N := some 38) (bm 12 127) rfl rfl (one_of HT_.out (by kernel_rfl)) (by decide) (fun K hK => ?_)
 refine goes_ Tryd.func11 (by kernel_rfl) rfl #[.agg #[.int .u32 ((rd_T31 t737 1).f0.f0), .int .i64 ((rd_T31 t737 1).f0.f1), .slice A747_2 ((rd_T31 t737 1).f1).length c747_2, .int .i64 ((rd_T31 t737 1).f2), .int .i64 ((rd_T31 t737 1).f3), .slice A747_5 ((rd_T31 t737 1).f4).length c747_5], .agg #[.int .u32 ((rd_T31 t737 0).f0.f0), .int .i64 ((rd_T31 t737 0).f0.f1), .slice A748_2 ((rd_T31 t737 0).f1).length c748_2, .int .i64 ((rd_T31 t737 0).f2), .int .i64 ((rd_T31 t737 0).f3), .slice A748_5 ((rd_T31 t737 0).f4).length c748_5]] (by rfl) rfl rfl zM ?_
 with_reducible refine (best_Better.calls k ((rd_T31 t737 1).f0.f0) ((rd_T31 t737 1).f0.f1) _ _ ((rd_T31 t737 1).f1) ((rd_T31 t737 1).f2) ((rd_T31 t737 1).f3) _ _ ((rd_T31 t737 1).f4) ((rd_T31 t737 0).f0.f0) ((rd_T31 t737 0).f0.f1) _ _ ((rd_T31 t737 0).f1) ((rd_T31 t737 0).f2) ((rd_T31 t737 0).f3) _ _ ((rd_T31 t737 0).f4) t749 t750 _ ?side1 ?side2 ?side3 ?side4 ?side5 ?side6 ?side7 ?side8 A16.out).mono ?_
 (case side1 => repeat (first | exact (by repeat (first | (with_reducible exact HR747_2.out) | (with_reducible refine Kd.C_alloc ?_ _) | (with_reducible refine Kd.C_drewN ?_ _) | (with_reducible refine Kd.C_drew ?_) | exact HR747_2.out)) | (with_reducible refine Kd.C_alloc ?_ _) | (with_reducible refine Kd.C_drewN ?_ _) | (with_reducible refine Kd.C_drew ?_)))
 (case side2 => exact HC747_2.out)
 (case side3 => repeat (first | exact (by repeat (first | (with_reducible exact HR747_5.out) | (with_reducible refine Kd.C_alloc ?_ _) | (with_reducible refine Kd.C_drewN ?_ _) | (with_reducible refine Kd.C_drew ?_) | exact HR747_5.out)) | (with_reducible refine Kd.C_alloc ?_ _) | (with_reducible refine Kd.C_drewN ?_ _) | (with_reducible refine Kd.C_drew ?_)))
 (case side4 => exact HC747_5.out)
 (case side5 => repeat (first | exact (by repeat (first | (with_reducible exact HR748_2.out) | (with_reducible refine Kd.C_alloc ?_ _) | (with_reducible refine Kd.C_drewN ?_ _) | (with_reducible refine Kd.C_drew ?_) | exact HR748_2.out)) | (with_reducible refine Kd.C_alloc ?_ _) | (with_reducible refine Kd.C_drewN ?_ _) | (with_reducible refine Kd.C_drew ?_)))
 (case side6 => exact HC748_2.out)
 (case side7 => repeat (first | exact (by repeat (first | (with_reducible exact HR748_5.out) | (with_reducible refine Kd.C_alloc ?_ _) | (with_reducible refine Kd.C_drewN ?_ _) | (with_reducible refine Kd.C_drew ?_) | exact HR748_5.out)) | (with_reducible refine Kd.C_alloc ?_ _) | (with_reducible refine Kd.C_drewN ?_ _) | (with_reducible refine Kd.C_drew ?_)))
 (case side8 => exact HC748_5.out)
 rintro e w71 ⟨rfl, hb⟩
 have HS1_ := (hb.cell (World.block_lt_of_cell? _ _ (hHeld.2.1))).trans (hHeld.2.1)
 have HS2_ := (hb.cell (World.block_lt_of_cell? _ _ (hHeld.2.2.1))).trans (hHeld.2.2.1)
 have HS3_ := (hb.cell (World.block_lt_of_cell? _ _ (hHeld.2.2.2.1))).trans (hHeld.2.2.2.1)
 have HS4_ := (hb.cell (World.block_lt_of_cell? _ _ (hHeld.2.2.2.2.1))).trans (hHeld.2.2.2.2.1)
 have HS5_ := (hb.cell (World.block_lt_of_cell? _ _ (hHeld.2.2.2.2.2.1))).trans (hHeld.2.2.2.2.2.1)
 have HS6_ := (hb.cell (World.block_lt_of_cell? _ _ (hHeld.2.2.2.2.2.2.1))).trans (hHeld.2.2.2.2.2.2.1)
 have HS7_ := (hb.cell (World.block_lt_of_cell? _ _ (hHeld.2.2.2.2.2.2.2.1))).trans (hHeld.2.2.2.2.2.2.2.1)
 have HS8_ := (hb.cell (World.block_lt_of_cell? _ _ (hHeld.2.2.2.2.2.2.2.2.1))).trans (hHeld.2.2.2.2.2.2.2.2.1)
 have HS9_ := (hb.cell (World.block_lt_of_cell? _ _ (hHeld.2.2.2.2.2.2.2.2.2.1))).trans (hHeld.2.2.2.2.2.2.2.2.2.1)
 have HS10_ := (hb.cell (World.block_lt_of_cell? _ _ (hHeld.2.2.2.2.2.2.2.2.2.2.1))).trans (hHeld.2.2.2.2.2.2.2.2.2.2.1)
 have HS11_ := (hb.cell (World.block_lt_of_cell? _ _ (hHeld.2.2.2.2.2.2.2.2.2.2.2.1))).trans (hHeld.2.2.2.2.2.2.2.2.2.2.2.1)
 have HS12_ := (hb.cell (World.block_lt_of_cell? _ _ (hHeld.2.2.2.2.2.2.2.2.2.2.2.2))).trans (hHeld.2.2.2.2.2.2.2.2.2.2.2.2)
 refine ⟨_, rfl, ?_⟩
 have n0_ := Aside0.mk (Kd.S_below (zS HO739) hb)
 have n1_ := Aside0.mk (Kd.R_below (zO HL743_2) hb)
 have n2_ := Aside0.mk (Kd.R_below (zO HL743_5) hb)
 have n3_ := Aside0.mk (Kd.R_below (zO HL744_2) hb)
 have n4_ := Aside0.mk (Kd.R_below (zO HL744_5) hb)
 have n5_ := Aside0.mk (Kd.R_below (zO HL747_2) hb)
 have n6_ := Aside0.mk (Kd.R_below (zO HL747_5) hb)
 have n7_ := Aside0.mk (Kd.R_below (zO HL748_2) hb)
 have n8_ := Aside0.mk (Kd.R_below (zO HL748_5) hb)
 have n9_ := Aside0.mk (blk_below (g := gb735) (o := .cells #[.slice (some ad743) t737.length co61] 22 (0, 0)) (zK BK735) hb)
 have n10_ := Aside0.mk (blk_below (g := gb742) (o := .cells #[.int .i64 t740] 3 (0, 0)) (zK BK742) hb)
 have n11_ := Aside0.mk (Kd.C_below (by repeat (first | (with_reducible exact HR743_2.out) | (with_reducible refine Kd.C_alloc ?_ _) | (with_reducible refine Kd.C_drewN ?_ _) | (with_reducible refine Kd.C_drew ?_) | exact HR743_2.out)) hb)
 have n12_ := Aside0.mk (Kd.C_below (by repeat (first | (with_reducible exact HR743_5.out) | (with_reducible refine Kd.C_alloc ?_ _) | (with_reducible refine Kd.C_drewN ?_ _) | (with_reducible refine Kd.C_drew ?_) | exact HR743_5.out)) hb)
 have n13_ := Aside0.mk (Kd.C_below (by repeat (first | (with_reducible exact HR744_2.out) | (with_reducible refine Kd.C_alloc ?_ _) | (with_reducible refine Kd.C_drewN ?_ _) | (with_reducible refine Kd.C_drew ?_) | exact HR744_2.out)) hb)
 have n14_ := Aside0.mk (Kd.C_below (by repeat (first | (with_reducible exact HR744_5.out) | (with_reducible refine Kd.C_alloc ?_ _) | (with_reducible refine Kd.C_drewN ?_ _) | (with_reducible refine Kd.C_drew ?_) | exact HR744_5.out)) hb)
 have n15_ := Aside0.mk (Kd.C_below (by repeat (first | (with_reducible exact HR747_2.out) | (with_reducible refine Kd.C_alloc ?_ _) | (with_reducible refine Kd.C_drewN ?_ _) | (with_reducible refine Kd.C_drew ?_) | exact HR747_2.out)) hb)
 have n16_ := Aside0.mk (Kd.C_below (by repeat (first | (with_reducible exact HR747_5.out) | (with_reducible refine Kd.C_alloc ?_ _) | (with_reducible refine Kd.C_drewN ?_ _) | (with_reducible refine Kd.C_drew ?_) | exact HR747_5.out)) hb)
 have n17_ := Aside0.mk (Kd.C_below (by repeat (first | (with_reducible exact HR748_2.out) | (with_reducible refine Kd.C_alloc ?_ _) | (with_reducible refine Kd.C_drewN ?_ _) | (with_reducible refine Kd.C_drew ?_) | exact HR748_2.out)) hb)
 have n18_ := Aside0.mk (Kd.C_below (by repeat (first | (with_reducible exact HR748_5.out) | (with_reducible refine Kd.C_alloc ?_ _) | (with_reducible refine Kd.C_drewN ?_ _) | (with_reducible refine Kd.C_drew ?_) | exact HR748_5.out)) hb)
 have n19_ := Aside0.mk (below_step zB hb)
 clear HO739
 clear HL743_2
 clear HL743_5
 clear HL744_2
 clear HL744_5
 clear HL747_2
 clear HL747_5
 clear HL748_2
 clear HL748_5
 clear BK735
 clear BK742
 clear HR743_2
 clear HR743_5
 clear HR744_2
 clear HR744_5
 clear HR747_2
 clear HR747_5
 clear HR748_2
 clear HR748_5
 clear HB
 have HO739 := n0_
 have HL743_2 := n1_
 have HL743_5 := n2_
 have HL744_2 := n3_
 have HL744_5 := n4_
 have HL747_2 := n5_
 have HL747_5 := n6_
 have HL748_2 := n7_
 have HL748_5 := n8_
 have BK735 := n9_
 have BK742 := n10_
 have HR743_2 := n11_
 have HR743_5 := n12_
 have HR744_2 := n13_
 have HR744_5 := n14_
 have HR747_2 := n15_
 have HR747_5 := n16_
 have HR748_2 := n17_
 have HR748_5 := n18_
 have HB := n19_
 clear n0_ n1_ n2_ n3_ n4_ n5_ n6_ n7_ n8_ n9_ n10_ n11_ n12_ n13_ n14_ n15_ n16_ n17_ n18_ n19_
 (try clear hb)
 (try clear hb2)
 (try clear hk)
 (try clear hi)
 refine hK.out _ _ ⟨zT BK735 0, HS1_, HS2_, HS3_, HS4_, HS5_, HS6_, HS7_, HS8_, HS9_, HS10_, HS11_, HS12_⟩ (fun hHeld => ?_)
 clear hK K
 refine norm_ (a' := ?_) ?_ ?_
 rotate_left
 · show Act.put _ (some 38) _ = _; simp only [Act.put, sA, s0, sS, i64_w, i32_w]; rfl
 refine pu 7 (some 31) (bm 12 255) HT_ ?_
 refine pu 8 (some 39) (bm 12 511) HT_ ?_
 refine pu 9 (some 40) (bm 12 1023) HT_ ?_
 refine pu 10 (some 7) (bm 12 2047) HT_ ?_
 refine pu 11 (some 8) (bm 12 4095) HT_ ?_
 refine done_ (done_of HT_.out (by kernel_rfl)) ?_
 have hcz72_0 : w71.cell? ⟨gb742, 0, none⟩ = some (.int .i64 t740) := zT BK742 0
 have hfz72_0 := blk_frozen BK742.out 0
 have hcz73_0 : w71.cell? ⟨gb735, 0, none⟩ = some (.slice (some ad743) t737.length co61) := zT BK735 0
 have hfz73_0 := blk_frozen BK735.out 0
 try go_wp2_with (first | ((with_reducible refine gate_callee (f := 12) rfl ?_); refine goesL_ (some 69) rfl rfl Tryd.func12 (by kernel_rfl) rfl #[.slice (some ad743) t737.length co61, .func (.func 13) #[] #[.pointer (some ⟨gb735, 0, none⟩), .pointer (some ⟨gb742, 0, none⟩)]] rfl zM ?_; (with_reducible refine (g6_.calls k _ _ t737 gb735 gb742 (some ad743) co61 t737 t740 t751 _ ?side1 ?side2 ?side3 ?side4 ?side5 ?side6 A56.out).mono ?_); (case side1 => repeat (first | exact (Kd.S_reads' HO739.out).2.2 | (with_reducible refine Kd.C_alloc ?_ _) | (with_reducible refine Kd.C_drewN ?_ _) | (with_reducible refine Kd.C_drew ?_))); (case side2 => exact (Kd.S_reads' HO739.out).2.1); (case side3 => repeat (first | exact (Kd.S_reads' HO739.out).2.2 | (with_reducible refine Kd.C_alloc ?_ _) | (with_reducible refine Kd.C_drewN ?_ _) | (with_reducible refine Kd.C_drew ?_))); (case side4 => exact (Kd.S_reads' HO739.out).2.1); (case side5 => exact (zK BK735)); (case side6 => exact (zK BK742)); rintro e w74 ⟨rfl, hb⟩; refine ⟨_, rfl, ?_⟩; have n0_ := Aside0.mk (Kd.S_below (zS HO739) hb); have n1_ := Aside0.mk (Kd.R_below (zO HL743_2) hb); have n2_ := Aside0.mk (Kd.R_below (zO HL743_5) hb); have n3_ := Aside0.mk (Kd.R_below (zO HL744_2) hb); have n4_ := Aside0.mk (Kd.R_below (zO HL744_5) hb); have n5_ := Aside0.mk (Kd.R_below (zO HL747_2) hb); have n6_ := Aside0.mk (Kd.R_below (zO HL747_5) hb); have n7_ := Aside0.mk (Kd.R_below (zO HL748_2) hb); have n8_ := Aside0.mk (Kd.R_below (zO HL748_5) hb); have n9_ := Aside0.mk (blk_below (g := gb735) (o := .cells #[.slice (some ad743) t737.length co61] 22 (0, 0)) (zK BK735) hb); have n10_ := Aside0.mk (blk_below (g := gb742) (o := .cells #[.int .i64 t740] 3 (0, 0)) (zK BK742) hb); have n11_ := Aside0.mk (Kd.C_below (by repeat (first | (with_reducible exact HR743_2.out) | (with_reducible refine Kd.C_alloc ?_ _) | (with_reducible refine Kd.C_drewN ?_ _) | (with_reducible refine Kd.C_drew ?_) | exact HR743_2.out)) hb); have n12_ := Aside0.mk (Kd.C_below (by repeat (first | (with_reducible exact HR743_5.out) | (with_reducible refine Kd.C_alloc ?_ _) | (with_reducible refine Kd.C_drewN ?_ _) | (with_reducible refine Kd.C_drew ?_) | exact HR743_5.out)) hb); have n13_ := Aside0.mk (Kd.C_below (by repeat (first | (with_reducible exact HR744_2.out) | (with_reducible refine Kd.C_alloc ?_ _) | (with_reducible refine Kd.C_drewN ?_ _) | (with_reducible refine Kd.C_drew ?_) | exact HR744_2.out)) hb); have n14_ := Aside0.mk (Kd.C_below (by repeat (first | (with_reducible exact HR744_5.out) | (with_reducible refine Kd.C_alloc ?_ _) | (with_reducible refine Kd.C_drewN ?_ _) | (with_reducible refine Kd.C_drew ?_) | exact HR744_5.out)) hb); have n15_ := Aside0.mk (Kd.C_below (by repeat (first | (with_reducible exact HR747_2.out) | (with_reducible refine Kd.C_alloc ?_ _) | (with_reducible refine Kd.C_drewN ?_ _) | (with_reducible refine Kd.C_drew ?_) | exact HR747_2.out)) hb); have n16_ := Aside0.mk (Kd.C_below (by repeat (first | (with_reducible exact HR747_5.out) | (with_reducible refine Kd.C_alloc ?_ _) | (with_reducible refine Kd.C_drewN ?_ _) | (with_reducible refine Kd.C_drew ?_) | exact HR747_5.out)) hb); have n17_ := Aside0.mk (Kd.C_below (by repeat (first | (with_reducible exact HR748_2.out) | (with_reducible refine Kd.C_alloc ?_ _) | (with_reducible refine Kd.C_drewN ?_ _) | (with_reducible refine Kd.C_drew ?_) | exact HR748_2.out)) hb); have n18_ := Aside0.mk (Kd.C_below (by repeat (first | (with_reducible exact HR748_5.out) | (with_reducible refine Kd.C_alloc ?_ _) | (with_reducible refine Kd.C_drewN ?_ _) | (with_reducible refine Kd.C_drew ?_) | exact HR748_5.out)) hb); have n19_ := Aside0.mk (below_step zB hb); clear HO739; clear HL743_2; clear HL743_5; clear HL744_2; clear HL744_5; clear HL747_2; clear HL747_5; clear HL748_2; clear HL748_5; clear BK735; clear BK742; clear HR743_2; clear HR743_5; clear HR744_2; clear HR744_5; clear HR747_2; clear HR747_5; clear HR748_2; clear HR748_5; clear HB; have HO739 := n0_; have HL743_2 := n1_; have HL743_5 := n2_; have HL744_2 := n3_; have HL744_5 := n4_; have HL747_2 := n5_; have HL747_5 := n6_; have HL748_2 := n7_; have HL748_5 := n8_; have BK735 := n9_; have BK742 := n10_; have HR743_2 := n11_; have HR743_5 := n12_; have HR744_2 := n13_; have HR744_5 := n14_; have HR747_2 := n15_; have HR747_5 := n16_; have HR748_2 := n17_; have HR748_5 := n18_; have HB := n19_; clear n0_ n1_ n2_ n3_ n4_ n5_ n6_ n7_ n8_ n9_ n10_ n11_ n12_ n13_ n14_ n15_ n16_ n17_ n18_ n19_; (try clear hb); (try clear hb2); (try clear hk); (try clear hi)))
 go_ret
 exact ⟨zE, zB⟩
end Go.Proofs.YtplcdbhklepkgaaDoor.BO
