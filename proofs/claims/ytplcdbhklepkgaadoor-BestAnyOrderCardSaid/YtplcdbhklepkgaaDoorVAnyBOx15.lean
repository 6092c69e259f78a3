-- Made by gen.py, a program of this session's, over the kit's print.
import Derived.Test.YtplcdbhklepkgaaDoorVAnyShort
import Derived.Test.YtplcdbhklepkgaaDoorVAnyBOx0
import Derived.Test.YtplcdbhklepkgaaDoorVAnyBOx10
import Derived.Test.YtplcdbhklepkgaaDoorVAnyBOx13
import Derived.Test.YtplcdbhklepkgaaDoorVAnyBOx14
namespace Go.Proofs.YtplcdbhklepkgaaDoor.BO
open Go.RowKit Go.Proofs.YtplcdbhklepkgaaDoorW.PrintWords Go.Proofs.YtplcdbhklepkgaaDoorW.PrintLast Go.Proofs.YtplcdbhklepkgaaDoorW.PrintMore Go.Proofs.YtplcdbhklepkgaaDoor.GenWords
attribute [local go_sem] max2_int min2_int max_two min_two max_three min_three max_four min_four   -- for this text's walks alone
set_option linter.unusedVariables false
set_option linter.unusedSimpArgs false

/-! ### g13_: function 3 -/
def g13_.f (k : Nat) (l0 : List (S31)) (l1 : List Int) : Option (Bool) := (g14_.f k).bind fun t714 => (if t714 = true then ((g9_.f k l0 5).bind fun t715 => (if (t715.length : Int) = 0 then (some true) else ((g1_.f k t715 l1).bind fun t718 => ((best_Choose.f k t715).bind fun bt721 => ((best_Choose.f k t718).bind fun bt723 => (if bt721.2 = 0 then (if bt723.2 = 0 then (if bt721.1 < 0 then (some false) else (if bt721.1 ≥ (t715.length : Int) then (some false) else (if bt723.1 < 0 then (some false) else (if bt723.1 ≥ (t718.length : Int) then (some false) else (if 0 ≤ bt721.1 then (if bt721.1 < (t715.length : Int) then (if 0 ≤ bt723.1 then (if bt723.1 < (t718.length : Int) then (if ((rd_T31 t715 bt721.1).f2) = ((rd_T31 t718 bt723.1).f2) then (if ((rd_T31 t715 bt721.1).f3) = ((rd_T31 t718 bt723.1).f3) then ((g11_.f k ((rd_T31 t715 bt721.1).f1) ((rd_T31 t718 bt723.1).f1)).bind fun t729 => (some t729)) else (some false)) else (some false)) else (none)) else (none)) else (none)) else (none)))))) else (some false)) else (some false))))))) else (some false))
theorem g13_.mono : ∀ a0 a1 k, LeO (g13_.f k a0 a1) (g13_.f (k + 1) a0 a1) := by
  intro a0 a1 k
  unfold g13_.f
  repeat' (with_reducible first | exact best_Choose.mono _ _ | exact g14_.mono _ | exact g1_.mono _ _ _ | exact g9_.mono _ _ _ | exact g11_.mono _ _ _ | exact LeO.refl _ | exact LeO.none _ | refine LeO.ite ?_ ?_ | refine LeO.bind ?_ (fun _ => ?_))
def g13_.T11 : Bool × List (List Nat × List Nat) := (true, [([], []), ([], []), ([0, 1], [0, 1]), ([2], [2]), ([], []), ([], []), ([4, 5], [4, 5]), ([6], [6]), ([], []), ([], []), ([8, 3, 0, 1, 2, 3, 8, 9], [3, 8]), ([9, 7, 10, 0, 1, 2, 3, 4, 5, 6, 7, 8, 9, 10], [7, 9])])
def g13_.B11 : List Nat := [0, 0, 3, 7, 0, 0, 48, 112, 0, 0, 783, 2047]
theorem g13_.tab11 : rtab .any (opsOf Tryd.f3 11) = g13_.T11 := by kernel_rfl
theorem g13_.bits11 : waitsOk g13_.T11.2 g13_.B11 = true := by kernel_rfl
set_option maxHeartbeats 8000000 in
set_option maxRecDepth 100000 in
theorem g13_.calls (k : Nat) (A0 : Option Addr) (c0 : Nat) (l0 : List (S31)) (A1 : Option Addr) (c1 : Nat) (l1 : List Int) (r : Bool) (w : World) (hr0 : Kd.C k31 w A0 l0.length l0) (hc0 : l0.length ≤ c0) (hr1 : Kd.C (Kd.int .i64) w A1 l1.length l1) (hc1 : l1.length ≤ c1) (hgl0_0 : w.cell? ⟨0, 0, none⟩ = some (.int .u32 167772160)) (hgl0_1 : w.cell? ⟨0, 1, none⟩ = some (.int .i64 8)) (h : g13_.f k l0 l1 = some r) :
 Calls Tryd.prog 3 #[.slice A0 l0.length c0, .slice A1 l1.length c1] w fun e w' => e = .returned (.bool r) ∧ Below w.heap.size w w' := by
 have hu31 := Tryd.underlying31
 have hu3 := Tryd.underlying3
 have hu23 := Tryd.underlying23
 have HR0 := Aside0.mk hr0
 have HC0 := Aside0.mk hc0
 clear hr0 hc0
 have HR1 := Aside0.mk hr1
 have HC1 := Aside0.mk hc1
 clear hr1 hc1
 have GL0_0 := Aside0.mk hgl0_0
 clear hgl0_0
 have GL0_1 := Aside0.mk hgl0_1
 clear hgl0_1
 have HB := Aside0.mk (Below.refl w.heap.size w)
 have H : ((g14_.f k).bind fun t714 => (if t714 = true then ((g9_.f k l0 5).bind fun t715 => (if (t715.length : Int) = 0 then (some true) else ((g1_.f k t715 l1).bind fun t718 => ((best_Choose.f k t715).bind fun bt721 => ((best_Choose.f k t718).bind fun bt723 => (if bt721.2 = 0 then (if bt723.2 = 0 then (if bt721.1 < 0 then (some false) else (if bt721.1 ≥ (t715.length : Int) then (some false) else (if bt723.1 < 0 then (some false) else (if bt723.1 ≥ (t718.length : Int) then (some false) else (if 0 ≤ bt721.1 then (if bt721.1 < (t715.length : Int) then (if 0 ≤ bt723.1 then (if bt723.1 < (t718.length : Int) then (if ((rd_T31 t715 bt721.1).f2) = ((rd_T31 t718 bt723.1).f2) then (if ((rd_T31 t715 bt721.1).f3) = ((rd_T31 t718 bt723.1).f3) then ((g11_.f k ((rd_T31 t715 bt721.1).f1) ((rd_T31 t718 bt723.1).f1)).bind fun t729 => (some t729)) else (some false)) else (some false)) else (none)) else (none)) else (none)) else (none)))))) else (some false)) else (some false))))))) else (some false))) = some r := h
 clear h
 replace H := Option.bind_eq_some_iff.mp H
 obtain ⟨t714, A30, H⟩ := H
 replace H : (if t714 = true then ((g9_.f k l0 5).bind fun t715 => (if (t715.length : Int) = 0 then (some true) else ((g1_.f k t715 l1).bind fun t718 => ((best_Choose.f k t715).bind fun bt721 => ((best_Choose.f k t718).bind fun bt723 => (if bt721.2 = 0 then (if bt723.2 = 0 then (if bt721.1 < 0 then (some false) else (if bt721.1 ≥ (t715.length : Int) then (some false) else (if bt723.1 < 0 then (some false) else (if bt723.1 ≥ (t718.length : Int) then (some false) else (if 0 ≤ bt721.1 then (if bt721.1 < (t715.length : Int) then (if 0 ≤ bt723.1 then (if bt723.1 < (t718.length : Int) then (if ((rd_T31 t715 bt721.1).f2) = ((rd_T31 t718 bt723.1).f2) then (if ((rd_T31 t715 bt721.1).f3) = ((rd_T31 t718 bt723.1).f3) then ((g11_.f k ((rd_T31 t715 bt721.1).f1) ((rd_T31 t718 bt723.1).f1)).bind fun t729 => (some t729)) else (some false)) else (some false)) else (none)) else (none)) else (none)) else (none)))))) else (some false)) else (some false))))))) else (some false)) = some r := H
 have A3 := Aside0.mk A30
 clear A30
 by_cases c4 : t714 = true
 rotate_left
 ·
  replace c4 := Bool.eq_false_iff.mpr c4
  subst c4
  have H1 : (some false) = some r := by rw [if_neg (show ¬ (false = true) by decide)] at H; exact H
  clear H
  have H := H1
  clear H1
  obtain rfl := Option.some.inj H
  go_enter Tryd.func3, Tryd.ntmps3
  go_wp2_with (first | ((with_reducible refine gate_callee (f := 6) rfl ?_); refine goesL_ (some 12) rfl rfl Tryd.func6 (by kernel_rfl) rfl #[] rfl zM ?_; (with_reducible refine (g14_.calls k  false _ A3.out).mono ?_); rintro e w146 ⟨rfl, hb⟩; refine ⟨_, rfl, ?_⟩; have n0_ := Aside0.mk (below_step zB hb); clear HB; have HB := n0_; clear n0_; (try clear hb); (try clear hb2); (try clear hk); (try clear hi)))
  go_ret
  exact ⟨zE, zB⟩
 subst c4
 have H1 : ((g9_.f k l0 5).bind fun t715 => (if (t715.length : Int) = 0 then (some true) else ((g1_.f k t715 l1).bind fun t718 => ((best_Choose.f k t715).bind fun bt721 => ((best_Choose.f k t718).bind fun bt723 => (if bt721.2 = 0 then (if bt723.2 = 0 then (if bt721.1 < 0 then (some false) else (if bt721.1 ≥ (t715.length : Int) then (some false) else (if bt723.1 < 0 then (some false) else (if bt723.1 ≥ (t718.length : Int) then (some false) else (if 0 ≤ bt721.1 then (if bt721.1 < (t715.length : Int) then (if 0 ≤ bt723.1 then (if bt723.1 < (t718.length : Int) then (if ((rd_T31 t715 bt721.1).f2) = ((rd_T31 t718 bt723.1).f2) then (if ((rd_T31 t715 bt721.1).f3) = ((rd_T31 t718 bt723.1).f3) then ((g11_.f k ((rd_T31 t715 bt721.1).f1) ((rd_T31 t718 bt723.1).f1)).bind fun t729 => (some t729)) else (some false)) else (some false)) else (none)) else (none)) else (none)) else (none)))))) else (some false)) else (some false))))))) = some r := by rw [if_pos rfl] at H; exact H
 clear H
 have H := H1
 clear H1
 replace H := Option.bind_eq_some_iff.mp H
 obtain ⟨t715, A50, H⟩ := H
 replace H : (if (t715.length : Int) = 0 then (some true) else ((g1_.f k t715 l1).bind fun t718 => ((best_Choose.f k t715).bind fun bt721 => ((best_Choose.f k t718).bind fun bt723 => (if bt721.2 = 0 then (if bt723.2 = 0 then (if bt721.1 < 0 then (some false) else (if bt721.1 ≥ (t715.length : Int) then (some false) else (if bt723.1 < 0 then (some false) else (if bt723.1 ≥ (t718.length : Int) then (some false) else (if 0 ≤ bt721.1 then (if bt721.1 < (t715.length : Int) then (if 0 ≤ bt723.1 then (if bt723.1 < (t718.length : Int) then (if ((rd_T31 t715 bt721.1).f2) = ((rd_T31 t718 bt723.1).f2) then (if ((rd_T31 t715 bt721.1).f3) = ((rd_T31 t718 bt723.1).f3) then ((g11_.f k ((rd_T31 t715 bt721.1).f1) ((rd_T31 t718 bt723.1).f1)).bind fun t729 => (some t729)) else (some false)) else (some false)) else (none)) else (none)) else (none)) else (none)))))) else (some false)) else (some false)))))) = some r := H
 have A5 := Aside0.mk A50
 clear A50
 by_cases c6 : (t715.length : Int) = 0
 ·
  rw [if_pos c6] at H
  have c6b0 : ((t715.length : Int) == 0) = true := beq_iff_eq.mpr c6
  have c6b1 : ((t715.length : Int) != 0) = false := bne_eq_false_iff_eq.mpr c6
  clear c6
  obtain rfl := Option.some.inj H
  go_enter Tryd.func3, Tryd.ntmps3
  go_wp2_with (first | ((with_reducible refine gate_callee (f := 6) rfl ?_); refine goesL_ (some 12) rfl rfl Tryd.func6 (by kernel_rfl) rfl #[] rfl zM ?_; (with_reducible refine (g14_.calls k  true _ A3.out).mono ?_); rintro e w7 ⟨rfl, hb⟩; refine ⟨_, rfl, ?_⟩; have n0_ := Aside0.mk (below_step zB hb); clear HB; have HB := n0_; clear n0_; (try clear hb); (try clear hb2); (try clear hk); (try clear hi)) | ((with_reducible refine gate_callee (f := 7) rfl ?_); refine goesL_ (some 15) rfl rfl Tryd.func7 (by kernel_rfl) rfl #[.slice A0 l0.length c0, .int .i64 5] rfl zM ?_; (with_reducible refine (g9_.calls k _ _ l0 5 t715 _ ?side1 ?side2 ?side3 ?side4 A5.out).mono ?_); (case side1 => exact zC HR0 HB); (case side2 => exact HC0.out); (case side3 => exact (Below.cell zB (World.block_lt_of_cell? w _ GL0_0.out)).trans GL0_0.out); (case side4 => exact (Below.cell zB (World.block_lt_of_cell? w _ GL0_1.out)).trans GL0_1.out); rintro e w8 ⟨v716, rfl, ho0, hb⟩; refine ⟨_, rfl, ?_⟩; have n0_ := Aside0.mk (Kd.N_lower (Kd.N_mono (ok' := fun k_ => True) (Kd.S_N (Kd.S_bound ho0)) (fun k_ hk_ => trivial)) (below_size zB)); have n1_ := Aside0.mk (below_step zB hb); clear HB; have HO717 := n0_; have HB := n1_; clear n0_ n1_; (try clear hb); (try clear hb2); (try clear hk); (try clear hi); (try clear ho0); obtain ⟨Ao9, co9, eo9⟩ := Kd.N_slice HO717.out; subst eo9))
  go_ret
  exact ⟨zE, zB⟩
 rw [if_neg c6] at H
 have c6b0 : ((t715.length : Int) == 0) = false := beq_eq_false_iff_ne.mpr c6
 have c6b1 : ((t715.length : Int) != 0) = true := bne_iff_ne.mpr c6
 have c6b2 : ¬ (t715 = []) := fun h_ => c6 (by rw [h_]; rfl)
 replace H := Option.bind_eq_some_iff.mp H
 obtain ⟨t718, A100, H⟩ := H
 replace H : ((best_Choose.f k t715).bind fun bt721 => ((best_Choose.f k t718).bind fun bt723 => (if bt721.2 = 0 then (if bt723.2 = 0 then (if bt721.1 < 0 then (some false) else (if bt721.1 ≥ (t715.length : Int) then (some false) else (if bt723.1 < 0 then (some false) else (if bt723.1 ≥ (t718.length : Int) then (some false) else (if 0 ≤ bt721.1 then (if bt721.1 < (t715.length : Int) then (if 0 ≤ bt723.1 then (if bt723.1 < (t718.length : Int) then (if ((rd_T31 t715 bt721.1).f2) = ((rd_T31 t718 bt723.1).f2) then (if ((rd_T31 t715 bt721.1).f3) = ((rd_T31 t718 bt723.1).f3) then ((g11_.f k ((rd_T31 t715 bt721.1).f1) ((rd_T31 t718 bt723.1).f1)).bind fun t729 => (some t729)) else (some false)) else (some false)) else (none)) else (none)) else (none)) else (none)))))) else (some false)) else (some false)))) = some r := H
 have A10 := Aside0.mk A100
 clear A100
 replace H := Option.bind_eq_some_iff.mp H
 obtain ⟨⟨t721, t722⟩, A110, H⟩ := H
 replace H : ((best_Choose.f k t718).bind fun bt723 => (if t722 = 0 then (if bt723.2 = 0 then (if t721 < 0 then (some false) else (if t721 ≥ (t715.length : Int) then (some false) else (if bt723.1 < 0 then (some false) else (if bt723.1 ≥ (t718.length : Int) then (some false) else (if 0 ≤ t721 then (if t721 < (t715.length : Int) then (if 0 ≤ bt723.1 then (if bt723.1 < (t718.length : Int) then (if ((rd_T31 t715 t721).f2) = ((rd_T31 t718 bt723.1).f2) then (if ((rd_T31 t715 t721).f3) = ((rd_T31 t718 bt723.1).f3) then ((g11_.f k ((rd_T31 t715 t721).f1) ((rd_T31 t718 bt723.1).f1)).bind fun t729 => (some t729)) else (some false)) else (some false)) else (none)) else (none)) else (none)) else (none)))))) else (some false)) else (some false))) = some r := H
 have A11 := Aside0.mk A110
 clear A110
 replace H := Option.bind_eq_some_iff.mp H
 obtain ⟨⟨t723, t724⟩, A120, H⟩ := H
 replace H : (if t722 = 0 then (if t724 = 0 then (if t721 < 0 then (some false) else (if t721 ≥ (t715.length : Int) then (some false) else (if t723 < 0 then (some false) else (if t723 ≥ (t718.length : Int) then (some false) else (if 0 ≤ t721 then (if t721 < (t715.length : Int) then (if 0 ≤ t723 then (if t723 < (t718.length : Int) then (if ((rd_T31 t715 t721).f2) = ((rd_T31 t718 t723).f2) then (if ((rd_T31 t715 t721).f3) = ((rd_T31 t718 t723).f3) then ((g11_.f k ((rd_T31 t715 t721).f1) ((rd_T31 t718 t723).f1)).bind fun t729 => (some t729)) else (some false)) else (some false)) else (none)) else (none)) else (none)) else (none)))))) else (some false)) else (some false)) = some r := H
 have A12 := Aside0.mk A120
 clear A120
 by_cases c13 : t722 = 0
 rotate_left
 ·
  rw [if_neg c13] at H
  have c13b0 : (t722 == 0) = false := beq_eq_false_iff_ne.mpr c13
  have c13b1 : (t722 != 0) = true := bne_iff_ne.mpr c13
  obtain rfl := Option.some.inj H
  go_enter Tryd.func3, Tryd.ntmps3
  go_wp2_with (first | ((with_reducible refine gate_callee (f := 6) rfl ?_); refine goesL_ (some 12) rfl rfl Tryd.func6 (by kernel_rfl) rfl #[] rfl zM ?_; (with_reducible refine (g14_.calls k  true _ A3.out).mono ?_); rintro e w139 ⟨rfl, hb⟩; refine ⟨_, rfl, ?_⟩; have n0_ := Aside0.mk (below_step zB hb); clear HB; have HB := n0_; clear n0_; (try clear hb); (try clear hb2); (try clear hk); (try clear hi)) | ((with_reducible refine gate_callee (f := 7) rfl ?_); refine goesL_ (some 15) rfl rfl Tryd.func7 (by kernel_rfl) rfl #[.slice A0 l0.length c0, .int .i64 5] rfl zM ?_; (with_reducible refine (g9_.calls k _ _ l0 5 t715 _ ?side1 ?side2 ?side3 ?side4 A5.out).mono ?_); (case side1 => exact zC HR0 HB); (case side2 => exact HC0.out); (case side3 => exact (Below.cell zB (World.block_lt_of_cell? w _ GL0_0.out)).trans GL0_0.out); (case side4 => exact (Below.cell zB (World.block_lt_of_cell? w _ GL0_1.out)).trans GL0_1.out); rintro e w140 ⟨v716, rfl, ho0, hb⟩; refine ⟨_, rfl, ?_⟩; have n0_ := Aside0.mk (Kd.N_lower (Kd.N_mono (ok' := fun k_ => True) (Kd.S_N (Kd.S_bound ho0)) (fun k_ hk_ => trivial)) (below_size zB)); have n1_ := Aside0.mk (below_step zB hb); clear HB; have HO717 := n0_; have HB := n1_; clear n0_ n1_; (try clear hb); (try clear hb2); (try clear hk); (try clear hi); (try clear ho0); obtain ⟨Ao141, co141, eo141⟩ := Kd.N_slice HO717.out; subst eo141) | ((with_reducible refine gate_callee (f := 8) rfl ?_); refine goesL_ (some 21) rfl rfl Tryd.func8 (by kernel_rfl) rfl #[.slice Ao141 t715.length co141, .slice A1 l1.length c1] rfl zM ?_; (with_reducible refine (g1_.calls k (fun k_ => True) _ _ t715 _ _ l1 t718 _ ?side1 ?side2 ?side3 A10.out).mono ?_); (case side1 => exact Kd.N_V (HO717.out)); (case side2 => exact zC HR1 HB); (case side3 => exact HC1.out); rintro e w142 ⟨v719, rfl, ho0, hb⟩; refine ⟨_, rfl, ?_⟩; have n0_ := Aside0.mk (Kd.N_elder' (by (with_reducible repeat (first | apply Kd.N_alloc | apply Kd.N_drewN | apply Kd.N_drew)); exact HO717.out) (Kd.N_base ho0) hb); have n1_ := Aside0.mk (Kd.N_lower (Kd.N_mono (ok' := fun k_ => True) ho0 (fun k_ hk_ => trivial)) (below_size zB)); have n2_ := Aside0.mk (below_step zB hb); clear HO717; clear HB; have HO717 := n0_; have HO720 := n1_; have HB := n2_; clear n0_ n1_ n2_; (try clear hb); (try clear hb2); (try clear hk); (try clear hi); (try clear ho0)) | ((with_reducible refine gate_callee (f := 9) rfl ?_); refine goesL_ (some 24) rfl rfl Tryd.func9 (by kernel_rfl) rfl #[.slice Ao141 t715.length co141] rfl zM ?_; (with_reducible refine (best_Choose.calls k _ _ t715 t721 t722 _ ?side1 ?side2 A11.out).mono ?_); (case side1 => repeat (first | exact (Kd.N_reads' HO717.out).2.2 | (with_reducible refine Kd.C_alloc ?_ _) | (with_reducible refine Kd.C_drewN ?_ _) | (with_reducible refine Kd.C_drew ?_))); (case side2 => exact (Kd.N_reads' HO717.out).2.1); rintro e w143 ⟨rfl, hb⟩; refine ⟨_, rfl, ?_⟩; have n0_ := Aside0.mk (Kd.N_below (by (with_reducible repeat (first | apply Kd.N_alloc | apply Kd.N_drewN | apply Kd.N_drew)); exact HO717.out) hb); have n1_ := Aside0.mk (Kd.N_below (by (with_reducible repeat (first | apply Kd.N_alloc | apply Kd.N_drewN | apply Kd.N_drew)); exact HO720.out) hb); have n2_ := Aside0.mk (below_step zB hb); clear HO717; clear HO720; clear HB; have HO717 := n0_; have HO720 := n1_; have HB := n2_; clear n0_ n1_ n2_; (try clear hb); (try clear hb2); (try clear hk); (try clear hi); obtain ⟨Ao144, co144, eo144⟩ := Kd.N_slice HO720.out; subst eo144) | ((with_reducible refine gate_callee (f := 9) rfl ?_); refine goesL_ (some 29) rfl rfl Tryd.func9 (by kernel_rfl) rfl #[.slice Ao144 t718.length co144] rfl zM ?_; (with_reducible refine (best_Choose.calls k _ _ t718 t723 t724 _ ?side1 ?side2 A12.out).mono ?_); (case side1 => repeat (first | exact (Kd.N_reads' HO720.out).2.2 | (with_reducible refine Kd.C_alloc ?_ _) | (with_reducible refine Kd.C_drewN ?_ _) | (with_reducible refine Kd.C_drew ?_))); (case side2 => exact (Kd.N_reads' HO720.out).2.1); rintro e w145 ⟨rfl, hb⟩; refine ⟨_, rfl, ?_⟩; have n0_ := Aside0.mk (Kd.N_below (by (with_reducible repeat (first | apply Kd.N_alloc | apply Kd.N_drewN | apply Kd.N_drew)); exact HO717.out) hb); have n1_ := Aside0.mk (Kd.N_below (by (with_reducible repeat (first | apply Kd.N_alloc | apply Kd.N_drewN | apply Kd.N_drew)); exact HO720.out) hb); have n2_ := Aside0.mk (below_step zB hb); clear HO717; clear HO720; clear HB; have HO717 := n0_; have HO720 := n1_; have HB := n2_; clear n0_ n1_ n2_; (try clear hb); (try clear hb2); (try clear hk); (try clear hi)))
  go_ret
  exact ⟨zE, zB⟩
 rw [if_pos c13] at H
 have c13b0 : (t722 == 0) = true := beq_iff_eq.mpr c13
 have c13b1 : (t722 != 0) = false := bne_eq_false_iff_eq.mpr c13
 clear c13
 by_cases c14 : t724 = 0
 rotate_left
 ·
  rw [if_neg c14] at H
  have c14b0 : (t724 == 0) = false := beq_eq_false_iff_ne.mpr c14
  have c14b1 : (t724 != 0) = true := bne_iff_ne.mpr c14
  obtain rfl := Option.some.inj H
  go_enter Tryd.func3, Tryd.ntmps3
  go_wp2_with (first | ((with_reducible refine gate_callee (f := 6) rfl ?_); refine goesL_ (some 12) rfl rfl Tryd.func6 (by kernel_rfl) rfl #[] rfl zM ?_; (with_reducible refine (g14_.calls k  true _ A3.out).mono ?_); rintro e w132 ⟨rfl, hb⟩; refine ⟨_, rfl, ?_⟩; have n0_ := Aside0.mk (below_step zB hb); clear HB; have HB := n0_; clear n0_; (try clear hb); (try clear hb2); (try clear hk); (try clear hi)) | ((with_reducible refine gate_callee (f := 7) rfl ?_); refine goesL_ (some 15) rfl rfl Tryd.func7 (by kernel_rfl) rfl #[.slice A0 l0.length c0, .int .i64 5] rfl zM ?_; (with_reducible refine (g9_.calls k _ _ l0 5 t715 _ ?side1 ?side2 ?side3 ?side4 A5.out).mono ?_); (case side1 => exact zC HR0 HB); (case side2 => exact HC0.out); (case side3 => exact (Below.cell zB (World.block_lt_of_cell? w _ GL0_0.out)).trans GL0_0.out); (case side4 => exact (Below.cell zB (World.block_lt_of_cell? w _ GL0_1.out)).trans GL0_1.out); rintro e w133 ⟨v716, rfl, ho0, hb⟩; refine ⟨_, rfl, ?_⟩; have n0_ := Aside0.mk (Kd.N_lower (Kd.N_mono (ok' := fun k_ => True) (Kd.S_N (Kd.S_bound ho0)) (fun k_ hk_ => trivial)) (below_size zB)); have n1_ := Aside0.mk (below_step zB hb); clear HB; have HO717 := n0_; have HB := n1_; clear n0_ n1_; (try clear hb); (try clear hb2); (try clear hk); (try clear hi); (try clear ho0); obtain ⟨Ao134, co134, eo134⟩ := Kd.N_slice HO717.out; subst eo134) | ((with_reducible refine gate_callee (f := 8) rfl ?_); refine goesL_ (some 21) rfl rfl Tryd.func8 (by kernel_rfl) rfl #[.slice Ao134 t715.length co134, .slice A1 l1.length c1] rfl zM ?_; (with_reducible refine (g1_.calls k (fun k_ => True) _ _ t715 _ _ l1 t718 _ ?side1 ?side2 ?side3 A10.out).mono ?_); (case side1 => exact Kd.N_V (HO717.out)); (case side2 => exact zC HR1 HB); (case side3 => exact HC1.out); rintro e w135 ⟨v719, rfl, ho0, hb⟩; refine ⟨_, rfl, ?_⟩; have n0_ := Aside0.mk (Kd.N_elder' (by (with_reducible repeat (first | apply Kd.N_alloc | apply Kd.N_drewN | apply Kd.N_drew)); exact HO717.out) (Kd.N_base ho0) hb); have n1_ := Aside0.mk (Kd.N_lower (Kd.N_mono (ok' := fun k_ => True) ho0 (fun k_ hk_ => trivial)) (below_size zB)); have n2_ := Aside0.mk (below_step zB hb); clear HO717; clear HB; have HO717 := n0_; have HO720 := n1_; have HB := n2_; clear n0_ n1_ n2_; (try clear hb); (try clear hb2); (try clear hk); (try clear hi); (try clear ho0)) | ((with_reducible refine gate_callee (f := 9) rfl ?_); refine goesL_ (some 24) rfl rfl Tryd.func9 (by kernel_rfl) rfl #[.slice Ao134 t715.length co134] rfl zM ?_; (with_reducible refine (best_Choose.calls k _ _ t715 t721 t722 _ ?side1 ?side2 A11.out).mono ?_); (case side1 => repeat (first | exact (Kd.N_reads' HO717.out).2.2 | (with_reducible refine Kd.C_alloc ?_ _) | (with_reducible refine Kd.C_drewN ?_ _) | (with_reducible refine Kd.C_drew ?_))); (case side2 => exact (Kd.N_reads' HO717.out).2.1); rintro e w136 ⟨rfl, hb⟩; refine ⟨_, rfl, ?_⟩; have n0_ := Aside0.mk (Kd.N_below (by (with_reducible repeat (first | apply Kd.N_alloc | apply Kd.N_drewN | apply Kd.N_drew)); exact HO717.out) hb); have n1_ := Aside0.mk (Kd.N_below (by (with_reducible repeat (first | apply Kd.N_alloc | apply Kd.N_drewN | apply Kd.N_drew)); exact HO720.out) hb); have n2_ := Aside0.mk (below_step zB hb); clear HO717; clear HO720; clear HB; have HO717 := n0_; have HO720 := n1_; have HB := n2_; clear n0_ n1_ n2_; (try clear hb); (try clear hb2); (try clear hk); (try clear hi); obtain ⟨Ao137, co137, eo137⟩ := Kd.N_slice HO720.out; subst eo137) | ((with_reducible refine gate_callee (f := 9) rfl ?_); refine goesL_ (some 29) rfl rfl Tryd.func9 (by kernel_rfl) rfl #[.slice Ao137 t718.length co137] rfl zM ?_; (with_reducible refine (best_Choose.calls k _ _ t718 t723 t724 _ ?side1 ?side2 A12.out).mono ?_); (case side1 => repeat (first | exact (Kd.N_reads' HO720.out).2.2 | (with_reducible refine Kd.C_alloc ?_ _) | (with_reducible refine Kd.C_drewN ?_ _) | (with_reducible refine Kd.C_drew ?_))); (case side2 => exact (Kd.N_reads' HO720.out).2.1); rintro e w138 ⟨rfl, hb⟩; refine ⟨_, rfl, ?_⟩; have n0_ := Aside0.mk (Kd.N_below (by (with_reducible repeat (first | apply Kd.N_alloc | apply Kd.N_drewN | apply Kd.N_drew)); exact HO717.out) hb); have n1_ := Aside0.mk (Kd.N_below (by (with_reducible repeat (first | apply Kd.N_alloc | apply Kd.N_drewN | apply Kd.N_drew)); exact HO720.out) hb); have n2_ := Aside0.mk (below_step zB hb); clear HO717; clear HO720; clear HB; have HO717 := n0_; have HO720 := n1_; have HB := n2_; clear n0_ n1_ n2_; (try clear hb); (try clear hb2); (try clear hk); (try clear hi)))
  go_ret
  exact ⟨zE, zB⟩
 rw [if_pos c14] at H
 have c14b0 : (t724 == 0) = true := beq_iff_eq.mpr c14
 have c14b1 : (t724 != 0) = false := bne_eq_false_iff_eq.mpr c14
 clear c14
 by_cases c15 : t721 < 0
 ·
  rw [if_pos c15] at H
  have c15b0 : decide (t721 < 0) = true := decide_eq_true c15
  clear c15
  obtain rfl := Option.some.inj H
  go_enter Tryd.func3, Tryd.ntmps3
  go_wp2_with (first | ((with_reducible refine gate_callee (f := 6) rfl ?_); refine goesL_ (some 12) rfl rfl Tryd.func6 (by kernel_rfl) rfl #[] rfl zM ?_; (with_reducible refine (g14_.calls k  true _ A3.out).mono ?_); rintro e w16 ⟨rfl, hb⟩; refine ⟨_, rfl, ?_⟩; have n0_ := Aside0.mk (below_step zB hb); clear HB; have HB := n0_; clear n0_; (try clear hb); (try clear hb2); (try clear hk); (try clear hi)) | ((with_reducible refine gate_callee (f := 7) rfl ?_); refine goesL_ (some 15) rfl rfl Tryd.func7 (by kernel_rfl) rfl #[.slice A0 l0.length c0, .int .i64 5] rfl zM ?_; (with_reducible refine (g9_.calls k _ _ l0 5 t715 _ ?side1 ?side2 ?side3 ?side4 A5.out).mono ?_); (case side1 => exact zC HR0 HB); (case side2 => exact HC0.out); (case side3 => exact (Below.cell zB (World.block_lt_of_cell? w _ GL0_0.out)).trans GL0_0.out); (case side4 => exact (Below.cell zB (World.block_lt_of_cell? w _ GL0_1.out)).trans GL0_1.out); rintro e w17 ⟨v716, rfl, ho0, hb⟩; refine ⟨_, rfl, ?_⟩; have n0_ := Aside0.mk (Kd.N_lower (Kd.N_mono (ok' := fun k_ => True) (Kd.S_N (Kd.S_bound ho0)) (fun k_ hk_ => trivial)) (below_size zB)); have n1_ := Aside0.mk (below_step zB hb); clear HB; have HO717 := n0_; have HB := n1_; clear n0_ n1_; (try clear hb); (try clear hb2); (try clear hk); (try clear hi); (try clear ho0); obtain ⟨Ao18, co18, eo18⟩ := Kd.N_slice HO717.out; subst eo18) | ((with_reducible refine gate_callee (f := 8) rfl ?_); refine goesL_ (some 21) rfl rfl Tryd.func8 (by kernel_rfl) rfl #[.slice Ao18 t715.length co18, .slice A1 l1.length c1] rfl zM ?_; (with_reducible refine (g1_.calls k (fun k_ => True) _ _ t715 _ _ l1 t718 _ ?side1 ?side2 ?side3 A10.out).mono ?_); (case side1 => exact Kd.N_V (HO717.out)); (case side2 => exact zC HR1 HB); (case side3 => exact HC1.out); rintro e w19 ⟨v719, rfl, ho0, hb⟩; refine ⟨_, rfl, ?_⟩; have n0_ := Aside0.mk (Kd.N_elder' (by (with_reducible repeat (first | apply Kd.N_alloc | apply Kd.N_drewN | apply Kd.N_drew)); exact HO717.out) (Kd.N_base ho0) hb); have n1_ := Aside0.mk (Kd.N_lower (Kd.N_mono (ok' := fun k_ => True) ho0 (fun k_ hk_ => trivial)) (below_size zB)); have n2_ := Aside0.mk (below_step zB hb); clear HO717; clear HB; have HO717 := n0_; have HO720 := n1_; have HB := n2_; clear n0_ n1_ n2_; (try clear hb); (try clear hb2); (try clear hk); (try clear hi); (try clear ho0)) | ((with_reducible refine gate_callee (f := 9) rfl ?_); refine goesL_ (some 24) rfl rfl Tryd.func9 (by kernel_rfl) rfl #[.slice Ao18 t715.length co18] rfl zM ?_; (with_reducible refine (best_Choose.calls k _ _ t715 t721 t722 _ ?side1 ?side2 A11.out).mono ?_); (case side1 => repeat (first | exact (Kd.N_reads' HO717.out).2.2 | (with_reducible refine Kd.C_alloc ?_ _) | (with_reducible refine Kd.C_drewN ?_ _) | (with_reducible refine Kd.C_drew ?_))); (case side2 => exact (Kd.N_reads' HO717.out).2.1); rintro e w20 ⟨rfl, hb⟩; refine ⟨_, rfl, ?_⟩; have n0_ := Aside0.mk (Kd.N_below (by (with_reducible repeat (first | apply Kd.N_alloc | apply Kd.N_drewN | apply Kd.N_drew)); exact HO717.out) hb); have n1_ := Aside0.mk (Kd.N_below (by (with_reducible repeat (first | apply Kd.N_alloc | apply Kd.N_drewN | apply Kd.N_drew)); exact HO720.out) hb); have n2_ := Aside0.mk (below_step zB hb); clear HO717; clear HO720; clear HB; have HO717 := n0_; have HO720 := n1_; have HB := n2_; clear n0_ n1_ n2_; (try clear hb); (try clear hb2); (try clear hk); (try clear hi); obtain ⟨Ao21, co21, eo21⟩ := Kd.N_slice HO720.out; subst eo21) | ((with_reducible refine gate_callee (f := 9) rfl ?_); refine goesL_ (some 29) rfl rfl Tryd.func9 (by kernel_rfl) rfl #[.slice Ao21 t718.length co21] rfl zM ?_; (with_reducible refine (best_Choose.calls k _ _ t718 t723 t724 _ ?side1 ?side2 A12.out).mono ?_); (case side1 => repeat (first | exact (Kd.N_reads' HO720.out).2.2 | (with_reducible refine Kd.C_alloc ?_ _) | (with_reducible refine Kd.C_drewN ?_ _) | (with_reducible refine Kd.C_drew ?_))); (case side2 => exact (Kd.N_reads' HO720.out).2.1); rintro e w22 ⟨rfl, hb⟩; refine ⟨_, rfl, ?_⟩; have n0_ := Aside0.mk (Kd.N_below (by (with_reducible repeat (first | apply Kd.N_alloc | apply Kd.N_drewN | apply Kd.N_drew)); exact HO717.out) hb); have n1_ := Aside0.mk (Kd.N_below (by (with_reducible repeat (first | apply Kd.N_alloc | apply Kd.N_drewN | apply Kd.N_drew)); exact HO720.out) hb); have n2_ := Aside0.mk (below_step zB hb); clear HO717; clear HO720; clear HB; have HO717 := n0_; have HO720 := n1_; have HB := n2_; clear n0_ n1_ n2_; (try clear hb); (try clear hb2); (try clear hk); (try clear hi)))
  go_ret
  exact ⟨zE, zB⟩
 rw [if_neg c15] at H
 have c15b0 : decide (t721 < 0) = false := decide_eq_false c15
 clear c15
 by_cases c23 : t721 ≥ (t715.length : Int)
 ·
  rw [if_pos c23] at H
  have c23b0 : decide ((t715.length : Int) ≤ t721) = true := decide_eq_true c23
  clear c23
  obtain rfl := Option.some.inj H
  go_enter Tryd.func3, Tryd.ntmps3
  go_wp2_with (first | ((with_reducible refine gate_callee (f := 6) rfl ?_); refine goesL_ (some 12) rfl rfl Tryd.func6 (by kernel_rfl) rfl #[] rfl zM ?_; (with_reducible refine (g14_.calls k  true _ A3.out).mono ?_); rintro e w24 ⟨rfl, hb⟩; refine ⟨_, rfl, ?_⟩; have n0_ := Aside0.mk (below_step zB hb); clear HB; have HB := n0_; clear n0_; (try clear hb); (try clear hb2); (try clear hk); (try clear hi)) | ((with_reducible refine gate_callee (f := 7) rfl ?_); refine goesL_ (some 15) rfl rfl Tryd.func7 (by kernel_rfl) rfl #[.slice A0 l0.length c0, .int .i64 5] rfl zM ?_; (with_reducible refine (g9_.calls k _ _ l0 5 t715 _ ?side1 ?side2 ?side3 ?side4 A5.out).mono ?_); (case side1 => exact zC HR0 HB); (case side2 => exact HC0.out); (case side3 => exact (Below.cell zB (World.block_lt_of_cell? w _ GL0_0.out)).trans GL0_0.out); (case side4 => exact (Below.cell zB (World.block_lt_of_cell? w _ GL0_1.out)).trans GL0_1.out); rintro e w25 ⟨v716, rfl, ho0, hb⟩; refine ⟨_, rfl, ?_⟩; have n0_ := Aside0.mk (Kd.N_lower (Kd.N_mono (ok' := fun k_ => True) (Kd.S_N (Kd.S_bound ho0)) (fun k_ hk_ => trivial)) (below_size zB)); have n1_ := Aside0.mk (below_step zB hb); clear HB; have HO717 := n0_; have HB := n1_; clear n0_ n1_; (try clear hb); (try clear hb2); (try clear hk); (try clear hi); (try clear ho0); obtain ⟨Ao26, co26, eo26⟩ := Kd.N_slice HO717.out; subst eo26) | ((with_reducible refine gate_callee (f := 8) rfl ?_); refine goesL_ (some 21) rfl rfl Tryd.func8 (by kernel_rfl) rfl #[.slice Ao26 t715.length co26, .slice A1 l1.length c1] rfl zM ?_; (with_reducible refine (g1_.calls k (fun k_ => True) _ _ t715 _ _ l1 t718 _ ?side1 ?side2 ?side3 A10.out).mono ?_); (case side1 => exact Kd.N_V (HO717.out)); (case side2 => exact zC HR1 HB); (case side3 => exact HC1.out); rintro e w27 ⟨v719, rfl, ho0, hb⟩; refine ⟨_, rfl, ?_⟩; have n0_ := Aside0.mk (Kd.N_elder' (by (with_reducible repeat (first | apply Kd.N_alloc | apply Kd.N_drewN | apply Kd.N_drew)); exact HO717.out) (Kd.N_base ho0) hb); have n1_ := Aside0.mk (Kd.N_lower (Kd.N_mono (ok' := fun k_ => True) ho0 (fun k_ hk_ => trivial)) (below_size zB)); have n2_ := Aside0.mk (below_step zB hb); clear HO717; clear HB; have HO717 := n0_; have HO720 := n1_; have HB := n2_; clear n0_ n1_ n2_; (try clear hb); (try clear hb2); (try clear hk); (try clear hi); (try clear ho0)) | ((with_reducible refine gate_callee (f := 9) rfl ?_); refine goesL_ (some 24) rfl rfl Tryd.func9 (by kernel_rfl) rfl #[.slice Ao26 t715.length co26] rfl zM ?_; (with_reducible refine (best_Choose.calls k _ _ t715 t721 t722 _ ?side1 ?side2 A11.out).mono ?_); (case side1 => repeat (first | exact (Kd.N_reads' HO717.out).2.2 | (with_reducible refine Kd.C_alloc ?_ _) | (with_reducible refine Kd.C_drewN ?_ _) | (with_reducible refine Kd.C_drew ?_))); (case side2 => exact (Kd.N_reads' HO717.out).2.1); rintro e w28 ⟨rfl, hb⟩; refine ⟨_, rfl, ?_⟩; have n0_ := Aside0.mk (Kd.N_below (by (with_reducible repeat (first | apply Kd.N_alloc | apply Kd.N_drewN | apply Kd.N_drew)); exact HO717.out) hb); have n1_ := Aside0.mk (Kd.N_below (by (with_reducible repeat (first | apply Kd.N_alloc | apply Kd.N_drewN | apply Kd.N_drew)); exact HO720.out) hb); have n2_ := Aside0.mk (below_step zB hb); clear HO717; clear HO720; clear HB; have HO717 := n0_; have HO720 := n1_; have HB := n2_; clear n0_ n1_ n2_; (try clear hb); (try clear hb2); (try clear hk); (try clear hi); obtain ⟨Ao29, co29, eo29⟩ := Kd.N_slice HO720.out; subst eo29) | ((with_reducible refine gate_callee (f := 9) rfl ?_); refine goesL_ (some 29) rfl rfl Tryd.func9 (by kernel_rfl) rfl #[.slice Ao29 t718.length co29] rfl zM ?_; (with_reducible refine (best_Choose.calls k _ _ t718 t723 t724 _ ?side1 ?side2 A12.out).mono ?_); (case side1 => repeat (first | exact (Kd.N_reads' HO720.out).2.2 | (with_reducible refine Kd.C_alloc ?_ _) | (with_reducible refine Kd.C_drewN ?_ _) | (with_reducible refine Kd.C_drew ?_))); (case side2 => exact (Kd.N_reads' HO720.out).2.1); rintro e w30 ⟨rfl, hb⟩; refine ⟨_, rfl, ?_⟩; have n0_ := Aside0.mk (Kd.N_below (by (with_reducible repeat (first | apply Kd.N_alloc | apply Kd.N_drewN | apply Kd.N_drew)); exact HO717.out) hb); have n1_ := Aside0.mk (Kd.N_below (by (with_reducible repeat (first | apply Kd.N_alloc | apply Kd.N_drewN | apply Kd.N_drew)); exact HO720.out) hb); have n2_ := Aside0.mk (below_step zB hb); clear HO717; clear HO720; clear HB; have HO717 := n0_; have HO720 := n1_; have HB := n2_; clear n0_ n1_ n2_; (try clear hb); (try clear hb2); (try clear hk); (try clear hi)))
  go_ret
  exact ⟨zE, zB⟩
 rw [if_neg c23] at H
 have c23b0 : decide ((t715.length : Int) ≤ t721) = false := decide_eq_false c23
 clear c23
 by_cases c31 : t723 < 0
 ·
  rw [if_pos c31] at H
  have c31b0 : decide (t723 < 0) = true := decide_eq_true c31
  clear c31
  obtain rfl := Option.some.inj H
  go_enter Tryd.func3, Tryd.ntmps3
  go_wp2_with (first | ((with_reducible refine gate_callee (f := 6) rfl ?_); refine goesL_ (some 12) rfl rfl Tryd.func6 (by kernel_rfl) rfl #[] rfl zM ?_; (with_reducible refine (g14_.calls k  true _ A3.out).mono ?_); rintro e w32 ⟨rfl, hb⟩; refine ⟨_, rfl, ?_⟩; have n0_ := Aside0.mk (below_step zB hb); clear HB; have HB := n0_; clear n0_; (try clear hb); (try clear hb2); (try clear hk); (try clear hi)) | ((with_reducible refine gate_callee (f := 7) rfl ?_); refine goesL_ (some 15) rfl rfl Tryd.func7 (by kernel_rfl) rfl #[.slice A0 l0.length c0, .int .i64 5] rfl zM ?_; (with_reducible refine (g9_.calls k _ _ l0 5 t715 _ ?side1 ?side2 ?side3 ?side4 A5.out).mono ?_); (case side1 => exact zC HR0 HB); (case side2 => exact HC0.out); (case side3 => exact (Below.cell zB (World.block_lt_of_cell? w _ GL0_0.out)).trans GL0_0.out); (case side4 => exact (Below.cell zB (World.block_lt_of_cell? w _ GL0_1.out)).trans GL0_1.out); rintro e w33 ⟨v716, rfl, ho0, hb⟩; refine ⟨_, rfl, ?_⟩; have n0_ := Aside0.mk (Kd.N_lower (Kd.N_mono (ok' := fun k_ => True) (Kd.S_N (Kd.S_bound ho0)) (fun k_ hk_ => trivial)) (below_size zB)); have n1_ := Aside0.mk (below_step zB hb); clear HB; have HO717 := n0_; have HB := n1_; clear n0_ n1_; (try clear hb); (try clear hb2); (try clear hk); (try clear hi); (try clear ho0); obtain ⟨Ao34, co34, eo34⟩ := Kd.N_slice HO717.out; subst eo34) | ((with_reducible refine gate_callee (f := 8) rfl ?_); refine goesL_ (some 21) rfl rfl Tryd.func8 (by kernel_rfl) rfl #[.slice Ao34 t715.length co34, .slice A1 l1.length c1] rfl zM ?_; (with_reducible refine (g1_.calls k (fun k_ => True) _ _ t715 _ _ l1 t718 _ ?side1 ?side2 ?side3 A10.out).mono ?_); (case side1 => exact Kd.N_V (HO717.out)); (case side2 => exact zC HR1 HB); (case side3 => exact HC1.out); rintro e w35 ⟨v719, rfl, ho0, hb⟩; refine ⟨_, rfl, ?_⟩; have n0_ := Aside0.mk (Kd.N_elder' (by (with_reducible repeat (first | apply Kd.N_alloc | apply Kd.N_drewN | apply Kd.N_drew)); exact HO717.out) (Kd.N_base ho0) hb); have n1_ := Aside0.mk (Kd.N_lower (Kd.N_mono (ok' := fun k_ => True) ho0 (fun k_ hk_ => trivial)) (below_size zB)); have n2_ := Aside0.mk (below_step zB hb); clear HO717; clear HB; have HO717 := n0_; have HO720 := n1_; have HB := n2_; clear n0_ n1_ n2_; (try clear hb); (try clear hb2); (try clear hk); (try clear hi); (try clear ho0)) | ((with_reducible refine gate_callee (f := 9) rfl ?_); refine goesL_ (some 24) rfl rfl Tryd.func9 (by kernel_rfl) rfl #[.slice Ao34 t715.length co34] rfl zM ?_; (with_reducible refine (best_Choose.calls k _ _ t715 t721 t722 _ ?side1 ?side2 A11.out).mono ?_); (case side1 => repeat (first | exact (Kd.N_reads' HO717.out).2.2 | (with_reducible refine Kd.C_alloc ?_ _) | (with_reducible refine Kd.C_drewN ?_ _) | (with_reducible refine Kd.C_drew ?_))); (case side2 => exact (Kd.N_reads' HO717.out).2.1); rintro e w36 ⟨rfl, hb⟩; refine ⟨_, rfl, ?_⟩; have n0_ := Aside0.mk (Kd.N_below (by (with_reducible repeat (first | apply Kd.N_alloc | apply Kd.N_drewN | apply Kd.N_drew)); exact HO717.out) hb); have n1_ := Aside0.mk (Kd.N_below (by (with_reducible repeat (first | apply Kd.N_alloc | apply Kd.N_drewN | apply Kd.N_drew)); exact HO720.out) hb); have n2_ := Aside0.mk (below_step zB hb); clear HO717; clear HO720; clear HB; have HO717 := n0_; have HO720 := n1_; have HB := n2_; clear n0_ n1_ n2_; (try clear hb); (try clear hb2); (try clear hk); (try clear hi); obtain ⟨Ao37, co37, eo37⟩ := Kd.N_slice HO720.out; subst eo37) | ((with_reducible refine gate_callee (f := 9) rfl ?_); refine goesL_ (some 29) rfl rfl Tryd.func9 (by kernel_rfl) rfl #[.slice Ao37 t718.length co37] rfl zM ?_; (with_reducible refine (best_Choose.calls k _ _ t718 t723 t724 _ ?side1 ?side2 A12.out).mono ?_); (case side1 => repeat (first | exact (Kd.N_reads' HO720.out).2.2 | (with_reducible refine Kd.C_alloc ?_ _) | (with_reducible refine Kd.C_drewN ?_ _) | (with_reducible refine Kd.C_drew ?_))); (case side2 => exact (Kd.N_reads' HO720.out).2.1); rintro e w38 ⟨rfl, hb⟩; refine ⟨_, rfl, ?_⟩; have n0_ := Aside0.mk (Kd.N_below (by (with_reducible repeat (first | apply Kd.N_alloc | apply Kd.N_drewN | apply Kd.N_drew)); exact HO717.out) hb); have n1_ := Aside0.mk (Kd.N_below (by (with_reducible repeat (first | apply Kd.N_alloc | apply Kd.N_drewN | apply Kd.N_drew)); exact HO720.out) hb); have n2_ := Aside0.mk (below_step zB hb); clear HO717; clear HO720; clear HB; have HO717 := n0_; have HO720 := n1_; have HB := n2_; clear n0_ n1_ n2_; (try clear hb); (try clear hb2); (try clear hk); (try clear hi)))
  go_ret
  exact ⟨zE, zB⟩
 rw [if_neg c31] at H
 have c31b0 : decide (t723 < 0) = false := decide_eq_false c31
 clear c31
 by_cases c39 : t723 ≥ (t718.length : Int)
 ·
  rw [if_pos c39] at H
  have c39b0 : decide ((t718.length : Int) ≤ t723) = true := decide_eq_true c39
  clear c39
  obtain rfl := Option.some.inj H
  go_enter Tryd.func3, Tryd.ntmps3
  go_wp2_with (first | ((with_reducible refine gate_callee (f := 6) rfl ?_); refine goesL_ (some 12) rfl rfl Tryd.func6 (by kernel_rfl) rfl #[] rfl zM ?_; (with_reducible refine (g14_.calls k  true _ A3.out).mono ?_); rintro e w40 ⟨rfl, hb⟩; refine ⟨_, rfl, ?_⟩; have n0_ := Aside0.mk (below_step zB hb); clear HB; have HB := n0_; clear n0_; (try clear hb); (try clear hb2); (try clear hk); (try clear hi)) | ((with_reducible refine gate_callee (f := 7) rfl ?_); refine goesL_ (some 15) rfl rfl Tryd.func7 (by kernel_rfl) rfl #[.slice A0 l0.length c0, .int .i64 5] rfl zM ?_; (with_reducible refine (g9_.calls k _ _ l0 5 t715 _ ?side1 ?side2 ?side3 ?side4 A5.out).mono ?_); (case side1 => exact zC HR0 HB); (case side2 => exact HC0.out); (case side3 => exact (Below.cell zB (World.block_lt_of_cell? w _ GL0_0.out)).trans GL0_0.out); (case side4 => exact (Below.cell zB (World.block_lt_of_cell? w _ GL0_1.out)).trans GL0_1.out); rintro e w41 ⟨v716, rfl, ho0, hb⟩; refine ⟨_, rfl, ?_⟩; have n0_ := Aside0.mk (Kd.N_lower (Kd.N_mono (ok' := fun k_ => True) (Kd.S_N (Kd.S_bound ho0)) (fun k_ hk_ => trivial)) (below_size zB)); have n1_ := Aside0.mk (below_step zB hb); clear HB; have HO717 := n0_; have HB := n1_; clear n0_ n1_; (try clear hb); (try clear hb2); (try clear hk); (try clear hi); (try clear ho0); obtain ⟨Ao42, co42, eo42⟩ := Kd.N_slice HO717.out; subst eo42) | ((with_reducible refine gate_callee (f := 8) rfl ?_); refine goesL_ (some 21) rfl rfl Tryd.func8 (by kernel_rfl) rfl #[.slice Ao42 t715.length co42, .slice A1 l1.length c1] rfl zM ?_; (with_reducible refine (g1_.calls k (fun k_ => True) _ _ t715 _ _ l1 t718 _ ?side1 ?side2 ?side3 A10.out).mono ?_); (case side1 => exact Kd.N_V (HO717.out)); (case side2 => exact zC HR1 HB); (case side3 => exact HC1.out); rintro e w43 ⟨v719, rfl, ho0, hb⟩; refine ⟨_, rfl, ?_⟩; have n0_ := Aside0.mk (Kd.N_elder' (by (with_reducible repeat (first | apply Kd.N_alloc | apply Kd.N_drewN | apply Kd.N_drew)); exact HO717.out) (Kd.N_base ho0) hb); have n1_ := Aside0.mk (Kd.N_lower (Kd.N_mono (ok' := fun k_ => True) ho0 (fun k_ hk_ => trivial)) (below_size zB)); have n2_ := Aside0.mk (below_step zB hb); clear HO717; clear HB; have HO717 := n0_; have HO720 := n1_; have HB := n2_; clear n0_ n1_ n2_; (try clear hb); (try clear hb2); (try clear hk); (try clear hi); (try clear ho0)) | ((with_reducible refine gate_callee (f := 9) rfl ?_); refine goesL_ (some 24) rfl rfl Tryd.func9 (by kernel_rfl) rfl #[.slice Ao42 t715.length co42] rfl zM ?_; (with_reducible refine (best_Choose.calls k _ _ t715 t721 t722 _ ?side1 ?side2 A11.out).mono ?_); (case side1 => repeat (first | exact (Kd.N_reads' HO717.out).2.2 | (with_reducible refine Kd.C_alloc ?_ _) | (with_reducible refine Kd.C_drewN ?_ _) | (with_reducible refine Kd.C_drew ?_))); (case side2 => exact (Kd.N_reads' HO717.out).2.1); rintro e w44 ⟨rfl, hb⟩; refine ⟨_, rfl, ?_⟩; have n0_ := Aside0.mk (Kd.N_below (by (with_reducible repeat (first | apply Kd.N_alloc | apply Kd.N_drewN | apply Kd.N_drew)); exact HO717.out) hb); have n1_ := Aside0.mk (Kd.N_below (by (with_reducible repeat (first | apply Kd.N_alloc | apply Kd.N_drewN | apply Kd.N_drew)); exact HO720.out) hb); have n2_ := Aside0.mk (below_step zB hb); clear HO717; clear HO720; clear HB; have HO717 := n0_; have HO720 := n1_; have HB := n2_; clear n0_ n1_ n2_; (try clear hb); (try clear hb2); (try clear hk); (try clear hi); obtain ⟨Ao45, co45, eo45⟩ := Kd.N_slice HO720.out; subst eo45) | ((with_reducible refine gate_callee (f := 9) rfl ?_); refine goesL_ (some 29) rfl rfl Tryd.func9 (by kernel_rfl) rfl #[.slice Ao45 t718.length co45] rfl zM ?_; (with_reducible refine (best_Choose.calls k _ _ t718 t723 t724 _ ?side1 ?side2 A12.out).mono ?_); (case side1 => repeat (first | exact (Kd.N_reads' HO720.out).2.2 | (with_reducible refine Kd.C_alloc ?_ _) | (with_reducible refine Kd.C_drewN ?_ _) | (with_reducible refine Kd.C_drew ?_))); (case side2 => exact (Kd.N_reads' HO720.out).2.1); rintro e w46 ⟨rfl, hb⟩; refine ⟨_, rfl, ?_⟩; have n0_ := Aside0.mk (Kd.N_below (by (with_reducible repeat (first | apply Kd.N_alloc | apply Kd.N_drewN | apply Kd.N_drew)); exact HO717.out) hb); have n1_ := Aside0.mk (Kd.N_below (by (with_reducible repeat (first | apply Kd.N_alloc | apply Kd.N_drewN | apply Kd.N_drew)); exact HO720.out) hb); have n2_ := Aside0.mk (below_step zB hb); clear HO717; clear HO720; clear HB; have HO717 := n0_; have HO720 := n1_; have HB := n2_; clear n0_ n1_ n2_; (try clear hb); (try clear hb2); (try clear hk); (try clear hi)))
  go_ret
  exact ⟨zE, zB⟩
 rw [if_neg c39] at H
 have c39b0 : decide ((t718.length : Int) ≤ t723) = false := decide_eq_false c39
 clear c39
 by_cases c47 : 0 ≤ t721
 rotate_left
 · rw [if_neg c47] at H; exact absurd H (by simp)
 rw [if_pos c47] at H
 have c47b0 : decide (0 ≤ t721) = true := decide_eq_true c47
 clear c47
 by_cases c48 : t721 < (t715.length : Int)
 rotate_left
 · rw [if_neg c48] at H; exact absurd H (by simp)
 rw [if_pos c48] at H
 have c48b0 : decide (t721 < (t715.length : Int)) = true := decide_eq_true c48
 clear c48
 by_cases c49 : 0 ≤ t723
 rotate_left
 · rw [if_neg c49] at H; exact absurd H (by simp)
 rw [if_pos c49] at H
 have c49b0 : decide (0 ≤ t723) = true := decide_eq_true c49
 clear c49
 by_cases c50 : t723 < (t718.length : Int)
 rotate_left
 · rw [if_neg c50] at H; exact absurd H (by simp)
 rw [if_pos c50] at H
 have c50b0 : decide (t723 < (t718.length : Int)) = true := decide_eq_true c50
 clear c50
 by_cases c51 : ((rd_T31 t715 t721).f2) = ((rd_T31 t718 t723).f2)
 rotate_left
 ·
  rw [if_neg c51] at H
  have c51b0 : (((rd_T31 t715 t721).f2) == ((rd_T31 t718 t723).f2)) = false := beq_eq_false_iff_ne.mpr c51
  have c51b1 : (((rd_T31 t715 t721).f2) != ((rd_T31 t718 t723).f2)) = true := bne_iff_ne.mpr c51
  obtain rfl := Option.some.inj H
  go_enter Tryd.func3, Tryd.ntmps3
  try go_wp2_with (first | ((with_reducible refine gate_callee (f := 6) rfl ?_); refine goesL_ (some 12) rfl rfl Tryd.func6 (by kernel_rfl) rfl #[] rfl zM ?_; (with_reducible refine (g14_.calls k  true _ A3.out).mono ?_); rintro e w106 ⟨rfl, hb⟩; refine ⟨_, rfl, ?_⟩; have n0_ := Aside0.mk (below_step zB hb); clear HB; have HB := n0_; clear n0_; (try clear hb); (try clear hb2); (try clear hk); (try clear hi)) | ((with_reducible refine gate_callee (f := 7) rfl ?_); refine goesL_ (some 15) rfl rfl Tryd.func7 (by kernel_rfl) rfl #[.slice A0 l0.length c0, .int .i64 5] rfl zM ?_; (with_reducible refine (g9_.calls k _ _ l0 5 t715 _ ?side1 ?side2 ?side3 ?side4 A5.out).mono ?_); (case side1 => exact zC HR0 HB); (case side2 => exact HC0.out); (case side3 => exact (Below.cell zB (World.block_lt_of_cell? w _ GL0_0.out)).trans GL0_0.out); (case side4 => exact (Below.cell zB (World.block_lt_of_cell? w _ GL0_1.out)).trans GL0_1.out); rintro e w107 ⟨v716, rfl, ho0, hb⟩; refine ⟨_, rfl, ?_⟩; have n0_ := Aside0.mk (Kd.N_lower (Kd.N_mono (ok' := fun k_ => True) (Kd.S_N (Kd.S_bound ho0)) (fun k_ hk_ => trivial)) (below_size zB)); have n1_ := Aside0.mk (below_step zB hb); clear HB; have HO717 := n0_; have HB := n1_; clear n0_ n1_; (try clear hb); (try clear hb2); (try clear hk); (try clear hi); (try clear ho0); obtain ⟨Ao108, co108, eo108⟩ := Kd.N_slice HO717.out; subst eo108) | ((with_reducible refine gate_callee (f := 8) rfl ?_); refine goesL_ (some 21) rfl rfl Tryd.func8 (by kernel_rfl) rfl #[.slice Ao108 t715.length co108, .slice A1 l1.length c1] rfl zM ?_; (with_reducible refine (g1_.calls k (fun k_ => True) _ _ t715 _ _ l1 t718 _ ?side1 ?side2 ?side3 A10.out).mono ?_); (case side1 => exact Kd.N_V (HO717.out)); (case side2 => exact zC HR1 HB); (case side3 => exact HC1.out); rintro e w109 ⟨v719, rfl, ho0, hb⟩; refine ⟨_, rfl, ?_⟩; have n0_ := Aside0.mk (Kd.N_elder' (by (with_reducible repeat (first | apply Kd.N_alloc | apply Kd.N_drewN | apply Kd.N_drew)); exact HO717.out) (Kd.N_base ho0) hb); have n1_ := Aside0.mk (Kd.N_lower (Kd.N_mono (ok' := fun k_ => True) ho0 (fun k_ hk_ => trivial)) (below_size zB)); have n2_ := Aside0.mk (below_step zB hb); clear HO717; clear HB; have HO717 := n0_; have HO720 := n1_; have HB := n2_; clear n0_ n1_ n2_; (try clear hb); (try clear hb2); (try clear hk); (try clear hi); (try clear ho0)) | ((with_reducible refine gate_callee (f := 9) rfl ?_); refine goesL_ (some 24) rfl rfl Tryd.func9 (by kernel_rfl) rfl #[.slice Ao108 t715.length co108] rfl zM ?_; (with_reducible refine (best_Choose.calls k _ _ t715 t721 t722 _ ?side1 ?side2 A11.out).mono ?_); (case side1 => repeat (first | exact (Kd.N_reads' HO717.out).2.2 | (with_reducible refine Kd.C_alloc ?_ _) | (with_reducible refine Kd.C_drewN ?_ _) | (with_reducible refine Kd.C_drew ?_))); (case side2 => exact (Kd.N_reads' HO717.out).2.1); rintro e w110 ⟨rfl, hb⟩; refine ⟨_, rfl, ?_⟩; have n0_ := Aside0.mk (Kd.N_below (by (with_reducible repeat (first | apply Kd.N_alloc | apply Kd.N_drewN | apply Kd.N_drew)); exact HO717.out) hb); have n1_ := Aside0.mk (Kd.N_below (by (with_reducible repeat (first | apply Kd.N_alloc | apply Kd.N_drewN | apply Kd.N_drew)); exact HO720.out) hb); have n2_ := Aside0.mk (below_step zB hb); clear HO717; clear HO720; clear HB; have HO717 := n0_; have HO720 := n1_; have HB := n2_; clear n0_ n1_ n2_; (try clear hb); (try clear hb2); (try clear hk); (try clear hi); obtain ⟨Ao111, co111, eo111⟩ := Kd.N_slice HO720.out; subst eo111) | ((with_reducible refine gate_callee (f := 9) rfl ?_); refine goesL_ (some 29) rfl rfl Tryd.func9 (by kernel_rfl) rfl #[.slice Ao111 t718.length co111] rfl zM ?_; (with_reducible refine (best_Choose.calls k _ _ t718 t723 t724 _ ?side1 ?side2 A12.out).mono ?_); (case side1 => repeat (first | exact (Kd.N_reads' HO720.out).2.2 | (with_reducible refine Kd.C_alloc ?_ _) | (with_reducible refine Kd.C_drewN ?_ _) | (with_reducible refine Kd.C_drew ?_))); (case side2 => exact (Kd.N_reads' HO720.out).2.1); rintro e w112 ⟨rfl, hb⟩; refine ⟨_, rfl, ?_⟩; have n0_ := Aside0.mk (Kd.N_below (by (with_reducible repeat (first | apply Kd.N_alloc | apply Kd.N_drewN | apply Kd.N_drew)); exact HO717.out) hb); have n1_ := Aside0.mk (Kd.N_below (by (with_reducible repeat (first | apply Kd.N_alloc | apply Kd.N_drewN | apply Kd.N_drew)); exact HO720.out) hb); have n2_ := Aside0.mk (below_step zB hb); clear HO717; clear HO720; clear HB; have HO717 := n0_; have HO720 := n1_; have HB := n2_; clear n0_ n1_ n2_; (try clear hb); (try clear hb2); (try clear hk); (try clear hi)))
  have n0_ := Aside0.mk (Kd.N_drew HO717.out)
  have n1_ := Aside0.mk (Kd.N_drew HO720.out)
  have n2_ := Aside0.mk (below_drew1 HB.out)
  clear HO717
  clear HO720
  clear HB
  have HO717 := n0_
  have HO720 := n1_
  have HB := n2_
  clear n0_ n1_ n2_
  have p725 : 0 ≤ (t721 : Int) := od
  have q725 : t721 < (t715.length : Int) := od
  obtain ⟨ad725, A725_2, c725_2, A725_5, c725_5, e725, hx725_0, hx725_1, hx725_2, hx725_3, hx725_4, hx725_5, hl725_2, hi725_2, hl725_5, hi725_5⟩ := at_T31 (Kd.N_reads' HO717.out).2.2 t721 p725 q725
  cases e725
  obtain ⟨ce725, hce725, hMe725, hcc725⟩ := Kd.N_get HO717.out z31 t721 p725 (by first | exact q725 | exact od | (have e_ := (Kd.N_reads' HO717.out).1; omega))
  obtain ⟨ua725_2, uc725_2, ua725_5, uc725_5, rfl, ul725_2, ge725_2, ul725_5, ge725_5⟩ := k31_openF hMe725
  have hv725_2 := hcc725 2 _ rfl
  rw [add_field _ _ 2 (by omega)] at hv725_2
  replace hv725_2 := Option.some.inj (hv725_2.symm.trans hx725_2)
  injection hv725_2 with hva_ hvn_ hvc_
  rw [hva_] at ge725_2
  rw [hvc_] at ul725_2
  have HL725_2 := Aside0.mk (show Kd.V (Kd.int .i64) 3 _ w.heap.size _ _ ((rd_T31 t715 t721).f1) from Kd.V_mk ul725_2 ge725_2)
  clear hva_ hvn_ hvc_ ge725_2 ul725_2
  have hv725_5 := hcc725 5 _ rfl
  rw [add_field _ _ 5 (by omega)] at hv725_5
  replace hv725_5 := Option.some.inj (hv725_5.symm.trans hx725_5)
  injection hv725_5 with hva_ hvn_ hvc_
  rw [hva_] at ge725_5
  rw [hvc_] at ul725_5
  have HL725_5 := Aside0.mk (show Kd.V (Kd.int .i64) 3 _ w.heap.size _ _ ((rd_T31 t715 t721).f4) from Kd.V_mk ul725_5 ge725_5)
  clear hva_ hvn_ hvc_ ge725_5 ul725_5
  clear hcc725 hce725
  have HR725_2 := Aside0.mk hi725_2
  have HC725_2 := Aside0.mk hl725_2
  clear hi725_2 hl725_2
  have HR725_5 := Aside0.mk hi725_5
  have HC725_5 := Aside0.mk hl725_5
  clear hi725_5 hl725_5
  replace p725 := eq_true p725
  replace q725 := eq_true q725
  have p726 : 0 ≤ (t723 : Int) := od
  have q726 : t723 < (t718.length : Int) := od
  obtain ⟨ad726, A726_2, c726_2, A726_5, c726_5, e726, hx726_0, hx726_1, hx726_2, hx726_3, hx726_4, hx726_5, hl726_2, hi726_2, hl726_5, hi726_5⟩ := at_T31 (Kd.N_reads' HO720.out).2.2 t723 p726 q726
  cases e726
  obtain ⟨ce726, hce726, hMe726, hcc726⟩ := Kd.N_get HO720.out z31 t723 p726 (by first | exact q726 | exact od | (have e_ := (Kd.N_reads' HO720.out).1; omega))
  obtain ⟨ua726_2, uc726_2, ua726_5, uc726_5, rfl, ul726_2, ge726_2, ul726_5, ge726_5⟩ := k31_openF hMe726
  have hv726_2 := hcc726 2 _ rfl
  rw [add_field _ _ 2 (by omega)] at hv726_2
  replace hv726_2 := Option.some.inj (hv726_2.symm.trans hx726_2)
  injection hv726_2 with hva_ hvn_ hvc_
  rw [hva_] at ge726_2
  rw [hvc_] at ul726_2
  have HL726_2 := Aside0.mk (show Kd.V (Kd.int .i64) 3 _ w.heap.size _ _ ((rd_T31 t718 t723).f1) from Kd.V_mk ul726_2 ge726_2)
  clear hva_ hvn_ hvc_ ge726_2 ul726_2
  have hv726_5 := hcc726 5 _ rfl
  rw [add_field _ _ 5 (by omega)] at hv726_5
  replace hv726_5 := Option.some.inj (hv726_5.symm.trans hx726_5)
  injection hv726_5 with hva_ hvn_ hvc_
  rw [hva_] at ge726_5
  rw [hvc_] at ul726_5
  have HL726_5 := Aside0.mk (show Kd.V (Kd.int .i64) 3 _ w.heap.size _ _ ((rd_T31 t718 t723).f4) from Kd.V_mk ul726_5 ge726_5)
  clear hva_ hvn_ hvc_ ge726_5 ul726_5
  clear hcc726 hce726
  have HR726_2 := Aside0.mk hi726_2
  have HC726_2 := Aside0.mk hl726_2
  clear hi726_2 hl726_2
  have HR726_5 := Aside0.mk hi726_5
  have HC726_5 := Aside0.mk hl726_5
  clear hi726_5 hl726_5
  replace p726 := eq_true p726
  replace q726 := eq_true q726
  refine start_ (n := 12) (S := fun w' => w'.cell? (ad725.add ((t721).toNat * 6)) = some (.int .u32 ((rd_T31 t715 t721).f0.f0)) ∧ w'.cell? ⟨(ad725.add ((t721).toNat * 6)).block, (ad725.add ((t721).toNat * 6)).off + 1, none⟩ = some (.int .i64 ((rd_T31 t715 t721).f0.f1)) ∧ w'.cell? ⟨(ad725.add ((t721).toNat * 6)).block, (ad725.add ((t721).toNat * 6)).off + 2, none⟩ = some (.slice A725_2 ((rd_T31 t715 t721).f1).length c725_2) ∧ w'.cell? ⟨(ad725.add ((t721).toNat * 6)).block, (ad725.add ((t721).toNat * 6)).off + 3, none⟩ = some (.int .i64 ((rd_T31 t715 t721).f2)) ∧ w'.cell? ⟨(ad725.add ((t721).toNat * 6)).block, (ad725.add ((t721).toNat * 6)).off + 4, none⟩ = some (.int .i64 ((rd_T31 t715 t721).f3)) ∧ w'.cell? ⟨(ad725.add ((t721).toNat * 6)).block, (ad725.add ((t721).toNat * 6)).off + 5, none⟩ = some (.slice A725_5 ((rd_T31 t715 t721).f4).length c725_5) ∧ w'.cell? (ad726.add ((t723).toNat * 6)) = some (.int .u32 ((rd_T31 t718 t723).f0.f0)) ∧ w'.cell? ⟨(ad726.add ((t723).toNat * 6)).block, (ad726.add ((t723).toNat * 6)).off + 1, none⟩ = some (.int .i64 ((rd_T31 t718 t723).f0.f1)) ∧ w'.cell? ⟨(ad726.add ((t723).toNat * 6)).block, (ad726.add ((t723).toNat * 6)).off + 2, none⟩ = some (.slice A726_2 ((rd_T31 t718 t723).f1).length c726_2) ∧ w'.cell? ⟨(ad726.add ((t723).toNat * 6)).block, (ad726.add ((t723).toNat * 6)).off + 3, none⟩ = some (.int .i64 ((rd_T31 t718 t723).f2)) ∧ w'.cell? ⟨(ad726.add ((t723).toNat * 6)).block, (ad726.add ((t723).toNat * 6)).off + 4, none⟩ = some (.int .i64 ((rd_T31 t718 t723).f3)) ∧ w'.cell? ⟨(ad726.add ((t723).toNat * 6)).block, (ad726.add ((t723).toNat * 6)).off + 5, none⟩ = some (.slice A726_5 ((rd_T31 t718 t723).f4).length c726_5)) (ds := []) (bm 12 0) (by kernel_rfl) rfl rfl ⟨hx725_0, hx725_1, hx725_2, hx725_3, hx725_4, hx725_5, hx726_0, hx726_1, hx726_2, hx726_3, hx726_4, hx726_5⟩ (fun hHeld => ?_); refine with_tabW g13_.tab11 g13_.bits11 (fun HT_ HW_ => ?_)
  generalize w112.drew = w113 at HO717 HO720 HB HL725_2 HL725_5 HL726_2 HL726_5 HR725_2 HR725_5 HR726_2 HR726_5 hx725_0 hx725_1 hx725_2 hx725_3 hx725_4 hx725_5 hx726_0 hx726_1 hx726_2 hx726_3 hx726_4 hx726_5 hHeld ⊢
  refine pu 0 (some 58) (bm 12 1) HT_ ?_
  refine pu 1 (some 59) (bm 12 3) HT_ ?_
  refine pu 2 (some 60) (bm 12 7) HT_ ?_
  refine pu 4 (some 62) (bm 12 23) HT_ ?_
  refine pu 5 (some 63) (bm 12 55) HT_ ?_
  refine pu 6 (some 64) (bm 12 119) HT_ ?_
  refine tk 3 (some 61) (bm 12 127) HT_ HW_ hHeld ?_
  refine tk 7 (some 65) (bm 12 255) HT_ HW_ hHeld ?_
  refine join_ (σ := Nat × Nat) 2 (bm 12 1023) (fun s_ => [(10, .pointer (some ⟨s_.1, 0, none⟩)), (11, .pointer (some ⟨s_.2, 0, none⟩))]) (fun s_ w' => (w'.cell? (ad725.add ((t721).toNat * 6)) = some (.int .u32 ((rd_T31 t715 t721).f0.f0)) ∧ w'.cell? ⟨(ad725.add ((t721).toNat * 6)).block, (ad725.add ((t721).toNat * 6)).off + 1, none⟩ = some (.int .i64 ((rd_T31 t715 t721).f0.f1)) ∧ w'.cell? ⟨(ad725.add ((t721).toNat * 6)).block, (ad725.add ((t721).toNat * 6)).off + 2, none⟩ = some (.slice A725_2 ((rd_T31 t715 t721).f1).length c725_2) ∧ w'.cell? ⟨(ad725.add ((t721).toNat * 6)).block, (ad725.add ((t721).toNat * 6)).off + 3, none⟩ = some (.int .i64 ((rd_T31 t715 t721).f2)) ∧ w'.cell? ⟨(ad725.add ((t721).toNat * 6)).block, (ad725.add ((t721).toNat * 6)).off + 4, none⟩ = some (.int .i64 ((rd_T31 t715 t721).f3)) ∧ w'.cell? ⟨(ad725.add ((t721).toNat * 6)).block, (ad725.add ((t721).toNat * 6)).off + 5, none⟩ = some (.slice A725_5 ((rd_T31 t715 t721).f4).length c725_5) ∧ w'.cell? (ad726.add ((t723).toNat * 6)) = some (.int .u32 ((rd_T31 t718 t723).f0.f0)) ∧ w'.cell? ⟨(ad726.add ((t723).toNat * 6)).block, (ad726.add ((t723).toNat * 6)).off + 1, none⟩ = some (.int .i64 ((rd_T31 t718 t723).f0.f1)) ∧ w'.cell? ⟨(ad726.add ((t723).toNat * 6)).block, (ad726.add ((t723).toNat * 6)).off + 2, none⟩ = some (.slice A726_2 ((rd_T31 t718 t723).f1).length c726_2) ∧ w'.cell? ⟨(ad726.add ((t723).toNat * 6)).block, (ad726.add ((t723).toNat * 6)).off + 3, none⟩ = some (.int .i64 ((rd_T31 t718 t723).f2)) ∧ w'.cell? ⟨(ad726.add ((t723).toNat * 6)).block, (ad726.add ((t723).toNat * 6)).off + 4, none⟩ = some (.int .i64 ((rd_T31 t718 t723).f3)) ∧ w'.cell? ⟨(ad726.add ((t723).toNat * 6)).block, (ad726.add ((t723).toNat * 6)).off + 5, none⟩ = some (.slice A726_5 ((rd_T31 t718 t723).f4).length c726_5)) ∧ (Kd.V (Kd.int .i64) 3 w' w.heap.size (fun k_ => some k_ ≠ (.slice (some ad725) t715.length co108 : Value).ownBlock ∧ some k_ ≠ (.slice (some ad726) t718.length co111 : Value).ownBlock ∧ k_ ≠ s_.1 ∧ k_ ≠ s_.2) (.slice A725_2 ((rd_T31 t715 t721).f1).length c725_2) ((rd_T31 t715 t721).f1)) ∧ (Kd.V (Kd.int .i64) 3 w' w.heap.size (fun k_ => some k_ ≠ (.slice (some ad725) t715.length co108 : Value).ownBlock ∧ some k_ ≠ (.slice (some ad726) t718.length co111 : Value).ownBlock ∧ k_ ≠ s_.1 ∧ k_ ≠ s_.2) (.slice A725_5 ((rd_T31 t715 t721).f4).length c725_5) ((rd_T31 t715 t721).f4)) ∧ (Kd.V (Kd.int .i64) 3 w' w.heap.size (fun k_ => some k_ ≠ (.slice (some ad726) t718.length co111 : Value).ownBlock ∧ k_ ≠ s_.1 ∧ k_ ≠ s_.2) (.slice A726_2 ((rd_T31 t718 t723).f1).length c726_2) ((rd_T31 t718 t723).f1)) ∧ (Kd.V (Kd.int .i64) 3 w' w.heap.size (fun k_ => some k_ ≠ (.slice (some ad726) t718.length co111 : Value).ownBlock ∧ k_ ≠ s_.1 ∧ k_ ≠ s_.2) (.slice A726_5 ((rd_T31 t718 t723).f4).length c726_5) ((rd_T31 t718 t723).f4)) ∧ (Kd.N k31 31 w' w.heap.size (fun k_ => some k_ ≠ (.slice (some ad726) t718.length co111 : Value).ownBlock ∧ k_ ≠ s_.1 ∧ k_ ≠ s_.2) (.slice (some ad725) t715.length co108) t715) ∧ (Kd.N k31 31 w' w.heap.size (fun k_ => k_ ≠ s_.1 ∧ k_ ≠ s_.2) (.slice (some ad726) t718.length co111) t718) ∧ (w'.heap[s_.1]? = some (.cells #[.int .u32 0, .int .i64 0, .slice none 0 0, .int .i64 0, .int .i64 0, .slice none 0 0] 31 (0, 0))) ∧ (w'.heap[s_.2]? = some (.cells #[.int .u32 0, .int .i64 0, .slice none 0 0, .int .i64 0, .int .i64 0, .slice none 0 0] 31 (0, 0))) ∧ (w.heap.size ≤ s_.1) ∧ (w.heap.size ≤ s_.1) ∧ (s_.2 ≠ s_.1) ∧ (s_.1 ≠ s_.2) ∧ (w.heap.size ≤ s_.2) ∧ (w.heap.size ≤ s_.2) ∧ (Below w.heap.size w w')) ?_ ?_
  rotate_left
  ·
   intro hCont
   refine two_ (i := 8) (j := 9) (Ni := some 10) (Nj := some 11) (bm 12 511) (bm 12 767) rfl rfl rfl rfl (two_of HT_.out (by kernel_rfl)) (by decide) (by decide) (fun K hK => ?_) (fun K hK => ?_)
   ·
    skip
    refine box_step ?hg (N := 10) ?hd (cs := #[.int .u32 0, .int .i64 0, .slice none 0 0, .int .i64 0, .int .i64 0, .slice none 0 0]) (t := 31) ?hr ?_; (case hd => rfl); (case hg => rfl); (case hr => first | (go_simp; done) | (go_simp; rfl))
    intro gb727 hg w114 hbox hb
    have HS0_ := (hb.cell (World.block_lt_of_cell? _ _ (hHeld.1))).trans (hHeld.1)
    have HS1_ := (hb.cell (World.block_lt_of_cell? _ _ (hHeld.2.1))).trans (hHeld.2.1)
    have HS2_ := (hb.cell (World.block_lt_of_cell? _ _ (hHeld.2.2.1))).trans (hHeld.2.2.1)
    have HS3_ := (hb.cell (World.block_lt_of_cell? _ _ (hHeld.2.2.2.1))).trans (hHeld.2.2.2.1)
    have HS4_ := (hb.cell (World.block_lt_of_cell? _ _ (hHeld.2.2.2.2.1))).trans (hHeld.2.2.2.2.1)
    have HS5_ := (hb.cell (World.block_lt_of_cell? _ _ (hHeld.2.2.2.2.2.1))).trans (hHeld.2.2.2.2.2.1)
    have HS6_ := (hb.cell (World.block_lt_of_cell? _ _ (hHeld.2.2.2.2.2.2.1))).trans (hHeld.2.2.2.2.2.2.1)
    have HS7_ := (hb.cell (World.block_lt_of_cell? _ _ (hHeld.2.2.2.2.2.2.2.1))).trans (hHeld.2.2.2.2.2.2.2.1)
    have HS8_ := (hb.cell (World.block_lt_of_cell? _ _ (hHeld.2.2.2.2.2.2.2.2.1))).trans (hHeld.2.2.2.2.2.2.2.2.1)
    have HS9_ := (hb.cell (World.block_lt_of_cell? _ _ (hHeld.2.2.2.2.2.2.2.2.2.1))).trans (hHeld.2.2.2.2.2.2.2.2.2.1)
    have HS10_ := (hb.cell (World.block_lt_of_cell? _ _ (hHeld.2.2.2.2.2.2.2.2.2.2.1))).trans (hHeld.2.2.2.2.2.2.2.2.2.2.1)
    have HS11_ := (hb.cell (World.block_lt_of_cell? _ _ (hHeld.2.2.2.2.2.2.2.2.2.2.2))).trans (hHeld.2.2.2.2.2.2.2.2.2.2.2)
    have n0_ := Aside0.mk (Kd.N_below (Kd.N_elderB (by (with_reducible repeat (first | apply Kd.N_alloc | apply Kd.N_drewN | apply Kd.N_drew)); exact HO717.out) gb727 (Nat.le_of_eq hg.symm)) hb)
    have n1_ := Aside0.mk (Kd.N_below (Kd.N_elderB (by (with_reducible repeat (first | apply Kd.N_alloc | apply Kd.N_drewN | apply Kd.N_drew)); exact HO720.out) gb727 (Nat.le_of_eq hg.symm)) hb)
    have n2_ := Aside0.mk (Kd.V_below (Kd.V_elderB (by (with_reducible repeat (first | apply Kd.V_alloc | apply Kd.V_drewN | apply Kd.V_drew)); exact HL725_2.out) gb727 (Nat.le_of_eq hg.symm)) hb)
    have n3_ := Aside0.mk (Kd.V_below (Kd.V_elderB (by (with_reducible repeat (first | apply Kd.V_alloc | apply Kd.V_drewN | apply Kd.V_drew)); exact HL725_5.out) gb727 (Nat.le_of_eq hg.symm)) hb)
    have n4_ := Aside0.mk (Kd.V_below (Kd.V_elderB (by (with_reducible repeat (first | apply Kd.V_alloc | apply Kd.V_drewN | apply Kd.V_drew)); exact HL726_2.out) gb727 (Nat.le_of_eq hg.symm)) hb)
    have n5_ := Aside0.mk (Kd.V_below (Kd.V_elderB (by (with_reducible repeat (first | apply Kd.V_alloc | apply Kd.V_drewN | apply Kd.V_drew)); exact HL726_5.out) gb727 (Nat.le_of_eq hg.symm)) hb)
    have n6_ := Aside0.mk (Kd.C_below (by repeat (first | (with_reducible exact HR725_2.out) | (with_reducible refine Kd.C_alloc ?_ _) | (with_reducible refine Kd.C_drewN ?_ _) | (with_reducible refine Kd.C_drew ?_) | exact HR725_2.out)) hb)
    have n7_ := Aside0.mk (Kd.C_below (by repeat (first | (with_reducible exact HR725_5.out) | (with_reducible refine Kd.C_alloc ?_ _) | (with_reducible refine Kd.C_drewN ?_ _) | (with_reducible refine Kd.C_drew ?_) | exact HR725_5.out)) hb)
    have n8_ := Aside0.mk (Kd.C_below (by repeat (first | (with_reducible exact HR726_2.out) | (with_reducible refine Kd.C_alloc ?_ _) | (with_reducible refine Kd.C_drewN ?_ _) | (with_reducible refine Kd.C_drew ?_) | exact HR726_2.out)) hb)
    have n9_ := Aside0.mk (Kd.C_below (by repeat (first | (with_reducible exact HR726_5.out) | (with_reducible refine Kd.C_alloc ?_ _) | (with_reducible refine Kd.C_drewN ?_ _) | (with_reducible refine Kd.C_drew ?_) | exact HR726_5.out)) hb)
    have n10_ := Aside0.mk (below_step zB hb)
    have n11_ := Aside0.mk (hbox)
    have n12_ := Aside0.mk ((zG hg : w.heap.size ≤ gb727))
    have n13_ := Aside0.mk ((zG hg : w.heap.size ≤ gb727))
    clear HO717
    clear HO720
    clear HL725_2
    clear HL725_5
    clear HL726_2
    clear HL726_5
    clear HR725_2
    clear HR725_5
    clear HR726_2
    clear HR726_5
    clear HB
    have HO717 := n0_
    have HO720 := n1_
    have HL725_2 := n2_
    have HL725_5 := n3_
    have HL726_2 := n4_
    have HL726_5 := n5_
    have HR725_2 := n6_
    have HR725_5 := n7_
    have HR726_2 := n8_
    have HR726_5 := n9_
    have HB := n10_
    have BK727 := n11_
    have GW727 := n12_
    have GE727 := n13_
    clear n0_ n1_ n2_ n3_ n4_ n5_ n6_ n7_ n8_ n9_ n10_ n11_ n12_ n13_
    clear hb hbox hg
    refine hK.out _ _ ⟨HS0_, HS1_, HS2_, HS3_, HS4_, HS5_, HS6_, HS7_, HS8_, HS9_, HS10_, HS11_⟩ (fun hHeld => ?_)
    clear hK K
    refine norm_ (a' := ?_) ?_ ?_
    rotate_left
    · show Act.put _ (some 10) _ = _; simp only [Act.put, sA, s0, sS, i64_w, i32_w]; rfl
    refine one_ (i := 9) (N := some 11) (bm 12 1023) rfl rfl (one_of HT_.out (by kernel_rfl)) (by decide) (fun K hK => ?_)
    refine box_step ?hg (N := 11) ?hd (cs := #[.int .u32 0, .int .i64 0, .slice none 0 0, .int .i64 0, .int .i64 0, .slice none 0 0]) (t := 31) ?hr ?_; (case hd => rfl); (case hg => rfl); (case hr => first | (go_simp; done) | (go_simp; rfl))
    intro gb728 hg w115 hbox hb
    have HS0_ := (hb.cell (World.block_lt_of_cell? _ _ (hHeld.1))).trans (hHeld.1)
    have HS1_ := (hb.cell (World.block_lt_of_cell? _ _ (hHeld.2.1))).trans (hHeld.2.1)
    have HS2_ := (hb.cell (World.block_lt_of_cell? _ _ (hHeld.2.2.1))).trans (hHeld.2.2.1)
    have HS3_ := (hb.cell (World.block_lt_of_cell? _ _ (hHeld.2.2.2.1))).trans (hHeld.2.2.2.1)
    have HS4_ := (hb.cell (World.block_lt_of_cell? _ _ (hHeld.2.2.2.2.1))).trans (hHeld.2.2.2.2.1)
    have HS5_ := (hb.cell (World.block_lt_of_cell? _ _ (hHeld.2.2.2.2.2.1))).trans (hHeld.2.2.2.2.2.1)
    have HS6_ := (hb.cell (World.block_lt_of_cell? _ _ (hHeld.2.2.2.2.2.2.1))).trans (hHeld.2.2.2.2.2.2.1)
    have HS7_ := (hb.cell (World.block_lt_of_cell? _ _ (hHeld.2.2.2.2.2.2.2.1))).trans (hHeld.2.2.2.2.2.2.2.1)
    have HS8_ := (hb.cell (World.block_lt_of_cell? _ _ (hHeld.2.2.2.2.2.2.2.2.1))).trans (hHeld.2.2.2.2.2.2.2.2.1)
    have HS9_ := (hb.cell (World.block_lt_of_cell? _ _ (hHeld.2.2.2.2.2.2.2.2.2.1))).trans (hHeld.2.2.2.2.2.2.2.2.2.1)
    have HS10_ := (hb.cell (World.block_lt_of_cell? _ _ (hHeld.2.2.2.2.2.2.2.2.2.2.1))).trans (hHeld.2.2.2.2.2.2.2.2.2.2.1)
    have HS11_ := (hb.cell (World.block_lt_of_cell? _ _ (hHeld.2.2.2.2.2.2.2.2.2.2.2))).trans (hHeld.2.2.2.2.2.2.2.2.2.2.2)
    have n0_ := Aside0.mk (Kd.N_below (Kd.N_elderB (by (with_reducible repeat (first | apply Kd.N_alloc | apply Kd.N_drewN | apply Kd.N_drew)); exact HO717.out) gb728 (Nat.le_of_eq hg.symm)) hb)
    have n1_ := Aside0.mk (Kd.N_below (Kd.N_elderB (by (with_reducible repeat (first | apply Kd.N_alloc | apply Kd.N_drewN | apply Kd.N_drew)); exact HO720.out) gb728 (Nat.le_of_eq hg.symm)) hb)
    have n2_ := Aside0.mk (Kd.V_below (Kd.V_elderB (by (with_reducible repeat (first | apply Kd.V_alloc | apply Kd.V_drewN | apply Kd.V_drew)); exact HL725_2.out) gb728 (Nat.le_of_eq hg.symm)) hb)
    have n3_ := Aside0.mk (Kd.V_below (Kd.V_elderB (by (with_reducible repeat (first | apply Kd.V_alloc | apply Kd.V_drewN | apply Kd.V_drew)); exact HL725_5.out) gb728 (Nat.le_of_eq hg.symm)) hb)
    have n4_ := Aside0.mk (Kd.V_below (Kd.V_elderB (by (with_reducible repeat (first | apply Kd.V_alloc | apply Kd.V_drewN | apply Kd.V_drew)); exact HL726_2.out) gb728 (Nat.le_of_eq hg.symm)) hb)
    have n5_ := Aside0.mk (Kd.V_below (Kd.V_elderB (by (with_reducible repeat (first | apply Kd.V_alloc | apply Kd.V_drewN | apply Kd.V_drew)); exact HL726_5.out) gb728 (Nat.le_of_eq hg.symm)) hb)
    have n6_ := Aside0.mk (Kd.C_below (by repeat (first | (with_reducible exact HR725_2.out) | (with_reducible refine Kd.C_alloc ?_ _) | (with_reducible refine Kd.C_drewN ?_ _) | (with_reducible refine Kd.C_drew ?_) | exact HR725_2.out)) hb)
    have n7_ := Aside0.mk (Kd.C_below (by repeat (first | (with_reducible exact HR725_5.out) | (with_reducible refine Kd.C_alloc ?_ _) | (with_reducible refine Kd.C_drewN ?_ _) | (with_reducible refine Kd.C_drew ?_) | exact HR725_5.out)) hb)
    have n8_ := Aside0.mk (Kd.C_below (by repeat (first | (with_reducible exact HR726_2.out) | (with_reducible refine Kd.C_alloc ?_ _) | (with_reducible refine Kd.C_drewN ?_ _) | (with_reducible refine Kd.C_drew ?_) | exact HR726_2.out)) hb)
    have n9_ := Aside0.mk (Kd.C_below (by repeat (first | (with_reducible exact HR726_5.out) | (with_reducible refine Kd.C_alloc ?_ _) | (with_reducible refine Kd.C_drewN ?_ _) | (with_reducible refine Kd.C_drew ?_) | exact HR726_5.out)) hb)
    have n10_ := Aside0.mk (blk_below (g := gb727) (o := .cells #[.int .u32 0, .int .i64 0, .slice none 0 0, .int .i64 0, .int .i64 0, .slice none 0 0] 31 (0, 0)) (zK BK727) hb)
    have n11_ := Aside0.mk (below_step zB hb)
    have n12_ := Aside0.mk (hbox)
    have n13_ := Aside0.mk ((zG hg : w.heap.size ≤ gb728))
    have n14_ := Aside0.mk ((zG hg : w.heap.size ≤ gb728))
    have n15_ := Aside0.mk ((by rw [hg]; exact Nat.ne_of_lt (blk_lt (g := gb727) (o := .cells #[.int .u32 0, .int .i64 0, .slice none 0 0, .int .i64 0, .int .i64 0, .slice none 0 0] 31 (0, 0)) (zK BK727)) : gb727 ≠ gb728))
    have n16_ := Aside0.mk ((by rw [hg]; exact Nat.ne_of_gt (blk_lt (g := gb727) (o := .cells #[.int .u32 0, .int .i64 0, .slice none 0 0, .int .i64 0, .int .i64 0, .slice none 0 0] 31 (0, 0)) (zK BK727)) : gb728 ≠ gb727))
    clear HO717
    clear HO720
    clear HL725_2
    clear HL725_5
    clear HL726_2
    clear HL726_5
    clear HR725_2
    clear HR725_5
    clear HR726_2
    clear HR726_5
    clear BK727
    clear HB
    have HO717 := n0_
    have HO720 := n1_
    have HL725_2 := n2_
    have HL725_5 := n3_
    have HL726_2 := n4_
    have HL726_5 := n5_
    have HR725_2 := n6_
    have HR725_5 := n7_
    have HR726_2 := n8_
    have HR726_5 := n9_
    have BK727 := n10_
    have HB := n11_
    have BK728 := n12_
    have GW728 := n13_
    have GE728 := n14_
    have NB727_728 := n15_
    have NB728_727 := n16_
    clear n0_ n1_ n2_ n3_ n4_ n5_ n6_ n7_ n8_ n9_ n10_ n11_ n12_ n13_ n14_ n15_ n16_
    clear hb hbox hg
    refine hK.out _ _ ⟨HS0_, HS1_, HS2_, HS3_, HS4_, HS5_, HS6_, HS7_, HS8_, HS9_, HS10_, HS11_⟩ (fun hHeld => ?_)
    clear hK K
    refine norm_ (a' := ?_) ?_ ?_
    rotate_left
    · show Act.put _ (some 11) _ = _; simp only [Act.put, sA, s0, sS, i64_w, i32_w]; rfl
    exact norm_ (by simp only [putAll, Act.put, List.setIfInBounds_toArray, List.set_cons_zero, List.set_cons_succ]) (hCont (gb727, gb728) _ ⟨hHeld, (by (with_reducible repeat (first | apply Kd.V_alloc | apply Kd.V_drewN | apply Kd.V_drew)); exact Kd.V_mono HL725_2.out (fun _ hk => ⟨hk.1.1.2, ⟨hk.1.1.1.2, ⟨hk.1.2, hk.2⟩⟩⟩)), (by (with_reducible repeat (first | apply Kd.V_alloc | apply Kd.V_drewN | apply Kd.V_drew)); exact Kd.V_mono HL725_5.out (fun _ hk => ⟨hk.1.1.2, ⟨hk.1.1.1.2, ⟨hk.1.2, hk.2⟩⟩⟩)), (by (with_reducible repeat (first | apply Kd.V_alloc | apply Kd.V_drewN | apply Kd.V_drew)); exact Kd.V_mono HL726_2.out (fun _ hk => ⟨hk.1.1.2, ⟨hk.1.2, hk.2⟩⟩)), (by (with_reducible repeat (first | apply Kd.V_alloc | apply Kd.V_drewN | apply Kd.V_drew)); exact Kd.V_mono HL726_5.out (fun _ hk => ⟨hk.1.1.2, ⟨hk.1.2, hk.2⟩⟩)), (by (with_reducible repeat (first | apply Kd.N_alloc | apply Kd.N_drewN | apply Kd.N_drew)); exact Kd.N_mono HO717.out (fun _ hk => ⟨hk.1.1.2, ⟨hk.1.2, hk.2⟩⟩)), (by (with_reducible repeat (first | apply Kd.N_alloc | apply Kd.N_drewN | apply Kd.N_drew)); exact Kd.N_mono HO720.out (fun _ hk => ⟨hk.1.2, hk.2⟩)), (zK BK727), (zK BK728), GW727.out, GE727.out, NB728_727.out, NB727_728.out, GW728.out, GE728.out, zB⟩)
   ·
    skip
    refine box_step ?hg (N := 11) ?hd (cs := #[.int .u32 0, .int .i64 0, .slice none 0 0, .int .i64 0, .int .i64 0, .slice none 0 0]) (t := 31) ?hr ?_; (case hd => rfl); (case hg => rfl); (case hr => first | (go_simp; done) | (go_simp; rfl))
    intro gb728 hg w114 hbox hb
    have HS0_ := (hb.cell (World.block_lt_of_cell? _ _ (hHeld.1))).trans (hHeld.1)
    have HS1_ := (hb.cell (World.block_lt_of_cell? _ _ (hHeld.2.1))).trans (hHeld.2.1)
    have HS2_ := (hb.cell (World.block_lt_of_cell? _ _ (hHeld.2.2.1))).trans (hHeld.2.2.1)
    have HS3_ := (hb.cell (World.block_lt_of_cell? _ _ (hHeld.2.2.2.1))).trans (hHeld.2.2.2.1)
    have HS4_ := (hb.cell (World.block_lt_of_cell? _ _ (hHeld.2.2.2.2.1))).trans (hHeld.2.2.2.2.1)
    have HS5_ := (hb.cell (World.block_lt_of_cell? _ _ (hHeld.2.2.2.2.2.1))).trans (hHeld.2.2.2.2.2.1)
    have HS6_ := (hb.cell (World.block_lt_of_cell? _ _ (hHeld.2.2.2.2.2.2.1))).trans (hHeld.2.2.2.2.2.2.1)
    have HS7_ := (hb.cell (World.block_lt_of_cell? _ _ (hHeld.2.2.2.2.2.2.2.1))).trans (hHeld.2.2.2.2.2.2.2.1)
    have HS8_ := (hb.cell (World.block_lt_of_cell? _ _ (hHeld.2.2.2.2.2.2.2.2.1))).trans (hHeld.2.2.2.2.2.2.2.2.1)
    have HS9_ := (hb.cell (World.block_lt_of_cell? _ _ (hHeld.2.2.2.2.2.2.2.2.2.1))).trans (hHeld.2.2.2.2.2.2.2.2.2.1)
    have HS10_ := (hb.cell (World.block_lt_of_cell? _ _ (hHeld.2.2.2.2.2.2.2.2.2.2.1))).trans (hHeld.2.2.2.2.2.2.2.2.2.2.1)
    have HS11_ := (hb.cell (World.block_lt_of_cell? _ _ (hHeld.2.2.2.2.2.2.2.2.2.2.2))).trans (hHeld.2.2.2.2.2.2.2.2.2.2.2)
    have n0_ := Aside0.mk (Kd.N_below (Kd.N_elderB (by (with_reducible repeat (first | apply Kd.N_alloc | apply Kd.N_drewN | apply Kd.N_drew)); exact HO717.out) gb728 (Nat.le_of_eq hg.symm)) hb)
    have n1_ := Aside0.mk (Kd.N_below (Kd.N_elderB (by (with_reducible repeat (first | apply Kd.N_alloc | apply Kd.N_drewN | apply Kd.N_drew)); exact HO720.out) gb728 (Nat.le_of_eq hg.symm)) hb)
    have n2_ := Aside0.mk (Kd.V_below (Kd.V_elderB (by (with_reducible repeat (first | apply Kd.V_alloc | apply Kd.V_drewN | apply Kd.V_drew)); exact HL725_2.out) gb728 (Nat.le_of_eq hg.symm)) hb)
    have n3_ := Aside0.mk (Kd.V_below (Kd.V_elderB (by (with_reducible repeat (first | apply Kd.V_alloc | apply Kd.V_drewN | apply Kd.V_drew)); exact HL725_5.out) gb728 (Nat.le_of_eq hg.symm)) hb)
    have n4_ := Aside0.mk (Kd.V_below (Kd.V_elderB (by (with_reducible repeat (first | apply Kd.V_alloc | apply Kd.V_drewN | apply Kd.V_drew)); exact HL726_2.out) gb728 (Nat.le_of_eq hg.symm)) hb)
    have n5_ := Aside0.mk (Kd.V_below (Kd.V_elderB (by (with_reducible repeat (first | apply Kd.V_alloc | apply Kd.V_drewN | apply Kd.V_drew)); exact HL726_5.out) gb728 (Nat.le_of_eq hg.symm)) hb)
    have n6_ := Aside0.mk (Kd.C_below (by repeat (first | (with_reducible exact HR725_2.out) | (with_reducible refine Kd.C_alloc ?_ _) | (with_reducible refine Kd.C_drewN ?_ _) | (with_reducible refine Kd.C_drew ?_) | exact HR725_2.out)) hb)
    have n7_ := Aside0.mk (Kd.C_below (by repeat (first | (with_reducible exact HR725_5.out) | (with_reducible refine Kd.C_alloc ?_ _) | (with_reducible refine Kd.C_drewN ?_ _) | (with_reducible refine Kd.C_drew ?_) | exact HR725_5.out)) hb)
    have n8_ := Aside0.mk (Kd.C_below (by repeat (first | (with_reducible exact HR726_2.out) | (with_reducible refine Kd.C_alloc ?_ _) | (with_reducible refine Kd.C_drewN ?_ _) | (with_reducible refine Kd.C_drew ?_) | exact HR726_2.out)) hb)
    have n9_ := Aside0.mk (Kd.C_below (by repeat (first | (with_reducible exact HR726_5.out) | (with_reducible refine Kd.C_alloc ?_ _) | (with_reducible refine Kd.C_drewN ?_ _) | (with_reducible refine Kd.C_drew ?_) | exact HR726_5.out)) hb)
    have n10_ := Aside0.mk (below_step zB hb)
    have n11_ := Aside0.mk (hbox)
    have n12_ := Aside0.mk ((zG hg : w.heap.size ≤ gb728))
    have n13_ := Aside0.mk ((zG hg : w.heap.size ≤ gb728))
    clear HO717
    clear HO720
    clear HL725_2
    clear HL725_5
    clear HL726_2
    clear HL726_5
    clear HR725_2
    clear HR725_5
    clear HR726_2
    clear HR726_5
    clear HB
    have HO717 := n0_
    have HO720 := n1_
    have HL725_2 := n2_
    have HL725_5 := n3_
    have HL726_2 := n4_
    have HL726_5 := n5_
    have HR725_2 := n6_
    have HR725_5 := n7_
    have HR726_2 := n8_
    have HR726_5 := n9_
    have HB := n10_
    have BK728 := n11_
    have GW728 := n12_
    have GE728 := n13_
    clear n0_ n1_ n2_ n3_ n4_ n5_ n6_ n7_ n8_ n9_ n10_ n11_ n12_ n13_
    clear hb hbox hg
    refine hK.out _ _ ⟨HS0_, HS1_, HS2_, HS3_, HS4_, HS5_, HS6_, HS7_, HS8_, HS9_, HS10_, HS11_⟩ (fun hHeld => ?_)
    clear hK K
    refine norm_ (a' := ?_) ?_ ?_
    rotate_left
    · show Act.put _ (some 11) _ = _; simp only [Act.put, sA, s0, sS, i64_w, i32_w]; rfl
    refine one_ (i := 8) (N := some 10) (bm 12 1023) rfl rfl (one_of HT_.out (by kernel_rfl)) (by decide) (fun K hK => ?_)
    refine box_step ?hg (N := 10) ?hd (cs := #[.int .u32 0, .int .i64 0, .slice none 0 0, .int .i64 0, .int .i64 0, .slice none 0 0]) (t := 31) ?hr ?_; (case hd => rfl); (case hg => rfl); (case hr => first | (go_simp; done) | (go_simp; rfl))
    intro gb727 hg w115 hbox hb
    have HS0_ := (hb.cell (World.block_lt_of_cell? _ _ (hHeld.1))).trans (hHeld.1)
    have HS1_ := (hb.cell (World.block_lt_of_cell? _ _ (hHeld.2.1))).trans (hHeld.2.1)
    have HS2_ := (hb.cell (World.block_lt_of_cell? _ _ (hHeld.2.2.1))).trans (hHeld.2.2.1)
    have HS3_ := (hb.cell (World.block_lt_of_cell? _ _ (hHeld.2.2.2.1))).trans (hHeld.2.2.2.1)
    have HS4_ := (hb.cell (World.block_lt_of_cell? _ _ (hHeld.2.2.2.2.1))).trans (hHeld.2.2.2.2.1)
    have HS5_ := (hb.cell (World.block_lt_of_cell? _ _ (hHeld.2.2.2.2.2.1))).trans (hHeld.2.2.2.2.2.1)
    have HS6_ := (hb.cell (World.block_lt_of_cell? _ _ (hHeld.2.2.2.2.2.2.1))).trans (hHeld.2.2.2.2.2.2.1)
    have HS7_ := (hb.cell (World.block_lt_of_cell? _ _ (hHeld.2.2.2.2.2.2.2.1))).trans (hHeld.2.2.2.2.2.2.2.1)
    have HS8_ := (hb.cell (World.block_lt_of_cell? _ _ (hHeld.2.2.2.2.2.2.2.2.1))).trans (hHeld.2.2.2.2.2.2.2.2.1)
    have HS9_ := (hb.cell (World.block_lt_of_cell? _ _ (hHeld.2.2.2.2.2.2.2.2.2.1))).trans (hHeld.2.2.2.2.2.2.2.2.2.1)
    have HS10_ := (hb.cell (World.block_lt_of_cell? _ _ (hHeld.2.2.2.2.2.2.2.2.2.2.1))).trans (hHeld.2.2.2.2.2.2.2.2.2.2.1)
    have HS11_ := (hb.cell (World.block_lt_of_cell? _ _ (hHeld.2.2.2.2.2.2.2.2.2.2.2))).trans (hHeld.2.2.2.2.2.2.2.2.2.2.2)
    have n0_ := Aside0.mk (Kd.N_below (Kd.N_elderB (by (with_reducible repeat (first | apply Kd.N_alloc | apply Kd.N_drewN | apply Kd.N_drew)); exact HO717.out) gb727 (Nat.le_of_eq hg.symm)) hb)
    have n1_ := Aside0.mk (Kd.N_below (Kd.N_elderB (by (with_reducible repeat (first | apply Kd.N_alloc | apply Kd.N_drewN | apply Kd.N_drew)); exact HO720.out) gb727 (Nat.le_of_eq hg.symm)) hb)
    have n2_ := Aside0.mk (Kd.V_below (Kd.V_elderB (by (with_reducible repeat (first | apply Kd.V_alloc | apply Kd.V_drewN | apply Kd.V_drew)); exact HL725_2.out) gb727 (Nat.le_of_eq hg.symm)) hb)
    have n3_ := Aside0.mk (Kd.V_below (Kd.V_elderB (by (with_reducible repeat (first | apply Kd.V_alloc | apply Kd.V_drewN | apply Kd.V_drew)); exact HL725_5.out) gb727 (Nat.le_of_eq hg.symm)) hb)
    have n4_ := Aside0.mk (Kd.V_below (Kd.V_elderB (by (with_reducible repeat (first | apply Kd.V_alloc | apply Kd.V_drewN | apply Kd.V_drew)); exact HL726_2.out) gb727 (Nat.le_of_eq hg.symm)) hb)
    have n5_ := Aside0.mk (Kd.V_below (Kd.V_elderB (by (with_reducible repeat (first | apply Kd.V_alloc | apply Kd.V_drewN | apply Kd.V_drew)); exact HL726_5.out) gb727 (Nat.le_of_eq hg.symm)) hb)
    have n6_ := Aside0.mk (Kd.C_below (by repeat (first | (with_reducible exact HR725_2.out) | (with_reducible refine Kd.C_alloc ?_ _) | (with_reducible refine Kd.C_drewN ?_ _) | (with_reducible refine Kd.C_drew ?_) | exact HR725_2.out)) hb)
    have n7_ := Aside0.mk (Kd.C_below (by repeat (first | (with_reducible exact HR725_5.out) | (with_reducible refine Kd.C_alloc ?_ _) | (with_reducible refine Kd.C_drewN ?_ _) | (with_reducible refine Kd.C_drew ?_) | exact HR725_5.out)) hb)
    have n8_ := Aside0.mk (Kd.C_below (by repeat (first | (with_reducible exact HR726_2.out) | (with_reducible refine Kd.C_alloc ?_ _) | (with_reducible refine Kd.C_drewN ?_ _) | (with_reducible refine Kd.C_drew ?_) | exact HR726_2.out)) hb)
    have n9_ := Aside0.mk (Kd.C_below (by repeat (first | (with_reducible exact HR726_5.out) | (with_reducible refine Kd.C_alloc ?_ _) | (with_reducible refine Kd.C_drewN ?_ _) | (with_reducible refine Kd.C_drew ?_) | exact HR726_5.out)) hb)
    have n10_ := Aside0.mk (blk_below (g := gb728) (o := .cells #[.int .u32 0, .int .i64 0, .slice none 0 0, .int .i64 0, .int .i64 0, .slice none 0 0] 31 (0, 0)) (zK BK728) hb)
    have n11_ := Aside0.mk (below_step zB hb)
    have n12_ := Aside0.mk (hbox)
    have n13_ := Aside0.mk ((zG hg : w.heap.size ≤ gb727))
    have n14_ := Aside0.mk ((zG hg : w.heap.size ≤ gb727))
    have n15_ := Aside0.mk ((by rw [hg]; exact Nat.ne_of_lt (blk_lt (g := gb728) (o := .cells #[.int .u32 0, .int .i64 0, .slice none 0 0, .int .i64 0, .int .i64 0, .slice none 0 0] 31 (0, 0)) (zK BK728)) : gb728 ≠ gb727))
    have n16_ := Aside0.mk ((by rw [hg]; exact Nat.ne_of_gt (blk_lt (g := gb728) (o := .cells #[.int .u32 0, .int .i64 0, .slice none 0 0, .int .i64 0, .int .i64 0, .slice none 0 0] 31 (0, 0)) (zK BK728)) : gb727 ≠ gb728))
    clear HO717
    clear HO720
    clear HL725_2
    clear HL725_5
    clear HL726_2
    clear HL726_5
    clear HR725_2
    clear HR725_5
    clear HR726_2
    clear HR726_5
    clear BK728
    clear HB
    have HO717 := n0_
    have HO720 := n1_
    have HL725_2 := n2_
    have HL725_5 := n3_
    have HL726_2 := n4_
    have HL726_5 := n5_
    have HR725_2 := n6_
    have HR725_5 := n7_
    have HR726_2 := n8_
    have HR726_5 := n9_
    have BK728 := n10_
    have HB := n11_
    have BK727 := n12_
    have GW727 := n13_
    have GE727 := n14_
    have NB728_727 := n15_
    have NB727_728 := n16_
    clear n0_ n1_ n2_ n3_ n4_ n5_ n6_ n7_ n8_ n9_ n10_ n11_ n12_ n13_ n14_ n15_ n16_
    clear hb hbox hg
    refine hK.out _ _ ⟨HS0_, HS1_, HS2_, HS3_, HS4_, HS5_, HS6_, HS7_, HS8_, HS9_, HS10_, HS11_⟩ (fun hHeld => ?_)
    clear hK K
    refine norm_ (a' := ?_) ?_ ?_
    rotate_left
    · show Act.put _ (some 10) _ = _; simp only [Act.put, sA, s0, sS, i64_w, i32_w]; rfl
    exact norm_ (by simp only [putAll, Act.put, List.setIfInBounds_toArray, List.set_cons_zero, List.set_cons_succ]) (hCont (gb727, gb728) _ ⟨hHeld, (by (with_reducible repeat (first | apply Kd.V_alloc | apply Kd.V_drewN | apply Kd.V_drew)); exact Kd.V_mono HL725_2.out (fun _ hk => ⟨hk.1.1.2, ⟨hk.1.1.1.2, ⟨hk.2, hk.1.2⟩⟩⟩)), (by (with_reducible repeat (first | apply Kd.V_alloc | apply Kd.V_drewN | apply Kd.V_drew)); exact Kd.V_mono HL725_5.out (fun _ hk => ⟨hk.1.1.2, ⟨hk.1.1.1.2, ⟨hk.2, hk.1.2⟩⟩⟩)), (by (with_reducible repeat (first | apply Kd.V_alloc | apply Kd.V_drewN | apply Kd.V_drew)); exact Kd.V_mono HL726_2.out (fun _ hk => ⟨hk.1.1.2, ⟨hk.2, hk.1.2⟩⟩)), (by (with_reducible repeat (first | apply Kd.V_alloc | apply Kd.V_drewN | apply Kd.V_drew)); exact Kd.V_mono HL726_5.out (fun _ hk => ⟨hk.1.1.2, ⟨hk.2, hk.1.2⟩⟩)), (by (with_reducible repeat (first | apply Kd.N_alloc | apply Kd.N_drewN | apply Kd.N_drew)); exact Kd.N_mono HO717.out (fun _ hk => ⟨hk.1.1.2, ⟨hk.2, hk.1.2⟩⟩)), (by (with_reducible repeat (first | apply Kd.N_alloc | apply Kd.N_drewN | apply Kd.N_drew)); exact Kd.N_mono HO720.out (fun _ hk => ⟨hk.2, hk.1.2⟩)), (zK BK727), (zK BK728), GW727.out, GE727.out, NB728_727.out, NB727_728.out, GW728.out, GE728.out, zB⟩)
  rintro ⟨gb727, gb728⟩ w116 ⟨hS_, h0_, h1_, h2_, h3_, h4_, h5_, h6_, h7_, h8_, h9_, h10_, h11_, h12_, h13_, h14_⟩
  have n0_ : Aside0 (Kd.V (Kd.int .i64) 3 w116 w.heap.size (fun k_ => some k_ ≠ (.slice (some ad725) t715.length co108 : Value).ownBlock ∧ some k_ ≠ (.slice (some ad726) t718.length co111 : Value).ownBlock ∧ k_ ≠ gb727 ∧ k_ ≠ gb728) (.slice A725_2 ((rd_T31 t715 t721).f1).length c725_2) ((rd_T31 t715 t721).f1)) := ⟨h0_⟩
  have n1_ : Aside0 (Kd.V (Kd.int .i64) 3 w116 w.heap.size (fun k_ => some k_ ≠ (.slice (some ad725) t715.length co108 : Value).ownBlock ∧ some k_ ≠ (.slice (some ad726) t718.length co111 : Value).ownBlock ∧ k_ ≠ gb727 ∧ k_ ≠ gb728) (.slice A725_5 ((rd_T31 t715 t721).f4).length c725_5) ((rd_T31 t715 t721).f4)) := ⟨h1_⟩
  have n2_ : Aside0 (Kd.V (Kd.int .i64) 3 w116 w.heap.size (fun k_ => some k_ ≠ (.slice (some ad726) t718.length co111 : Value).ownBlock ∧ k_ ≠ gb727 ∧ k_ ≠ gb728) (.slice A726_2 ((rd_T31 t718 t723).f1).length c726_2) ((rd_T31 t718 t723).f1)) := ⟨h2_⟩
  have n3_ : Aside0 (Kd.V (Kd.int .i64) 3 w116 w.heap.size (fun k_ => some k_ ≠ (.slice (some ad726) t718.length co111 : Value).ownBlock ∧ k_ ≠ gb727 ∧ k_ ≠ gb728) (.slice A726_5 ((rd_T31 t718 t723).f4).length c726_5) ((rd_T31 t718 t723).f4)) := ⟨h3_⟩
  have n4_ : Aside0 (Kd.N k31 31 w116 w.heap.size (fun k_ => some k_ ≠ (.slice (some ad726) t718.length co111 : Value).ownBlock ∧ k_ ≠ gb727 ∧ k_ ≠ gb728) (.slice (some ad725) t715.length co108) t715) := ⟨h4_⟩
  have n5_ : Aside0 (Kd.N k31 31 w116 w.heap.size (fun k_ => k_ ≠ gb727 ∧ k_ ≠ gb728) (.slice (some ad726) t718.length co111) t718) := ⟨h5_⟩
  have n6_ : Aside0 (w116.heap[gb727]? = some (.cells #[.int .u32 0, .int .i64 0, .slice none 0 0, .int .i64 0, .int .i64 0, .slice none 0 0] 31 (0, 0))) := ⟨h6_⟩
  have n7_ : Aside0 (w116.heap[gb728]? = some (.cells #[.int .u32 0, .int .i64 0, .slice none 0 0, .int .i64 0, .int .i64 0, .slice none 0 0] 31 (0, 0))) := ⟨h7_⟩
  have n8_ : Aside0 (w.heap.size ≤ gb727) := ⟨h8_⟩
  have n9_ : Aside0 (w.heap.size ≤ gb727) := ⟨h9_⟩
  have n10_ : Aside0 (gb728 ≠ gb727) := ⟨h10_⟩
  have n11_ : Aside0 (gb727 ≠ gb728) := ⟨h11_⟩
  have n12_ : Aside0 (w.heap.size ≤ gb728) := ⟨h12_⟩
  have n13_ : Aside0 (w.heap.size ≤ gb728) := ⟨h13_⟩
  have n14_ : Aside0 (Below w.heap.size w w116) := ⟨h14_⟩
  clear HO717
  clear HO720
  clear HB
  clear h0_ h1_ h2_ h3_ h4_ h5_ h6_ h7_ h8_ h9_ h10_ h11_ h12_ h13_ h14_
  have HL725_2 := n0_
  have HL725_5 := n1_
  have HL726_2 := n2_
  have HL726_5 := n3_
  have HO717 := n4_
  have HO720 := n5_
  have BK727 := n6_
  have BK728 := n7_
  have GW727 := n8_
  have GE727 := n9_
  have NB728_727 := n10_
  have NB727_728 := n11_
  have GW728 := n12_
  have GE728 := n13_
  have HB := n14_
  clear n0_ n1_ n2_ n3_ n4_ n5_ n6_ n7_ n8_ n9_ n10_ n11_ n12_ n13_ n14_
  have hHeld : w116.cell? (ad725.add ((t721).toNat * 6)) = some (.int .u32 ((rd_T31 t715 t721).f0.f0)) ∧ w116.cell? ⟨(ad725.add ((t721).toNat * 6)).block, (ad725.add ((t721).toNat * 6)).off + 1, none⟩ = some (.int .i64 ((rd_T31 t715 t721).f0.f1)) ∧ w116.cell? ⟨(ad725.add ((t721).toNat * 6)).block, (ad725.add ((t721).toNat * 6)).off + 2, none⟩ = some (.slice A725_2 ((rd_T31 t715 t721).f1).length c725_2) ∧ w116.cell? ⟨(ad725.add ((t721).toNat * 6)).block, (ad725.add ((t721).toNat * 6)).off + 3, none⟩ = some (.int .i64 ((rd_T31 t715 t721).f2)) ∧ w116.cell? ⟨(ad725.add ((t721).toNat * 6)).block, (ad725.add ((t721).toNat * 6)).off + 4, none⟩ = some (.int .i64 ((rd_T31 t715 t721).f3)) ∧ w116.cell? ⟨(ad725.add ((t721).toNat * 6)).block, (ad725.add ((t721).toNat * 6)).off + 5, none⟩ = some (.slice A725_5 ((rd_T31 t715 t721).f4).length c725_5) ∧ w116.cell? (ad726.add ((t723).toNat * 6)) = some (.int .u32 ((rd_T31 t718 t723).f0.f0)) ∧ w116.cell? ⟨(ad726.add ((t723).toNat * 6)).block, (ad726.add ((t723).toNat * 6)).off + 1, none⟩ = some (.int .i64 ((rd_T31 t718 t723).f0.f1)) ∧ w116.cell? ⟨(ad726.add ((t723).toNat * 6)).block, (ad726.add ((t723).toNat * 6)).off + 2, none⟩ = some (.slice A726_2 ((rd_T31 t718 t723).f1).length c726_2) ∧ w116.cell? ⟨(ad726.add ((t723).toNat * 6)).block, (ad726.add ((t723).toNat * 6)).off + 3, none⟩ = some (.int .i64 ((rd_T31 t718 t723).f2)) ∧ w116.cell? ⟨(ad726.add ((t723).toNat * 6)).block, (ad726.add ((t723).toNat * 6)).off + 4, none⟩ = some (.int .i64 ((rd_T31 t718 t723).f3)) ∧ w116.cell? ⟨(ad726.add ((t723).toNat * 6)).block, (ad726.add ((t723).toNat * 6)).off + 5, none⟩ = some (.slice A726_5 ((rd_T31 t718 t723).f4).length c726_5) := hS_
  refine norm_ (a' := ?_) ?_ ?_
  rotate_left
  · simp only [putAll, Act.put, List.setIfInBounds_toArray, List.set_cons_zero, List.set_cons_succ]; rfl
  refine one_ (i := 10) (N := none) (bm 12 2047) rfl rfl (one_of HT_.out (by kernel_rfl)) (by decide) (fun K hK => ?_)
  have hs117 : w116.cell? ⟨gb727, 0, none⟩ = some (.int .u32 0) := zT BK727 0
  have hfs117 := blk_frozen BK727.out 0
  have hns117_1 := NB728_727.out
  have hms117_1 := NB727_728.out
  have hs118 : w116.cell? ⟨gb727, 1, none⟩ = some (.int .i64 0) := zT BK727 1
  have hfs118 := blk_frozen BK727.out 1
  have hns118_1 := NB728_727.out
  have hms118_1 := NB727_728.out
  have hs119 : w116.cell? ⟨gb727, 2, none⟩ = some (.slice none 0 0) := zT BK727 2
  have hfs119 := blk_frozen BK727.out 2
  have hns119_1 := NB728_727.out
  have hms119_1 := NB727_728.out
  have hs120 : w116.cell? ⟨gb727, 3, none⟩ = some (.int .i64 0) := zT BK727 3
  have hfs120 := blk_frozen BK727.out 3
  have hns120_1 := NB728_727.out
  have hms120_1 := NB727_728.out
  have hs121 : w116.cell? ⟨gb727, 4, none⟩ = some (.int .i64 0) := zT BK727 4
  have hfs121 := blk_frozen BK727.out 4
  have hns121_1 := NB728_727.out
  have hms121_1 := NB727_728.out
  have hs122 : w116.cell? ⟨gb727, 5, none⟩ = some (.slice none 0 0) := zT BK727 5
  have hfs122 := blk_frozen BK727.out 5
  have hns122_1 := NB728_727.out
  have hms122_1 := NB727_728.out
  refine skip_ (w1 := ?_) (by rfl) rfl ?_ ?_
  rotate_left
  · go_simp; rfl
  refine hK.out _ _ ⟨(by (iterate 6 refine (cell_far (p := ⟨gb727, _, none⟩) (by first | exact Kd.own_blk (Kd.N_away HO717.out (fun _ hk => hk.2.1)) | (rw [add_block]; exact Kd.own_blk (Kd.N_away HO717.out (fun _ hk => hk.2.1))) | (show (Addr.add _ _).block ≠ _; rw [add_block]; exact Kd.own_blk (Kd.N_away HO717.out (fun _ hk => hk.2.1))) | (dsimp only; exact Kd.own_blk (Kd.N_away HO717.out (fun _ hk => hk.2.1)))) _).trans ?_); exact hHeld.1), (by (iterate 6 refine (cell_far (p := ⟨gb727, _, none⟩) (by first | exact Kd.own_blk (Kd.N_away HO717.out (fun _ hk => hk.2.1)) | (rw [add_block]; exact Kd.own_blk (Kd.N_away HO717.out (fun _ hk => hk.2.1))) | (show (Addr.add _ _).block ≠ _; rw [add_block]; exact Kd.own_blk (Kd.N_away HO717.out (fun _ hk => hk.2.1))) | (dsimp only; exact Kd.own_blk (Kd.N_away HO717.out (fun _ hk => hk.2.1)))) _).trans ?_); exact hHeld.2.1), (by (iterate 6 refine (cell_far (p := ⟨gb727, _, none⟩) (by first | exact Kd.own_blk (Kd.N_away HO717.out (fun _ hk => hk.2.1)) | (rw [add_block]; exact Kd.own_blk (Kd.N_away HO717.out (fun _ hk => hk.2.1))) | (show (Addr.add _ _).block ≠ _; rw [add_block]; exact Kd.own_blk (Kd.N_away HO717.out (fun _ hk => hk.2.1))) | (dsimp only; exact Kd.own_blk (Kd.N_away HO717.out (fun _ hk => hk.2.1)))) _).trans ?_); exact hHeld.2.2.1), (by (iterate 6 refine (cell_far (p := ⟨gb727, _, none⟩) (by first | exact Kd.own_blk (Kd.N_away HO717.out (fun _ hk => hk.2.1)) | (rw [add_block]; exact Kd.own_blk (Kd.N_away HO717.out (fun _ hk => hk.2.1))) | (show (Addr.add _ _).block ≠ _; rw [add_block]; exact Kd.own_blk (Kd.N_away HO717.out (fun _ hk => hk.2.1))) | (dsimp only; exact Kd.own_blk (Kd.N_away HO717.out (fun _ hk => hk.2.1)))) _).trans ?_); exact hHeld.2.2.2.1), (by (iterate 6 refine (cell_far (p := ⟨gb727, _, none⟩) (by first | exact Kd.own_blk (Kd.N_away HO717.out (fun _ hk => hk.2.1)) | (rw [add_block]; exact Kd.own_blk (Kd.N_away HO717.out (fun _ hk => hk.2.1))) | (show (Addr.add _ _).block ≠ _; rw [add_block]; exact Kd.own_blk (Kd.N_away HO717.out (fun _ hk => hk.2.1))) | (dsimp only; exact Kd.own_blk (Kd.N_away HO717.out (fun _ hk => hk.2.1)))) _).trans ?_); exact hHeld.2.2.2.2.1), (by (iterate 6 refine (cell_far (p := ⟨gb727, _, none⟩) (by first | exact Kd.own_blk (Kd.N_away HO717.out (fun _ hk => hk.2.1)) | (rw [add_block]; exact Kd.own_blk (Kd.N_away HO717.out (fun _ hk => hk.2.1))) | (show (Addr.add _ _).block ≠ _; rw [add_block]; exact Kd.own_blk (Kd.N_away HO717.out (fun _ hk => hk.2.1))) | (dsimp only; exact Kd.own_blk (Kd.N_away HO717.out (fun _ hk => hk.2.1)))) _).trans ?_); exact hHeld.2.2.2.2.2.1), (by (iterate 6 refine (cell_far (p := ⟨gb727, _, none⟩) (by first | exact Kd.own_blk (Kd.N_away HO720.out (fun _ hk => hk.1)) | (rw [add_block]; exact Kd.own_blk (Kd.N_away HO720.out (fun _ hk => hk.1))) | (show (Addr.add _ _).block ≠ _; rw [add_block]; exact Kd.own_blk (Kd.N_away HO720.out (fun _ hk => hk.1))) | (dsimp only; exact Kd.own_blk (Kd.N_away HO720.out (fun _ hk => hk.1)))) _).trans ?_); exact hHeld.2.2.2.2.2.2.1), (by (iterate 6 refine (cell_far (p := ⟨gb727, _, none⟩) (by first | exact Kd.own_blk (Kd.N_away HO720.out (fun _ hk => hk.1)) | (rw [add_block]; exact Kd.own_blk (Kd.N_away HO720.out (fun _ hk => hk.1))) | (show (Addr.add _ _).block ≠ _; rw [add_block]; exact Kd.own_blk (Kd.N_away HO720.out (fun _ hk => hk.1))) | (dsimp only; exact Kd.own_blk (Kd.N_away HO720.out (fun _ hk => hk.1)))) _).trans ?_); exact hHeld.2.2.2.2.2.2.2.1), (by (iterate 6 refine (cell_far (p := ⟨gb727, _, none⟩) (by first | exact Kd.own_blk (Kd.N_away HO720.out (fun _ hk => hk.1)) | (rw [add_block]; exact Kd.own_blk (Kd.N_away HO720.out (fun _ hk => hk.1))) | (show (Addr.add _ _).block ≠ _; rw [add_block]; exact Kd.own_blk (Kd.N_away HO720.out (fun _ hk => hk.1))) | (dsimp only; exact Kd.own_blk (Kd.N_away HO720.out (fun _ hk => hk.1)))) _).trans ?_); exact hHeld.2.2.2.2.2.2.2.2.1), (by (iterate 6 refine (cell_far (p := ⟨gb727, _, none⟩) (by first | exact Kd.own_blk (Kd.N_away HO720.out (fun _ hk => hk.1)) | (rw [add_block]; exact Kd.own_blk (Kd.N_away HO720.out (fun _ hk => hk.1))) | (show (Addr.add _ _).block ≠ _; rw [add_block]; exact Kd.own_blk (Kd.N_away HO720.out (fun _ hk => hk.1))) | (dsimp only; exact Kd.own_blk (Kd.N_away HO720.out (fun _ hk => hk.1)))) _).trans ?_); exact hHeld.2.2.2.2.2.2.2.2.2.1), (by (iterate 6 refine (cell_far (p := ⟨gb727, _, none⟩) (by first | exact Kd.own_blk (Kd.N_away HO720.out (fun _ hk => hk.1)) | (rw [add_block]; exact Kd.own_blk (Kd.N_away HO720.out (fun _ hk => hk.1))) | (show (Addr.add _ _).block ≠ _; rw [add_block]; exact Kd.own_blk (Kd.N_away HO720.out (fun _ hk => hk.1))) | (dsimp only; exact Kd.own_blk (Kd.N_away HO720.out (fun _ hk => hk.1)))) _).trans ?_); exact hHeld.2.2.2.2.2.2.2.2.2.2.1), (by (iterate 6 refine (cell_far (p := ⟨gb727, _, none⟩) (by first | exact Kd.own_blk (Kd.N_away HO720.out (fun _ hk => hk.1)) | (rw [add_block]; exact Kd.own_blk (Kd.N_away HO720.out (fun _ hk => hk.1))) | (show (Addr.add _ _).block ≠ _; rw [add_block]; exact Kd.own_blk (Kd.N_away HO720.out (fun _ hk => hk.1))) | (dsimp only; exact Kd.own_blk (Kd.N_away HO720.out (fun _ hk => hk.1)))) _).trans ?_); exact hHeld.2.2.2.2.2.2.2.2.2.2.2)⟩ (fun hHeld => ?_)
  clear hK K
  refine one_ (i := 11) (N := none) (bm 12 4095) rfl rfl (one_of HT_.out (by kernel_rfl)) (by decide) (fun K hK => ?_)
  have hs123 : w116.cell? ⟨gb728, 0, none⟩ = some (.int .u32 0) := zT BK728 0
  have hfs123 := blk_frozen BK728.out 0
  have hns123_0 := NB727_728.out
  have hms123_0 := NB728_727.out
  have hs124 : w116.cell? ⟨gb728, 1, none⟩ = some (.int .i64 0) := zT BK728 1
  have hfs124 := blk_frozen BK728.out 1
  have hns124_0 := NB727_728.out
  have hms124_0 := NB728_727.out
  have hs125 : w116.cell? ⟨gb728, 2, none⟩ = some (.slice none 0 0) := zT BK728 2
  have hfs125 := blk_frozen BK728.out 2
  have hns125_0 := NB727_728.out
  have hms125_0 := NB728_727.out
  have hs126 : w116.cell? ⟨gb728, 3, none⟩ = some (.int .i64 0) := zT BK728 3
  have hfs126 := blk_frozen BK728.out 3
  have hns126_0 := NB727_728.out
  have hms126_0 := NB728_727.out
  have hs127 : w116.cell? ⟨gb728, 4, none⟩ = some (.int .i64 0) := zT BK728 4
  have hfs127 := blk_frozen BK728.out 4
  have hns127_0 := NB727_728.out
  have hms127_0 := NB728_727.out
  have hs128 : w116.cell? ⟨gb728, 5, none⟩ = some (.slice none 0 0) := zT BK728 5
  have hfs128 := blk_frozen BK728.out 5
  have hns128_0 := NB727_728.out
  have hms128_0 := NB728_727.out
  refine skip_ (w1 := ?_) (by rfl) rfl ?_ ?_
  rotate_left
  · go_simp; rfl
  refine hK.out _ _ ⟨(by (iterate 6 refine (cell_far (p := ⟨gb728, _, none⟩) (by first | exact Kd.own_blk (Kd.N_away HO717.out (fun _ hk => hk.2.2)) | (rw [add_block]; exact Kd.own_blk (Kd.N_away HO717.out (fun _ hk => hk.2.2))) | (show (Addr.add _ _).block ≠ _; rw [add_block]; exact Kd.own_blk (Kd.N_away HO717.out (fun _ hk => hk.2.2))) | (dsimp only; exact Kd.own_blk (Kd.N_away HO717.out (fun _ hk => hk.2.2)))) _).trans ?_); exact hHeld.1), (by (iterate 6 refine (cell_far (p := ⟨gb728, _, none⟩) (by first | exact Kd.own_blk (Kd.N_away HO717.out (fun _ hk => hk.2.2)) | (rw [add_block]; exact Kd.own_blk (Kd.N_away HO717.out (fun _ hk => hk.2.2))) | (show (Addr.add _ _).block ≠ _; rw [add_block]; exact Kd.own_blk (Kd.N_away HO717.out (fun _ hk => hk.2.2))) | (dsimp only; exact Kd.own_blk (Kd.N_away HO717.out (fun _ hk => hk.2.2)))) _).trans ?_); exact hHeld.2.1), (by (iterate 6 refine (cell_far (p := ⟨gb728, _, none⟩) (by first | exact Kd.own_blk (Kd.N_away HO717.out (fun _ hk => hk.2.2)) | (rw [add_block]; exact Kd.own_blk (Kd.N_away HO717.out (fun _ hk => hk.2.2))) | (show (Addr.add _ _).block ≠ _; rw [add_block]; exact Kd.own_blk (Kd.N_away HO717.out (fun _ hk => hk.2.2))) | (dsimp only; exact Kd.own_blk (Kd.N_away HO717.out (fun _ hk => hk.2.2)))) _).trans ?_); exact hHeld.2.2.1), (by (iterate 6 refine (cell_far (p := ⟨gb728, _, none⟩) (by first | exact Kd.own_blk (Kd.N_away HO717.out (fun _ hk => hk.2.2)) | (rw [add_block]; exact Kd.own_blk (Kd.N_away HO717.out (fun _ hk => hk.2.2))) | (show (Addr.add _ _).block ≠ _; rw [add_block]; exact Kd.own_blk (Kd.N_away HO717.out (fun _ hk => hk.2.2))) | (dsimp only; exact Kd.own_blk (Kd.N_away HO717.out (fun _ hk => hk.2.2)))) _).trans ?_); exact hHeld.2.2.2.1), (by (iterate 6 refine (cell_far (p := ⟨gb728, _, none⟩) (by first | exact Kd.own_blk (Kd.N_away HO717.out (fun _ hk => hk.2.2)) | (rw [add_block]; exact Kd.own_blk (Kd.N_away HO717.out (fun _ hk => hk.2.2))) | (show (Addr.add _ _).block ≠ _; rw [add_block]; exact Kd.own_blk (Kd.N_away HO717.out (fun _ hk => hk.2.2))) | (dsimp only; exact Kd.own_blk (Kd.N_away HO717.out (fun _ hk => hk.2.2)))) _).trans ?_); exact hHeld.2.2.2.2.1), (by (iterate 6 refine (cell_far (p := ⟨gb728, _, none⟩) (by first | exact Kd.own_blk (Kd.N_away HO717.out (fun _ hk => hk.2.2)) | (rw [add_block]; exact Kd.own_blk (Kd.N_away HO717.out (fun _ hk => hk.2.2))) | (show (Addr.add _ _).block ≠ _; rw [add_block]; exact Kd.own_blk (Kd.N_away HO717.out (fun _ hk => hk.2.2))) | (dsimp only; exact Kd.own_blk (Kd.N_away HO717.out (fun _ hk => hk.2.2)))) _).trans ?_); exact hHeld.2.2.2.2.2.1), (by (iterate 6 refine (cell_far (p := ⟨gb728, _, none⟩) (by first | exact Kd.own_blk (Kd.N_away HO720.out (fun _ hk => hk.2)) | (rw [add_block]; exact Kd.own_blk (Kd.N_away HO720.out (fun _ hk => hk.2))) | (show (Addr.add _ _).block ≠ _; rw [add_block]; exact Kd.own_blk (Kd.N_away HO720.out (fun _ hk => hk.2))) | (dsimp only; exact Kd.own_blk (Kd.N_away HO720.out (fun _ hk => hk.2)))) _).trans ?_); exact hHeld.2.2.2.2.2.2.1), (by (iterate 6 refine (cell_far (p := ⟨gb728, _, none⟩) (by first | exact Kd.own_blk (Kd.N_away HO720.out (fun _ hk => hk.2)) | (rw [add_block]; exact Kd.own_blk (Kd.N_away HO720.out (fun _ hk => hk.2))) | (show (Addr.add _ _).block ≠ _; rw [add_block]; exact Kd.own_blk (Kd.N_away HO720.out (fun _ hk => hk.2))) | (dsimp only; exact Kd.own_blk (Kd.N_away HO720.out (fun _ hk => hk.2)))) _).trans ?_); exact hHeld.2.2.2.2.2.2.2.1), (by (iterate 6 refine (cell_far (p := ⟨gb728, _, none⟩) (by first | exact Kd.own_blk (Kd.N_away HO720.out (fun _ hk => hk.2)) | (rw [add_block]; exact Kd.own_blk (Kd.N_away HO720.out (fun _ hk => hk.2))) | (show (Addr.add _ _).block ≠ _; rw [add_block]; exact Kd.own_blk (Kd.N_away HO720.out (fun _ hk => hk.2))) | (dsimp only; exact Kd.own_blk (Kd.N_away HO720.out (fun _ hk => hk.2)))) _).trans ?_); exact hHeld.2.2.2.2.2.2.2.2.1), (by (iterate 6 refine (cell_far (p := ⟨gb728, _, none⟩) (by first | exact Kd.own_blk (Kd.N_away HO720.out (fun _ hk => hk.2)) | (rw [add_block]; exact Kd.own_blk (Kd.N_away HO720.out (fun _ hk => hk.2))) | (show (Addr.add _ _).block ≠ _; rw [add_block]; exact Kd.own_blk (Kd.N_away HO720.out (fun _ hk => hk.2))) | (dsimp only; exact Kd.own_blk (Kd.N_away HO720.out (fun _ hk => hk.2)))) _).trans ?_); exact hHeld.2.2.2.2.2.2.2.2.2.1), (by (iterate 6 refine (cell_far (p := ⟨gb728, _, none⟩) (by first | exact Kd.own_blk (Kd.N_away HO720.out (fun _ hk => hk.2)) | (rw [add_block]; exact Kd.own_blk (Kd.N_away HO720.out (fun _ hk => hk.2))) | (show (Addr.add _ _).block ≠ _; rw [add_block]; exact Kd.own_blk (Kd.N_away HO720.out (fun _ hk => hk.2))) | (dsimp only; exact Kd.own_blk (Kd.N_away HO720.out (fun _ hk => hk.2)))) _).trans ?_); exact hHeld.2.2.2.2.2.2.2.2.2.2.1), (by (iterate 6 refine (cell_far (p := ⟨gb728, _, none⟩) (by first | exact Kd.own_blk (Kd.N_away HO720.out (fun _ hk => hk.2)) | (rw [add_block]; exact Kd.own_blk (Kd.N_away HO720.out (fun _ hk => hk.2))) | (show (Addr.add _ _).block ≠ _; rw [add_block]; exact Kd.own_blk (Kd.N_away HO720.out (fun _ hk => hk.2))) | (dsimp only; exact Kd.own_blk (Kd.N_away HO720.out (fun _ hk => hk.2)))) _).trans ?_); exact hHeld.2.2.2.2.2.2.2.2.2.2.2)⟩ (fun hHeld => ?_)
  clear hK K
  refine done_ (done_of HT_.out (by kernel_rfl)) ?_
  have hnb129 := NB727_728.out
  have hnc129 := NB728_727.out
  have hcz130_0 : w116.cell? ⟨gb727, 0, none⟩ = some (.int .u32 0) := zT BK727 0
  have hcz130_1 : w116.cell? ⟨gb727, 1, none⟩ = some (.int .i64 0) := zT BK727 1
  have hcz130_2 : w116.cell? ⟨gb727, 2, none⟩ = some (.slice none 0 0) := zT BK727 2
  have hcz130_3 : w116.cell? ⟨gb727, 3, none⟩ = some (.int .i64 0) := zT BK727 3
  have hcz130_4 : w116.cell? ⟨gb727, 4, none⟩ = some (.int .i64 0) := zT BK727 4
  have hcz130_5 : w116.cell? ⟨gb727, 5, none⟩ = some (.slice none 0 0) := zT BK727 5
  have hfz130_0 := blk_frozen BK727.out 0
  have hfz130_1 := blk_frozen BK727.out 1
  have hfz130_2 := blk_frozen BK727.out 2
  have hfz130_3 := blk_frozen BK727.out 3
  have hfz130_4 := blk_frozen BK727.out 4
  have hfz130_5 := blk_frozen BK727.out 5
  have hcz131_0 : w116.cell? ⟨gb728, 0, none⟩ = some (.int .u32 0) := zT BK728 0
  have hcz131_1 : w116.cell? ⟨gb728, 1, none⟩ = some (.int .i64 0) := zT BK728 1
  have hcz131_2 : w116.cell? ⟨gb728, 2, none⟩ = some (.slice none 0 0) := zT BK728 2
  have hcz131_3 : w116.cell? ⟨gb728, 3, none⟩ = some (.int .i64 0) := zT BK728 3
  have hcz131_4 : w116.cell? ⟨gb728, 4, none⟩ = some (.int .i64 0) := zT BK728 4
  have hcz131_5 : w116.cell? ⟨gb728, 5, none⟩ = some (.slice none 0 0) := zT BK728 5
  have hfz131_0 := blk_frozen BK728.out 0
  have hfz131_1 := blk_frozen BK728.out 1
  have hfz131_2 := blk_frozen BK728.out 2
  have hfz131_3 := blk_frozen BK728.out 3
  have hfz131_4 := blk_frozen BK728.out 4
  have hfz131_5 := blk_frozen BK728.out 5
  try go_wp2
  go_ret
  exact ⟨zE, zB⟩
 rw [if_pos c51] at H
 have c51b0 : (((rd_T31 t715 t721).f2) == ((rd_T31 t718 t723).f2)) = true := beq_iff_eq.mpr c51
 have c51b1 : (((rd_T31 t715 t721).f2) != ((rd_T31 t718 t723).f2)) = false := bne_eq_false_iff_eq.mpr c51
 clear c51
 by_cases c52 : ((rd_T31 t715 t721).f3) = ((rd_T31 t718 t723).f3)
 rotate_left
 ·
  rw [if_neg c52] at H
  have c52b0 : (((rd_T31 t715 t721).f3) == ((rd_T31 t718 t723).f3)) = false := beq_eq_false_iff_ne.mpr c52
  have c52b1 : (((rd_T31 t715 t721).f3) != ((rd_T31 t718 t723).f3)) = true := bne_iff_ne.mpr c52
  obtain rfl := Option.some.inj H
  go_enter Tryd.func3, Tryd.ntmps3
  try go_wp2_with (first | ((with_reducible refine gate_callee (f := 6) rfl ?_); refine goesL_ (some 12) rfl rfl Tryd.func6 (by kernel_rfl) rfl #[] rfl zM ?_; (with_reducible refine (g14_.calls k  true _ A3.out).mono ?_); rintro e w80 ⟨rfl, hb⟩; refine ⟨_, rfl, ?_⟩; have n0_ := Aside0.mk (below_step zB hb); clear HB; have HB := n0_; clear n0_; (try clear hb); (try clear hb2); (try clear hk); (try clear hi)) | ((with_reducible refine gate_callee (f := 7) rfl ?_); refine goesL_ (some 15) rfl rfl Tryd.func7 (by kernel_rfl) rfl #[.slice A0 l0.length c0, .int .i64 5] rfl zM ?_; (with_reducible refine (g9_.calls k _ _ l0 5 t715 _ ?side1 ?side2 ?side3 ?side4 A5.out).mono ?_); (case side1 => exact zC HR0 HB); (case side2 => exact HC0.out); (case side3 => exact (Below.cell zB (World.block_lt_of_cell? w _ GL0_0.out)).trans GL0_0.out); (case side4 => exact (Below.cell zB (World.block_lt_of_cell? w _ GL0_1.out)).trans GL0_1.out); rintro e w81 ⟨v716, rfl, ho0, hb⟩; refine ⟨_, rfl, ?_⟩; have n0_ := Aside0.mk (Kd.N_lower (Kd.N_mono (ok' := fun k_ => True) (Kd.S_N (Kd.S_bound ho0)) (fun k_ hk_ => trivial)) (below_size zB)); have n1_ := Aside0.mk (below_step zB hb); clear HB; have HO717 := n0_; have HB := n1_; clear n0_ n1_; (try clear hb); (try clear hb2); (try clear hk); (try clear hi); (try clear ho0); obtain ⟨Ao82, co82, eo82⟩ := Kd.N_slice HO717.out; subst eo82) | ((with_reducible refine gate_callee (f := 8) rfl ?_); refine goesL_ (some 21) rfl rfl Tryd.func8 (by kernel_rfl) rfl #[.slice Ao82 t715.length co82, .slice A1 l1.length c1] rfl zM ?_; (with_reducible refine (g1_.calls k (fun k_ => True) _ _ t715 _ _ l1 t718 _ ?side1 ?side2 ?side3 A10.out).mono ?_); (case side1 => exact Kd.N_V (HO717.out)); (case side2 => exact zC HR1 HB); (case side3 => exact HC1.out); rintro e w83 ⟨v719, rfl, ho0, hb⟩; refine ⟨_, rfl, ?_⟩; have n0_ := Aside0.mk (Kd.N_elder' (by (with_reducible repeat (first | apply Kd.N_alloc | apply Kd.N_drewN | apply Kd.N_drew)); exact HO717.out) (Kd.N_base ho0) hb); have n1_ := Aside0.mk (Kd.N_lower (Kd.N_mono (ok' := fun k_ => True) ho0 (fun k_ hk_ => trivial)) (below_size zB)); have n2_ := Aside0.mk (below_step zB hb); clear HO717; clear HB; have HO717 := n0_; have HO720 := n1_; have HB := n2_; clear n0_ n1_ n2_; (try clear hb); (try clear hb2); (try clear hk); (try clear hi); (try clear ho0)) | ((with_reducible refine gate_callee (f := 9) rfl ?_); refine goesL_ (some 24) rfl rfl Tryd.func9 (by kernel_rfl) rfl #[.slice Ao82 t715.length co82] rfl zM ?_; (with_reducible refine (best_Choose.calls k _ _ t715 t721 t722 _ ?side1 ?side2 A11.out).mono ?_); (case side1 => repeat (first | exact (Kd.N_reads' HO717.out).2.2 | (with_reducible refine Kd.C_alloc ?_ _) | (with_reducible refine Kd.C_drewN ?_ _) | (with_reducible refine Kd.C_drew ?_))); (case side2 => exact (Kd.N_reads' HO717.out).2.1); rintro e w84 ⟨rfl, hb⟩; refine ⟨_, rfl, ?_⟩; have n0_ := Aside0.mk (Kd.N_below (by (with_reducible repeat (first | apply Kd.N_alloc | apply Kd.N_drewN | apply Kd.N_drew)); exact HO717.out) hb); have n1_ := Aside0.mk (Kd.N_below (by (with_reducible repeat (first | apply Kd.N_alloc | apply Kd.N_drewN | apply Kd.N_drew)); exact HO720.out) hb); have n2_ := Aside0.mk (below_step zB hb); clear HO717; clear HO720; clear HB; have HO717 := n0_; have HO720 := n1_; have HB := n2_; clear n0_ n1_ n2_; (try clear hb); (try clear hb2); (try clear hk); (try clear hi); obtain ⟨Ao85, co85, eo85⟩ := Kd.N_slice HO720.out; subst eo85) | ((with_reducible refine gate_callee (f := 9) rfl ?_); refine goesL_ (some 29) rfl rfl Tryd.func9 (by kernel_rfl) rfl #[.slice Ao85 t718.length co85] rfl zM ?_; (with_reducible refine (best_Choose.calls k _ _ t718 t723 t724 _ ?side1 ?side2 A12.out).mono ?_); (case side1 => repeat (first | exact (Kd.N_reads' HO720.out).2.2 | (with_reducible refine Kd.C_alloc ?_ _) | (with_reducible refine Kd.C_drewN ?_ _) | (with_reducible refine Kd.C_drew ?_))); (case side2 => exact (Kd.N_reads' HO720.out).2.1); rintro e w86 ⟨rfl, hb⟩; refine ⟨_, rfl, ?_⟩; have n0_ := Aside0.mk (Kd.N_below (by (with_reducible repeat (first | apply Kd.N_alloc | apply Kd.N_drewN | apply Kd.N_drew)); exact HO717.out) hb); have n1_ := Aside0.mk (Kd.N_below (by (with_reducible repeat (first | apply Kd.N_alloc | apply Kd.N_drewN | apply Kd.N_drew)); exact HO720.out) hb); have n2_ := Aside0.mk (below_step zB hb); clear HO717; clear HO720; clear HB; have HO717 := n0_; have HO720 := n1_; have HB := n2_; clear n0_ n1_ n2_; (try clear hb); (try clear hb2); (try clear hk); (try clear hi)))
  have n0_ := Aside0.mk (Kd.N_drew HO717.out)
  have n1_ := Aside0.mk (Kd.N_drew HO720.out)
  have n2_ := Aside0.mk (below_drew1 HB.out)
  clear HO717
  clear HO720
  clear HB
  have HO717 := n0_
  have HO720 := n1_
  have HB := n2_
  clear n0_ n1_ n2_
  have p725 : 0 ≤ (t721 : Int) := od
  have q725 : t721 < (t715.length : Int) := od
  obtain ⟨ad725, A725_2, c725_2, A725_5, c725_5, e725, hx725_0, hx725_1, hx725_2, hx725_3, hx725_4, hx725_5, hl725_2, hi725_2, hl725_5, hi725_5⟩ := at_T31 (Kd.N_reads' HO717.out).2.2 t721 p725 q725
  cases e725
  obtain ⟨ce725, hce725, hMe725, hcc725⟩ := Kd.N_get HO717.out z31 t721 p725 (by first | exact q725 | exact od | (have e_ := (Kd.N_reads' HO717.out).1; omega))
  obtain ⟨ua725_2, uc725_2, ua725_5, uc725_5, rfl, ul725_2, ge725_2, ul725_5, ge725_5⟩ := k31_openF hMe725
  have hv725_2 := hcc725 2 _ rfl
  rw [add_field _ _ 2 (by omega)] at hv725_2
  replace hv725_2 := Option.some.inj (hv725_2.symm.trans hx725_2)
  injection hv725_2 with hva_ hvn_ hvc_
  rw [hva_] at ge725_2
  rw [hvc_] at ul725_2
  have HL725_2 := Aside0.mk (show Kd.V (Kd.int .i64) 3 _ w.heap.size _ _ ((rd_T31 t715 t721).f1) from Kd.V_mk ul725_2 ge725_2)
  clear hva_ hvn_ hvc_ ge725_2 ul725_2
  have hv725_5 := hcc725 5 _ rfl
  rw [add_field _ _ 5 (by omega)] at hv725_5
  replace hv725_5 := Option.some.inj (hv725_5.symm.trans hx725_5)
  injection hv725_5 with hva_ hvn_ hvc_
  rw [hva_] at ge725_5
  rw [hvc_] at ul725_5
  have HL725_5 := Aside0.mk (show Kd.V (Kd.int .i64) 3 _ w.heap.size _ _ ((rd_T31 t715 t721).f4) from Kd.V_mk ul725_5 ge725_5)
  clear hva_ hvn_ hvc_ ge725_5 ul725_5
  clear hcc725 hce725
  have HR725_2 := Aside0.mk hi725_2
  have HC725_2 := Aside0.mk hl725_2
  clear hi725_2 hl725_2
  have HR725_5 := Aside0.mk hi725_5
  have HC725_5 := Aside0.mk hl725_5
  clear hi725_5 hl725_5
  replace p725 := eq_true p725
  replace q725 := eq_true q725
  have p726 : 0 ≤ (t723 : Int) := od
  have q726 : t723 < (t718.length : Int) := od
  obtain ⟨ad726, A726_2, c726_2, A726_5, c726_5, e726, hx726_0, hx726_1, hx726_2, hx726_3, hx726_4, hx726_5, hl726_2, hi726_2, hl726_5, hi726_5⟩ := at_T31 (Kd.N_reads' HO720.out).2.2 t723 p726 q726
  cases e726
  obtain ⟨ce726, hce726, hMe726, hcc726⟩ := Kd.N_get HO720.out z31 t723 p726 (by first | exact q726 | exact od | (have e_ := (Kd.N_reads' HO720.out).1; omega))
  obtain ⟨ua726_2, uc726_2, ua726_5, uc726_5, rfl, ul726_2, ge726_2, ul726_5, ge726_5⟩ := k31_openF hMe726
  have hv726_2 := hcc726 2 _ rfl
  rw [add_field _ _ 2 (by omega)] at hv726_2
  replace hv726_2 := Option.some.inj (hv726_2.symm.trans hx726_2)
  injection hv726_2 with hva_ hvn_ hvc_
  rw [hva_] at ge726_2
  rw [hvc_] at ul726_2
  have HL726_2 := Aside0.mk (show Kd.V (Kd.int .i64) 3 _ w.heap.size _ _ ((rd_T31 t718 t723).f1) from Kd.V_mk ul726_2 ge726_2)
  clear hva_ hvn_ hvc_ ge726_2 ul726_2
  have hv726_5 := hcc726 5 _ rfl
  rw [add_field _ _ 5 (by omega)] at hv726_5
  replace hv726_5 := Option.some.inj (hv726_5.symm.trans hx726_5)
  injection hv726_5 with hva_ hvn_ hvc_
  rw [hva_] at ge726_5
  rw [hvc_] at ul726_5
  have HL726_5 := Aside0.mk (show Kd.V (Kd.int .i64) 3 _ w.heap.size _ _ ((rd_T31 t718 t723).f4) from Kd.V_mk ul726_5 ge726_5)
  clear hva_ hvn_ hvc_ ge726_5 ul726_5
  clear hcc726 hce726
  have HR726_2 := Aside0.mk hi726_2
  have HC726_2 := Aside0.mk hl726_2
  clear hi726_2 hl726_2
  have HR726_5 := Aside0.mk hi726_5
  have HC726_5 := Aside0.mk hl726_5
  clear hi726_5 hl726_5
  replace p726 := eq_true p726
  replace q726 := eq_true q726
  refine start_ (n := 12) (S := fun w' => w'.cell? (ad725.add ((t721).toNat * 6)) = some (.int .u32 ((rd_T31 t715 t721).f0.f0)) ∧ w'.cell? ⟨(ad725.add ((t721).toNat * 6)).block, (ad725.add ((t721).toNat * 6)).off + 1, none⟩ = some (.int .i64 ((rd_T31 t715 t721).f0.f1)) ∧ w'.cell? ⟨(ad725.add ((t721).toNat * 6)).block, (ad725.add ((t721).toNat * 6)).off + 2, none⟩ = some (.slice A725_2 ((rd_T31 t715 t721).f1).length c725_2) ∧ w'.cell? ⟨(ad725.add ((t721).toNat * 6)).block, (ad725.add ((t721).toNat * 6)).off + 3, none⟩ = some (.int .i64 ((rd_T31 t715 t721).f2)) ∧ w'.cell? ⟨(ad725.add ((t721).toNat * 6)).block, (ad725.add ((t721).toNat * 6)).off + 4, none⟩ = some (.int .i64 ((rd_T31 t715 t721).f3)) ∧ w'.cell? ⟨(ad725.add ((t721).toNat * 6)).block, (ad725.add ((t721).toNat * 6)).off + 5, none⟩ = some (.slice A725_5 ((rd_T31 t715 t721).f4).length c725_5) ∧ w'.cell? (ad726.add ((t723).toNat * 6)) = some (.int .u32 ((rd_T31 t718 t723).f0.f0)) ∧ w'.cell? ⟨(ad726.add ((t723).toNat * 6)).block, (ad726.add ((t723).toNat * 6)).off + 1, none⟩ = some (.int .i64 ((rd_T31 t718 t723).f0.f1)) ∧ w'.cell? ⟨(ad726.add ((t723).toNat * 6)).block, (ad726.add ((t723).toNat * 6)).off + 2, none⟩ = some (.slice A726_2 ((rd_T31 t718 t723).f1).length c726_2) ∧ w'.cell? ⟨(ad726.add ((t723).toNat * 6)).block, (ad726.add ((t723).toNat * 6)).off + 3, none⟩ = some (.int .i64 ((rd_T31 t718 t723).f2)) ∧ w'.cell? ⟨(ad726.add ((t723).toNat * 6)).block, (ad726.add ((t723).toNat * 6)).off + 4, none⟩ = some (.int .i64 ((rd_T31 t718 t723).f3)) ∧ w'.cell? ⟨(ad726.add ((t723).toNat * 6)).block, (ad726.add ((t723).toNat * 6)).off + 5, none⟩ = some (.slice A726_5 ((rd_T31 t718 t723).f4).length c726_5)) (ds := []) (bm 12 0) (by kernel_rfl) rfl rfl ⟨hx725_0, hx725_1, hx725_2, hx725_3, hx725_4, hx725_5, hx726_0, hx726_1, hx726_2, hx726_3, hx726_4, hx726_5⟩ (fun hHeld => ?_); refine with_tabW g13_.tab11 g13_.bits11 (fun HT_ HW_ => ?_)
  generalize w86.drew = w87 at HO717 HO720 HB HL725_2 HL725_5 HL726_2 HL726_5 HR725_2 HR725_5 HR726_2 HR726_5 hx725_0 hx725_1 hx725_2 hx725_3 hx725_4 hx725_5 hx726_0 hx726_1 hx726_2 hx726_3 hx726_4 hx726_5 hHeld ⊢
  refine pu 0 (some 58) (bm 12 1) HT_ ?_
  refine pu 1 (some 59) (bm 12 3) HT_ ?_
  refine pu 2 (some 60) (bm 12 7) HT_ ?_
  refine pu 4 (some 62) (bm 12 23) HT_ ?_
  refine pu 5 (some 63) (bm 12 55) HT_ ?_
  refine pu 6 (some 64) (bm 12 119) HT_ ?_
  refine tk 3 (some 61) (bm 12 127) HT_ HW_ hHeld ?_
  refine tk 7 (some 65) (bm 12 255) HT_ HW_ hHeld ?_
  refine join_ (σ := Nat × Nat) 2 (bm 12 1023) (fun s_ => [(10, .pointer (some ⟨s_.1, 0, none⟩)), (11, .pointer (some ⟨s_.2, 0, none⟩))]) (fun s_ w' => (w'.cell? (ad725.add ((t721).toNat * 6)) = some (.int .u32 ((rd_T31 t715 t721).f0.f0)) ∧ w'.cell? ⟨(ad725.add ((t721).toNat * 6)).block, (ad725.add ((t721).toNat * 6)).off + 1, none⟩ = some (.int .i64 ((rd_T31 t715 t721).f0.f1)) ∧ w'.cell? ⟨(ad725.add ((t721).toNat * 6)).block, (ad725.add ((t721).toNat * 6)).off + 2, none⟩ = some (.slice A725_2 ((rd_T31 t715 t721).f1).length c725_2) ∧ w'.cell? ⟨(ad725.add ((t721).toNat * 6)).block, (ad725.add ((t721).toNat * 6)).off + 3, none⟩ = some (.int .i64 ((rd_T31 t715 t721).f2)) ∧ w'.cell? ⟨(ad725.add ((t721).toNat * 6)).block, (ad725.add ((t721).toNat * 6)).off + 4, none⟩ = some (.int .i64 ((rd_T31 t715 t721).f3)) ∧ w'.cell? ⟨(ad725.add ((t721).toNat * 6)).block, (ad725.add ((t721).toNat * 6)).off + 5, none⟩ = some (.slice A725_5 ((rd_T31 t715 t721).f4).length c725_5) ∧ w'.cell? (ad726.add ((t723).toNat * 6)) = some (.int .u32 ((rd_T31 t718 t723).f0.f0)) ∧ w'.cell? ⟨(ad726.add ((t723).toNat * 6)).block, (ad726.add ((t723).toNat * 6)).off + 1, none⟩ = some (.int .i64 ((rd_T31 t718 t723).f0.f1)) ∧ w'.cell? ⟨(ad726.add ((t723).toNat * 6)).block, (ad726.add ((t723).toNat * 6)).off + 2, none⟩ = some (.slice A726_2 ((rd_T31 t718 t723).f1).length c726_2) ∧ w'.cell? ⟨(ad726.add ((t723).toNat * 6)).block, (ad726.add ((t723).toNat * 6)).off + 3, none⟩ = some (.int .i64 ((rd_T31 t718 t723).f2)) ∧ w'.cell? ⟨(ad726.add ((t723).toNat * 6)).block, (ad726.add ((t723).toNat * 6)).off + 4, none⟩ = some (.int .i64 ((rd_T31 t718 t723).f3)) ∧ w'.cell? ⟨(ad726.add ((t723).toNat * 6)).block, (ad726.add ((t723).toNat * 6)).off + 5, none⟩ = some (.slice A726_5 ((rd_T31 t718 t723).f4).length c726_5)) ∧ (Kd.V (Kd.int .i64) 3 w' w.heap.size (fun k_ => some k_ ≠ (.slice (some ad725) t715.length co82 : Value).ownBlock ∧ some k_ ≠ (.slice (some ad726) t718.length co85 : Value).ownBlock ∧ k_ ≠ s_.1 ∧ k_ ≠ s_.2) (.slice A725_2 ((rd_T31 t715 t721).f1).length c725_2) ((rd_T31 t715 t721).f1)) ∧ (Kd.V (Kd.int .i64) 3 w' w.heap.size (fun k_ => some k_ ≠ (.slice (some ad725) t715.length co82 : Value).ownBlock ∧ some k_ ≠ (.slice (some ad726) t718.length co85 : Value).ownBlock ∧ k_ ≠ s_.1 ∧ k_ ≠ s_.2) (.slice A725_5 ((rd_T31 t715 t721).f4).length c725_5) ((rd_T31 t715 t721).f4)) ∧ (Kd.V (Kd.int .i64) 3 w' w.heap.size (fun k_ => some k_ ≠ (.slice (some ad726) t718.length co85 : Value).ownBlock ∧ k_ ≠ s_.1 ∧ k_ ≠ s_.2) (.slice A726_2 ((rd_T31 t718 t723).f1).length c726_2) ((rd_T31 t718 t723).f1)) ∧ (Kd.V (Kd.int .i64) 3 w' w.heap.size (fun k_ => some k_ ≠ (.slice (some ad726) t718.length co85 : Value).ownBlock ∧ k_ ≠ s_.1 ∧ k_ ≠ s_.2) (.slice A726_5 ((rd_T31 t718 t723).f4).length c726_5) ((rd_T31 t718 t723).f4)) ∧ (Kd.N k31 31 w' w.heap.size (fun k_ => some k_ ≠ (.slice (some ad726) t718.length co85 : Value).ownBlock ∧ k_ ≠ s_.1 ∧ k_ ≠ s_.2) (.slice (some ad725) t715.length co82) t715) ∧ (Kd.N k31 31 w' w.heap.size (fun k_ => k_ ≠ s_.1 ∧ k_ ≠ s_.2) (.slice (some ad726) t718.length co85) t718) ∧ (w'.heap[s_.1]? = some (.cells #[.int .u32 0, .int .i64 0, .slice none 0 0, .int .i64 0, .int .i64 0, .slice none 0 0] 31 (0, 0))) ∧ (w'.heap[s_.2]? = some (.cells #[.int .u32 0, .int .i64 0, .slice none 0 0, .int .i64 0, .int .i64 0, .slice none 0 0] 31 (0, 0))) ∧ (w.heap.size ≤ s_.1) ∧ (w.heap.size ≤ s_.1) ∧ (s_.2 ≠ s_.1) ∧ (s_.1 ≠ s_.2) ∧ (w.heap.size ≤ s_.2) ∧ (w.heap.size ≤ s_.2) ∧ (Below w.heap.size w w')) ?_ ?_
  rotate_left
  ·
   intro hCont
   refine two_ (i := 8) (j := 9) (Ni := some 10) (Nj := some 11) (bm 12 511) (bm 12 767) rfl rfl rfl rfl (two_of HT_.out (by kernel_rfl)) (by decide) (by decide) (fun K hK => ?_) (fun K hK => ?_)
   ·
    skip
    refine box_step ?hg (N := 10) ?hd (cs := #[.int .u32 0, .int .i64 0, .slice none 0 0, .int .i64 0, .int .i64 0, .slice none 0 0]) (t := 31) ?hr ?_; (case hd => rfl); (case hg => rfl); (case hr => first | (go_simp; done) | (go_simp; rfl))
    intro gb727 hg w88 hbox hb
    have HS0_ := (hb.cell (World.block_lt_of_cell? _ _ (hHeld.1))).trans (hHeld.1)
    have HS1_ := (hb.cell (World.block_lt_of_cell? _ _ (hHeld.2.1))).trans (hHeld.2.1)
    have HS2_ := (hb.cell (World.block_lt_of_cell? _ _ (hHeld.2.2.1))).trans (hHeld.2.2.1)
    have HS3_ := (hb.cell (World.block_lt_of_cell? _ _ (hHeld.2.2.2.1))).trans (hHeld.2.2.2.1)
    have HS4_ := (hb.cell (World.block_lt_of_cell? _ _ (hHeld.2.2.2.2.1))).trans (hHeld.2.2.2.2.1)
    have HS5_ := (hb.cell (World.block_lt_of_cell? _ _ (hHeld.2.2.2.2.2.1))).trans (hHeld.2.2.2.2.2.1)
    have HS6_ := (hb.cell (World.block_lt_of_cell? _ _ (hHeld.2.2.2.2.2.2.1))).trans (hHeld.2.2.2.2.2.2.1)
    have HS7_ := (hb.cell (World.block_lt_of_cell? _ _ (hHeld.2.2.2.2.2.2.2.1))).trans (hHeld.2.2.2.2.2.2.2.1)
    have HS8_ := (hb.cell (World.block_lt_of_cell? _ _ (hHeld.2.2.2.2.2.2.2.2.1))).trans (hHeld.2.2.2.2.2.2.2.2.1)
    have HS9_ := (hb.cell (World.block_lt_of_cell? _ _ (hHeld.2.2.2.2.2.2.2.2.2.1))).trans (hHeld.2.2.2.2.2.2.2.2.2.1)
    have HS10_ := (hb.cell (World.block_lt_of_cell? _ _ (hHeld.2.2.2.2.2.2.2.2.2.2.1))).trans (hHeld.2.2.2.2.2.2.2.2.2.2.1)
    have HS11_ := (hb.cell (World.block_lt_of_cell? _ _ (hHeld.2.2.2.2.2.2.2.2.2.2.2))).trans (hHeld.2.2.2.2.2.2.2.2.2.2.2)
    have n0_ := Aside0.mk (Kd.N_below (Kd.N_elderB (by (with_reducible repeat (first | apply Kd.N_alloc | apply Kd.N_drewN | apply Kd.N_drew)); exact HO717.out) gb727 (Nat.le_of_eq hg.symm)) hb)
    have n1_ := Aside0.mk (Kd.N_below (Kd.N_elderB (by (with_reducible repeat (first | apply Kd.N_alloc | apply Kd.N_drewN | apply Kd.N_drew)); exact HO720.out) gb727 (Nat.le_of_eq hg.symm)) hb)
    have n2_ := Aside0.mk (Kd.V_below (Kd.V_elderB (by (with_reducible repeat (first | apply Kd.V_alloc | apply Kd.V_drewN | apply Kd.V_drew)); exact HL725_2.out) gb727 (Nat.le_of_eq hg.symm)) hb)
    have n3_ := Aside0.mk (Kd.V_below (Kd.V_elderB (by (with_reducible repeat (first | apply Kd.V_alloc | apply Kd.V_drewN | apply Kd.V_drew)); exact HL725_5.out) gb727 (Nat.le_of_eq hg.symm)) hb)
    have n4_ := Aside0.mk (Kd.V_below (Kd.V_elderB (by (with_reducible repeat (first | apply Kd.V_alloc | apply Kd.V_drewN | apply Kd.V_drew)); exact HL726_2.out) gb727 (Nat.le_of_eq hg.symm)) hb)
    have n5_ := Aside0.mk (Kd.V_below (Kd.V_elderB (by (with_reducible repeat (first | apply Kd.V_alloc | apply Kd.V_drewN | apply Kd.V_drew)); exact HL726_5.out) gb727 (Nat.le_of_eq hg.symm)) hb)
    have n6_ := Aside0.mk (Kd.C_below (by repeat (first | (with_reducible exact HR725_2.out) | (with_reducible refine Kd.C_alloc ?_ _) | (with_reducible refine Kd.C_drewN ?_ _) | (with_reducible refine Kd.C_drew ?_) | exact HR725_2.out)) hb)
    have n7_ := Aside0.mk (Kd.C_below (by repeat (first | (with_reducible exact HR725_5.out) | (with_reducible refine Kd.C_alloc ?_ _) | (with_reducible refine Kd.C_drewN ?_ _) | (with_reducible refine Kd.C_drew ?_) | exact HR725_5.out)) hb)
    have n8_ := Aside0.mk (Kd.C_below (by repeat (first | (with_reducible exact HR726_2.out) | (with_reducible refine Kd.C_alloc ?_ _) | (with_reducible refine Kd.C_drewN ?_ _) | (with_reducible refine Kd.C_drew ?_) | exact HR726_2.out)) hb)
    have n9_ := Aside0.mk (Kd.C_below (by repeat (first | (with_reducible exact HR726_5.out) | (with_reducible refine Kd.C_alloc ?_ _) | (with_reducible refine Kd.C_drewN ?_ _) | (with_reducible refine Kd.C_drew ?_) | exact HR726_5.out)) hb)
    have n10_ := Aside0.mk (below_step zB hb)
    have n11_ := Aside0.mk (hbox)
    have n12_ := Aside0.mk ((zG hg : w.heap.size ≤ gb727))
    have n13_ := Aside0.mk ((zG hg : w.heap.size ≤ gb727))
    clear HO717
    clear HO720
    clear HL725_2
    clear HL725_5
    clear HL726_2
    clear HL726_5
    clear HR725_2
    clear HR725_5
    clear HR726_2
    clear HR726_5
    clear HB
    have HO717 := n0_
    have HO720 := n1_
    have HL725_2 := n2_
    have HL725_5 := n3_
    have HL726_2 := n4_
    have HL726_5 := n5_
    have HR725_2 := n6_
    have HR725_5 := n7_
    have HR726_2 := n8_
    have HR726_5 := n9_
    have HB := n10_
    have BK727 := n11_
    have GW727 := n12_
    have GE727 := n13_
    clear n0_ n1_ n2_ n3_ n4_ n5_ n6_ n7_ n8_ n9_ n10_ n11_ n12_ n13_
    clear hb hbox hg
    refine hK.out _ _ ⟨HS0_, HS1_, HS2_, HS3_, HS4_, HS5_, HS6_, HS7_, HS8_, HS9_, HS10_, HS11_⟩ (fun hHeld => ?_)
    clear hK K
    refine norm_ (a' := ?_) ?_ ?_
    rotate_left
    · show Act.put _ (some 10) _ = _; simp only [Act.put, sA, s0, sS, i64_w, i32_w]; rfl
    refine one_ (i := 9) (N := some 11) (bm 12 1023) rfl rfl (one_of HT_.out (by kernel_rfl)) (by decide) (fun K hK => ?_)
    refine box_step ?hg (N := 11) ?hd (cs := #[.int .u32 0, .int .i64 0, .slice none 0 0, .int .i64 0, .int .i64 0, .slice none 0 0]) (t := 31) ?hr ?_; (case hd => rfl); (case hg => rfl); (case hr => first | (go_simp; done) | (go_simp; rfl))
    intro gb728 hg w89 hbox hb
    have HS0_ := (hb.cell (World.block_lt_of_cell? _ _ (hHeld.1))).trans (hHeld.1)
    have HS1_ := (hb.cell (World.block_lt_of_cell? _ _ (hHeld.2.1))).trans (hHeld.2.1)
    have HS2_ := (hb.cell (World.block_lt_of_cell? _ _ (hHeld.2.2.1))).trans (hHeld.2.2.1)
    have HS3_ := (hb.cell (World.block_lt_of_cell? _ _ (hHeld.2.2.2.1))).trans (hHeld.2.2.2.1)
    have HS4_ := (hb.cell (World.block_lt_of_cell? _ _ (hHeld.2.2.2.2.1))).trans (hHeld.2.2.2.2.1)
    have HS5_ := (hb.cell (World.block_lt_of_cell? _ _ (hHeld.2.2.2.2.2.1))).trans (hHeld.2.2.2.2.2.1)
    have HS6_ := (hb.cell (World.block_lt_of_cell? _ _ (hHeld.2.2.2.2.2.2.1))).trans (hHeld.2.2.2.2.2.2.1)
    have HS7_ := (hb.cell (World.block_lt_of_cell? _ _ (hHeld.2.2.2.2.2.2.2.1))).trans (hHeld.2.2.2.2.2.2.2.1)
    have HS8_ := (hb.cell (World.block_lt_of_cell? _ _ (hHeld.2.2.2.2.2.2.2.2.1))).trans (hHeld.2.2.2.2.2.2.2.2.1)
    have HS9_ := (hb.cell (World.block_lt_of_cell? _ _ (hHeld.2.2.2.2.2.2.2.2.2.1))).trans (hHeld.2.2.2.2.2.2.2.2.2.1)
    have HS10_ := (hb.cell (World.block_lt_of_cell? _ _ (hHeld.2.2.2.2.2.2.2.2.2.2.1))).trans (hHeld.2.2.2.2.2.2.2.2.2.2.1)
    have HS11_ := (hb.cell (World.block_lt_of_cell? _ _ (hHeld.2.2.2.2.2.2.2.2.2.2.2))).trans (hHeld.2.2.2.2.2.2.2.2.2.2.2)
    have n0_ := Aside0.mk (Kd.N_below (Kd.N_elderB (by (with_reducible repeat (first | apply Kd.N_alloc | apply Kd.N_drewN | apply Kd.N_drew)); exact HO717.out) gb728 (Nat.le_of_eq hg.symm)) hb)
    have n1_ := Aside0.mk (Kd.N_below (Kd.N_elderB (by (with_reducible repeat (first | apply Kd.N_alloc | apply Kd.N_drewN | apply Kd.N_drew)); exact HO720.out) gb728 (Nat.le_of_eq hg.symm)) hb)
    have n2_ := Aside0.mk (Kd.V_below (Kd.V_elderB (by (with_reducible repeat (first | apply Kd.V_alloc | apply Kd.V_drewN | apply Kd.V_drew)); exact HL725_2.out) gb728 (Nat.le_of_eq hg.symm)) hb)
    have n3_ := Aside0.mk (Kd.V_below (Kd.V_elderB (by (with_reducible repeat (first | apply Kd.V_alloc | apply Kd.V_drewN | apply Kd.V_drew)); exact HL725_5.out) gb728 (Nat.le_of_eq hg.symm)) hb)
    have n4_ := Aside0.mk (Kd.V_below (Kd.V_elderB (by (with_reducible repeat (first | apply Kd.V_alloc | apply Kd.V_drewN | apply Kd.V_drew)); exact HL726_2.out) gb728 (Nat.le_of_eq hg.symm)) hb)
    have n5_ := Aside0.mk (Kd.V_below (Kd.V_elderB (by (with_reducible repeat (first | apply Kd.V_alloc | apply Kd.V_drewN | apply Kd.V_drew)); exact HL726_5.out) gb728 (Nat.le_of_eq hg.symm)) hb)
    have n6_ := Aside0.mk (Kd.C_below (by repeat (first | (with_reducible exact HR725_2.out) | (with_reducible refine Kd.C_alloc ?_ _) | (with_reducible refine Kd.C_drewN ?_ _) | (with_reducible refine Kd.C_drew ?_) | exact HR725_2.out)) hb)
    have n7_ := Aside0.mk (Kd.C_below (by repeat (first | (with_reducible exact HR725_5.out) | (with_reducible refine Kd.C_alloc ?_ _) | (with_reducible refine Kd.C_drewN ?_ _) | (with_reducible refine Kd.C_drew ?_) | exact HR725_5.out)) hb)
    have n8_ := Aside0.mk (Kd.C_below (by repeat (first | (with_reducible exact HR726_2.out) | (with_reducible refine Kd.C_alloc ?_ _) | (with_reducible refine Kd.C_drewN ?_ _) | (with_reducible refine Kd.C_drew ?_) | exact HR726_2.out)) hb)
    have n9_ := Aside0.mk (Kd.C_below (by repeat (first | (with_reducible exact HR726_5.out) | (with_reducible refine Kd.C_alloc ?_ _) | (with_reducible refine Kd.C_drewN ?_ _) | (with_reducible refine Kd.C_drew ?_) | exact HR726_5.out)) hb)
    have n10_ := Aside0.mk (blk_below (g := gb727) (o := .cells #[.int .u32 0, .int .i64 0, .slice none 0 0, .int .i64 0, .int .i64 0, .slice none 0 0] 31 (0, 0)) (zK BK727) hb)
    have n11_ := Aside0.mk (below_step zB hb)
    have n12_ := Aside0.mk (hbox)
    have n13_ := Aside0.mk ((zG hg : w.heap.size ≤ gb728))
    have n14_ := Aside0.mk ((zG hg : w.heap.size ≤ gb728))
    have n15_ := Aside0.mk ((by rw [hg]; exact Nat.ne_of_lt (blk_lt (g := gb727) (o := .cells #[.int .u32 0, .int .i64 0, .slice none 0 0, .int .i64 0, .int .i64 0, .slice none 0 0] 31 (0, 0)) (zK BK727)) : gb727 ≠ gb728))
    have n16_ := Aside0.mk ((by rw [hg]; exact Nat.ne_of_gt (blk_lt (g := gb727) (o := .cells #[.int .u32 0, .int .i64 0, .slice none 0 0, .int .i64 0, .int .i64 0, .slice none 0 0] 31 (0, 0)) (zK BK727)) : gb728 ≠ gb727))
    clear HO717
    clear HO720
    clear HL725_2
    clear HL725_5
    clear HL726_2
    clear HL726_5
    clear HR725_2
    clear HR725_5
    clear HR726_2
    clear HR726_5
    clear BK727
    clear HB
    have HO717 := n0_
    have HO720 := n1_
    have HL725_2 := n2_
    have HL725_5 := n3_
    have HL726_2 := n4_
    have HL726_5 := n5_
    have HR725_2 := n6_
    have HR725_5 := n7_
    have HR726_2 := n8_
    have HR726_5 := n9_
    have BK727 := n10_
    have HB := n11_
    have BK728 := n12_
    have GW728 := n13_
    have GE728 := n14_
    have NB727_728 := n15_
    have NB728_727 := n16_
    clear n0_ n1_ n2_ n3_ n4_ n5_ n6_ n7_ n8_ n9_ n10_ n11_ n12_ n13_ n14_ n15_ n16_
    clear hb hbox hg
    refine hK.out _ _ ⟨HS0_, HS1_, HS2_, HS3_, HS4_, HS5_, HS6_, HS7_, HS8_, HS9_, HS10_, HS11_⟩ (fun hHeld => ?_)
    clear hK K
    refine norm_ (a' := ?_) ?_ ?_
    rotate_left
    · show Act.put _ (some 11) _ = _; simp only [Act.put, sA, s0, sS, i64_w, i32_w]; rfl
    exact norm_ (by simp only [putAll, Act.put, List.setIfInBounds_toArray, List.set_cons_zero, List.set_cons_succ]) (hCont (gb727, gb728) _ ⟨hHeld, (by (with_reducible repeat (first | apply Kd.V_alloc | apply Kd.V_drewN | apply Kd.V_drew)); exact Kd.V_mono HL725_2.out (fun _ hk => ⟨hk.1.1.2, ⟨hk.1.1.1.2, ⟨hk.1.2, hk.2⟩⟩⟩)), (by (with_reducible repeat (first | apply Kd.V_alloc | apply Kd.V_drewN | apply Kd.V_drew)); exact Kd.V_mono HL725_5.out (fun _ hk => ⟨hk.1.1.2, ⟨hk.1.1.1.2, ⟨hk.1.2, hk.2⟩⟩⟩)), (by (with_reducible repeat (first | apply Kd.V_alloc | apply Kd.V_drewN | apply Kd.V_drew)); exact Kd.V_mono HL726_2.out (fun _ hk => ⟨hk.1.1.2, ⟨hk.1.2, hk.2⟩⟩)), (by (with_reducible repeat (first | apply Kd.V_alloc | apply Kd.V_drewN | apply Kd.V_drew)); exact Kd.V_mono HL726_5.out (fun _ hk => ⟨hk.1.1.2, ⟨hk.1.2, hk.2⟩⟩)), (by (with_reducible repeat (first | apply Kd.N_alloc | apply Kd.N_drewN | apply Kd.N_drew)); exact Kd.N_mono HO717.out (fun _ hk => ⟨hk.1.1.2, ⟨hk.1.2, hk.2⟩⟩)), (by (with_reducible repeat (first | apply Kd.N_alloc | apply Kd.N_drewN | apply Kd.N_drew)); exact Kd.N_mono HO720.out (fun _ hk => ⟨hk.1.2, hk.2⟩)), (zK BK727), (zK BK728), GW727.out, GE727.out, NB728_727.out, NB727_728.out, GW728.out, GE728.out, zB⟩)
   ·
    skip
    refine box_step ?hg (N := 11) ?hd (cs := #[.int .u32 0, .int .i64 0, .slice none 0 0, .int .i64 0, .int .i64 0, .slice none 0 0]) (t := 31) ?hr ?_; (case hd => rfl); (case hg => rfl); (case hr => first | (go_simp; done) | (go_simp; rfl))
    intro gb728 hg w88 hbox hb
    have HS0_ := (hb.cell (World.block_lt_of_cell? _ _ (hHeld.1))).trans (hHeld.1)
    have HS1_ := (hb.cell (World.block_lt_of_cell? _ _ (hHeld.2.1))).trans (hHeld.2.1)
    have HS2_ := (hb.cell (World.block_lt_of_cell? _ _ (hHeld.2.2.1))).trans (hHeld.2.2.1)
    have HS3_ := (hb.cell (World.block_lt_of_cell? _ _ (hHeld.2.2.2.1))).trans (hHeld.2.2.2.1)
    have HS4_ := (hb.cell (World.block_lt_of_cell? _ _ (hHeld.2.2.2.2.1))).trans (hHeld.2.2.2.2.1)
    have HS5_ := (hb.cell (World.block_lt_of_cell? _ _ (hHeld.2.2.2.2.2.1))).trans (hHeld.2.2.2.2.2.1)
    have HS6_ := (hb.cell (World.block_lt_of_cell? _ _ (hHeld.2.2.2.2.2.2.1))).trans (hHeld.2.2.2.2.2.2.1)
    have HS7_ := (hb.cell (World.block_lt_of_cell? _ _ (hHeld.2.2.2.2.2.2.2.1))).trans (hHeld.2.2.2.2.2.2.2.1)
    have HS8_ := (hb.cell (World.block_lt_of_cell? _ _ (hHeld.2.2.2.2.2.2.2.2.1))).trans (hHeld.2.2.2.2.2.2.2.2.1)
    have HS9_ := (hb.cell (World.block_lt_of_cell? _ _ (hHeld.2.2.2.2.2.2.2.2.2.1))).trans (hHeld.2.2.2.2.2.2.2.2.2.1)
    have HS10_ := (hb.cell (World.block_lt_of_cell? _ _ (hHeld.2.2.2.2.2.2.2.2.2.2.1))).trans (hHeld.2.2.2.2.2.2.2.2.2.2.1)
    have HS11_ := (hb.cell (World.block_lt_of_cell? _ _ (hHeld.2.2.2.2.2.2.2.2.2.2.2))).trans (hHeld.2.2.2.2.2.2.2.2.2.2.2)
    have n0_ := Aside0.mk (Kd.N_below (Kd.N_elderB (by (with_reducible repeat (first | apply Kd.N_alloc | apply Kd.N_drewN | apply Kd.N_drew)); exact HO717.out) gb728 (Nat.le_of_eq hg.symm)) hb)
    have n1_ := Aside0.mk (Kd.N_below (Kd.N_elderB (by (with_reducible repeat (first | apply Kd.N_alloc | apply Kd.N_drewN | apply Kd.N_drew)); exact HO720.out) gb728 (Nat.le_of_eq hg.symm)) hb)
    have n2_ := Aside0.mk (Kd.V_below (Kd.V_elderB (by (with_reducible repeat (first | apply Kd.V_alloc | apply Kd.V_drewN | apply Kd.V_drew)); exact HL725_2.out) gb728 (Nat.le_of_eq hg.symm)) hb)
    have n3_ := Aside0.mk (Kd.V_below (Kd.V_elderB (by (with_reducible repeat (first | apply Kd.V_alloc | apply Kd.V_drewN | apply Kd.V_drew)); exact HL725_5.out) gb728 (Nat.le_of_eq hg.symm)) hb)
    have n4_ := Aside0.mk (Kd.V_below (Kd.V_elderB (by (with_reducible repeat (first | apply Kd.V_alloc | apply Kd.V_drewN | apply Kd.V_drew)); exact HL726_2.out) gb728 (Nat.le_of_eq hg.symm)) hb)
    have n5_ := Aside0.mk (Kd.V_below (Kd.V_elderB (by (with_reducible repeat (first | apply Kd.V_alloc | apply Kd.V_drewN | apply Kd.V_drew)); exact HL726_5.out) gb728 (Nat.le_of_eq hg.symm)) hb)
    have n6_ := Aside0.mk (Kd.C_below (by repeat (first | (with_reducible exact HR725_2.out) | (with_reducible refine Kd.C_alloc ?_ _) | (with_reducible refine Kd.C_drewN ?_ _) | (with_reducible refine Kd.C_drew ?_) | exact HR725_2.out)) hb)
    have n7_ := Aside0.mk (Kd.C_below (by repeat (first | (with_reducible exact HR725_5.out) | (with_reducible refine Kd.C_alloc ?_ _) | (with_reducible refine Kd.C_drewN ?_ _) | (with_reducible refine Kd.C_drew ?_) | exact HR725_5.out)) hb)
    have n8_ := Aside0.mk (Kd.C_below (by repeat (first | (with_reducible exact HR726_2.out) | (with_reducible refine Kd.C_alloc ?_ _) | (with_reducible refine Kd.C_drewN ?_ _) | (with_reducible refine Kd.C_drew ?_) | exact HR726_2.out)) hb)
    have n9_ := Aside0.mk (Kd.C_below (by repeat (first | (with_reducible exact HR726_5.out) | (with_reducible refine Kd.C_alloc ?_ _) | (with_reducible refine Kd.C_drewN ?_ _) | (with_reducible refine Kd.C_drew ?_) | exact HR726_5.out)) hb)
    have n10_ := Aside0.mk (below_step zB hb)
    have n11_ := Aside0.mk (hbox)
    have n12_ := Aside0.mk ((zG hg : w.heap.size ≤ gb728))
    have n13_ := Aside0.mk ((zG hg : w.heap.size ≤ gb728))
    clear HO717
    clear HO720
    clear HL725_2
    clear HL725_5
    clear HL726_2
    clear HL726_5
    clear HR725_2
    clear HR725_5
    clear HR726_2
    clear HR726_5
    clear HB
    have HO717 := n0_
    have HO720 := n1_
    have HL725_2 := n2_
    have HL725_5 := n3_
    have HL726_2 := n4_
    have HL726_5 := n5_
    have HR725_2 := n6_
    have HR725_5 := n7_
    have HR726_2 := n8_
    have HR726_5 := n9_
    have HB := n10_
    have BK728 := n11_
    have GW728 := n12_
    have GE728 := n13_
    clear n0_ n1_ n2_ n3_ n4_ n5_ n6_ n7_ n8_ n9_ n10_ n11_ n12_ n13_
    clear hb hbox hg
    refine hK.out _ _ ⟨HS0_, HS1_, HS2_, HS3_, HS4_, HS5_, HS6_, HS7_, HS8_, HS9_, HS10_, HS11_⟩ (fun hHeld => ?_)
    clear hK K
    refine norm_ (a' := ?_) ?_ ?_
    rotate_left
    · show Act.put _ (some 11) _ = _; simp only [Act.put, sA, s0, sS, i64_w, i32_w]; rfl
    refine one_ (i := 8) (N := some 10) (bm 12 1023) rfl rfl (one_of HT_.out (by kernel_rfl)) (by decide) (fun K hK => ?_)
    refine box_step ?hg (N := 10) ?hd (cs := #[.int .u32 0, .int .i64 0, .slice none 0 0, .int .i64 0, .int .i64 0, .slice none 0 0]) (t := 31) ?hr ?_; (case hd => rfl); (case hg => rfl); (case hr => first | (go_simp; done) | (go_simp; rfl))
    intro gb727 hg w89 hbox hb
    have HS0_ := (hb.cell (World.block_lt_of_cell? _ _ (hHeld.1))).trans (hHeld.1)
    have HS1_ := (hb.cell (World.block_lt_of_cell? _ _ (hHeld.2.1))).trans (hHeld.2.1)
    have HS2_ := (hb.cell (World.block_lt_of_cell? _ _ (hHeld.2.2.1))).trans (hHeld.2.2.1)
    have HS3_ := (hb.cell (World.block_lt_of_cell? _ _ (hHeld.2.2.2.1))).trans (hHeld.2.2.2.1)
    have HS4_ := (hb.cell (World.block_lt_of_cell? _ _ (hHeld.2.2.2.2.1))).trans (hHeld.2.2.2.2.1)
    have HS5_ := (hb.cell (World.block_lt_of_cell? _ _ (hHeld.2.2.2.2.2.1))).trans (hHeld.2.2.2.2.2.1)
    have HS6_ := (hb.cell (World.block_lt_of_cell? _ _ (hHeld.2.2.2.2.2.2.1))).trans (hHeld.2.2.2.2.2.2.1)
    have HS7_ := (hb.cell (World.block_lt_of_cell? _ _ (hHeld.2.2.2.2.2.2.2.1))).trans (hHeld.2.2.2.2.2.2.2.1)
    have HS8_ := (hb.cell (World.block_lt_of_cell? _ _ (hHeld.2.2.2.2.2.2.2.2.1))).trans (hHeld.2.2.2.2.2.2.2.2.1)
    have HS9_ := (hb.cell (World.block_lt_of_cell? _ _ (hHeld.2.2.2.2.2.2.2.2.2.1))).trans (hHeld.2.2.2.2.2.2.2.2.2.1)
    have HS10_ := (hb.cell (World.block_lt_of_cell? _ _ (hHeld.2.2.2.2.2.2.2.2.2.2.1))).trans (hHeld.2.2.2.2.2.2.2.2.2.2.1)
    have HS11_ := (hb.cell (World.block_lt_of_cell? _ _ (hHeld.2.2.2.2.2.2.2.2.2.2.2))).trans (hHeld.2.2.2.2.2.2.2.2.2.2.2)
    have n0_ := Aside0.mk (Kd.N_below (Kd.N_elderB (by (with_reducible repeat (first | apply Kd.N_alloc | apply Kd.N_drewN | apply Kd.N_drew)); exact HO717.out) gb727 (Nat.le_of_eq hg.symm)) hb)
    have n1_ := Aside0.mk (Kd.N_below (Kd.N_elderB (by (with_reducible repeat (first | apply Kd.N_alloc | apply Kd.N_drewN | apply Kd.N_drew)); exact HO720.out) gb727 (Nat.le_of_eq hg.symm)) hb)
    have n2_ := Aside0.mk (Kd.V_below (Kd.V_elderB (by (with_reducible repeat (first | apply Kd.V_alloc | apply Kd.V_drewN | apply Kd.V_drew)); exact HL725_2.out) gb727 (Nat.le_of_eq hg.symm)) hb)
    have n3_ := Aside0.mk (Kd.V_below (Kd.V_elderB (by (with_reducible repeat (first | apply Kd.V_alloc | apply Kd.V_drewN | apply Kd.V_drew)); exact HL725_5.out) gb727 (Nat.le_of_eq hg.symm)) hb)
    have n4_ := Aside0.mk (Kd.V_below (Kd.V_elderB (by (with_reducible repeat (first | apply Kd.V_alloc | apply Kd.V_drewN | apply Kd.V_drew)); exact HL726_2.out) gb727 (Nat.le_of_eq hg.symm)) hb)
    have n5_ := Aside0.mk (Kd.V_below (Kd.V_elderB (by (with_reducible repeat (first | apply Kd.V_alloc | apply Kd.V_drewN | apply Kd.V_drew)); exact HL726_5.out) gb727 (Nat.le_of_eq hg.symm)) hb)
    have n6_ := Aside0.mk (Kd.C_below (by repeat (first | (with_reducible exact HR725_2.out) | (with_reducible refine Kd.C_alloc ?_ _) | (with_reducible refine Kd.C_drewN ?_ _) | (with_reducible refine Kd.C_drew ?_) | exact HR725_2.out)) hb)
    have n7_ := Aside0.mk (Kd.C_below (by repeat (first | (with_reducible exact HR725_5.out) | (with_reducible refine Kd.C_alloc ?_ _) | (with_reducible refine Kd.C_drewN ?_ _) | (with_reducible refine Kd.C_drew ?_) | exact HR725_5.out)) hb)
    have n8_ := Aside0.mk (Kd.C_below (by repeat (first | (with_reducible exact HR726_2.out) | (with_reducible refine Kd.C_alloc ?_ _) | (with_reducible refine Kd.C_drewN ?_ _) | (with_reducible refine Kd.C_drew ?_) | exact HR726_2.out)) hb)
    have n9_ := Aside0.mk (Kd.C_below (by repeat (first | (with_reducible exact HR726_5.out) | (with_reducible refine Kd.C_alloc ?_ _) | (with_reducible refine Kd.C_drewN ?_ _) | (with_reducible refine Kd.C_drew ?_) | exact HR726_5.out)) hb)
    have n10_ := Aside0.mk (blk_below (g := gb728) (o := .cells #[.int .u32 0, .int .i64 0, .slice none 0 0, .int .i64 0, .int .i64 0, .slice none 0 0] 31 (0, 0)) (zK BK728) hb)
    have n11_ := Aside0.mk (below_step zB hb)
    have n12_ := Aside0.mk (hbox)
    have n13_ := Aside0.mk ((zG hg : w.heap.size ≤ gb727))
    have n14_ := Aside0.mk ((zG hg : w.heap.size ≤ gb727))
    have n15_ := Aside0.mk ((by rw [hg]; exact Nat.ne_of_lt (blk_lt (g := gb728) (o := .cells #[.int .u32 0, .int .i64 0, .slice none 0 0, .int .i64 0, .int .i64 0, .slice none 0 0] 31 (0, 0)) (zK BK728)) : gb728 ≠ gb727))
    have n16_ := Aside0.mk ((by rw [hg]; exact Nat.ne_of_gt (blk_lt (g := gb728) (o := .cells #[.int .u32 0, .int .i64 0, .slice none 0 0, .int .i64 0, .int .i64 0, .slice none 0 0] 31 (0, 0)) (zK BK728)) : gb727 ≠ gb728))
    clear HO717
    clear HO720
    clear HL725_2
    clear HL725_5
    clear HL726_2
    clear HL726_5
    clear HR725_2
    clear HR725_5
    clear HR726_2
    clear HR726_5
    clear BK728
    clear HB
    have HO717 := n0_
    have HO720 := n1_
    have HL725_2 := n2_
    have HL725_5 := n3_
    have HL726_2 := n4_
    have HL726_5 := n5_
    have HR725_2 := n6_
    have HR725_5 := n7_
    have HR726_2 := n8_
    have HR726_5 := n9_
    have BK728 := n10_
    have HB := n11_
    have BK727 := n12_
    have GW727 := n13_
    have GE727 := n14_
    have NB728_727 := n15_
    have NB727_728 := n16_
    clear n0_ n1_ n2_ n3_ n4_ n5_ n6_ n7_ n8_ n9_ n10_ n11_ n12_ n13_ n14_ n15_ n16_
    clear hb hbox hg
    refine hK.out _ _ ⟨HS0_, HS1_, HS2_, HS3_, HS4_, HS5_, HS6_, HS7_, HS8_, HS9_, HS10_, HS11_⟩ (fun hHeld => ?_)
    clear hK K
    refine norm_ (a' := ?_) ?_ ?_
    rotate_left
    · show Act.put _ (some 10) _ = _; simp only [Act.put, sA, s0, sS, i64_w, i32_w]; rfl
    exact norm_ (by simp only [putAll, Act.put, List.setIfInBounds_toArray, List.set_cons_zero, List.set_cons_succ]) (hCont (gb727, gb728) _ ⟨hHeld, (by (with_reducible repeat (first | apply Kd.V_alloc | apply Kd.V_drewN | apply Kd.V_drew)); exact Kd.V_mono HL725_2.out (fun _ hk => ⟨hk.1.1.2, ⟨hk.1.1.1.2, ⟨hk.2, hk.1.2⟩⟩⟩)), (by (with_reducible repeat (first | apply Kd.V_alloc | apply Kd.V_drewN | apply Kd.V_drew)); exact Kd.V_mono HL725_5.out (fun _ hk => ⟨hk.1.1.2, ⟨hk.1.1.1.2, ⟨hk.2, hk.1.2⟩⟩⟩)), (by (with_reducible repeat (first | apply Kd.V_alloc | apply Kd.V_drewN | apply Kd.V_drew)); exact Kd.V_mono HL726_2.out (fun _ hk => ⟨hk.1.1.2, ⟨hk.2, hk.1.2⟩⟩)), (by (with_reducible repeat (first | apply Kd.V_alloc | apply Kd.V_drewN | apply Kd.V_drew)); exact Kd.V_mono HL726_5.out (fun _ hk => ⟨hk.1.1.2, ⟨hk.2, hk.1.2⟩⟩)), (by (with_reducible repeat (first | apply Kd.N_alloc | apply Kd.N_drewN | apply Kd.N_drew)); exact Kd.N_mono HO717.out (fun _ hk => ⟨hk.1.1.2, ⟨hk.2, hk.1.2⟩⟩)), (by (with_reducible repeat (first | apply Kd.N_alloc | apply Kd.N_drewN | apply Kd.N_drew)); exact Kd.N_mono HO720.out (fun _ hk => ⟨hk.2, hk.1.2⟩)), (zK BK727), (zK BK728), GW727.out, GE727.out, NB728_727.out, NB727_728.out, GW728.out, GE728.out, zB⟩)
  rintro ⟨gb727, gb728⟩ w90 ⟨hS_, h0_, h1_, h2_, h3_, h4_, h5_, h6_, h7_, h8_, h9_, h10_, h11_, h12_, h13_, h14_⟩
  have n0_ : Aside0 (Kd.V (Kd.int .i64) 3 w90 w.heap.size (fun k_ => some k_ ≠ (.slice (some ad725) t715.length co82 : Value).ownBlock ∧ some k_ ≠ (.slice (some ad726) t718.length co85 : Value).ownBlock ∧ k_ ≠ gb727 ∧ k_ ≠ gb728) (.slice A725_2 ((rd_T31 t715 t721).f1).length c725_2) ((rd_T31 t715 t721).f1)) := ⟨h0_⟩
  have n1_ : Aside0 (Kd.V (Kd.int .i64) 3 w90 w.heap.size (fun k_ => some k_ ≠ (.slice (some ad725) t715.length co82 : Value).ownBlock ∧ some k_ ≠ (.slice (some ad726) t718.length co85 : Value).ownBlock ∧ k_ ≠ gb727 ∧ k_ ≠ gb728) (.slice A725_5 ((rd_T31 t715 t721).f4).length c725_5) ((rd_T31 t715 t721).f4)) := ⟨h1_⟩
  have n2_ : Aside0 (Kd.V (Kd.int .i64) 3 w90 w.heap.size (fun k_ => some k_ ≠ (.slice (some ad726) t718.length co85 : Value).ownBlock ∧ k_ ≠ gb727 ∧ k_ ≠ gb728) (.slice A726_2 ((rd_T31 t718 t723).f1).length c726_2) ((rd_T31 t718 t723).f1)) := ⟨h2_⟩
  have n3_ : Aside0 (Kd.V (Kd.int .i64) 3 w90 w.heap.size (fun k_ => some k_ ≠ (.slice (some ad726) t718.length co85 : Value).ownBlock ∧ k_ ≠ gb727 ∧ k_ ≠ gb728) (.slice A726_5 ((rd_T31 t718 t723).f4).length c726_5) ((rd_T31 t718 t723).f4)) := ⟨h3_⟩
  have n4_ : Aside0 (Kd.N k31 31 w90 w.heap.size (fun k_ => some k_ ≠ (.slice (some ad726) t718.length co85 : Value).ownBlock ∧ k_ ≠ gb727 ∧ k_ ≠ gb728) (.slice (some ad725) t715.length co82) t715) := ⟨h4_⟩
  have n5_ : Aside0 (Kd.N k31 31 w90 w.heap.size (fun k_ => k_ ≠ gb727 ∧ k_ ≠ gb728) (.slice (some ad726) t718.length co85) t718) := ⟨h5_⟩
  have n6_ : Aside0 (w90.heap[gb727]? = some (.cells #[.int .u32 0, .int .i64 0, .slice none 0 0, .int .i64 0, .int .i64 0, .slice none 0 0] 31 (0, 0))) := ⟨h6_⟩
  have n7_ : Aside0 (w90.heap[gb728]? = some (.cells #[.int .u32 0, .int .i64 0, .slice none 0 0, .int .i64 0, .int .i64 0, .slice none 0 0] 31 (0, 0))) := ⟨h7_⟩
  have n8_ : Aside0 (w.heap.size ≤ gb727) := ⟨h8_⟩
  have n9_ : Aside0 (w.heap.size ≤ gb727) := ⟨h9_⟩
  have n10_ : Aside0 (gb728 ≠ gb727) := ⟨h10_⟩
  have n11_ : Aside0 (gb727 ≠ gb728) := ⟨h11_⟩
  have n12_ : Aside0 (w.heap.size ≤ gb728) := ⟨h12_⟩
  have n13_ : Aside0 (w.heap.size ≤ gb728) := ⟨h13_⟩
  have n14_ : Aside0 (Below w.heap.size w w90) := ⟨h14_⟩
  clear HO717
  clear HO720
  clear HB
  clear h0_ h1_ h2_ h3_ h4_ h5_ h6_ h7_ h8_ h9_ h10_ h11_ h12_ h13_ h14_
  have HL725_2 := n0_
  have HL725_5 := n1_
  have HL726_2 := n2_
  have HL726_5 := n3_
  have HO717 := n4_
  have HO720 := n5_
  have BK727 := n6_
  have BK728 := n7_
  have GW727 := n8_
  have GE727 := n9_
  have NB728_727 := n10_
  have NB727_728 := n11_
  have GW728 := n12_
  have GE728 := n13_
  have HB := n14_
  clear n0_ n1_ n2_ n3_ n4_ n5_ n6_ n7_ n8_ n9_ n10_ n11_ n12_ n13_ n14_
  have hHeld : w90.cell? (ad725.add ((t721).toNat * 6)) = some (.int .u32 ((rd_T31 t715 t721).f0.f0)) ∧ w90.cell? ⟨(ad725.add ((t721).toNat * 6)).block, (ad725.add ((t721).toNat * 6)).off + 1, none⟩ = some (.int .i64 ((rd_T31 t715 t721).f0.f1)) ∧ w90.cell? ⟨(ad725.add ((t721).toNat * 6)).block, (ad725.add ((t721).toNat * 6)).off + 2, none⟩ = some (.slice A725_2 ((rd_T31 t715 t721).f1).length c725_2) ∧ w90.cell? ⟨(ad725.add ((t721).toNat * 6)).block, (ad725.add ((t721).toNat * 6)).off + 3, none⟩ = some (.int .i64 ((rd_T31 t715 t721).f2)) ∧ w90.cell? ⟨(ad725.add ((t721).toNat * 6)).block, (ad725.add ((t721).toNat * 6)).off + 4, none⟩ = some (.int .i64 ((rd_T31 t715 t721).f3)) ∧ w90.cell? ⟨(ad725.add ((t721).toNat * 6)).block, (ad725.add ((t721).toNat * 6)).off + 5, none⟩ = some (.slice A725_5 ((rd_T31 t715 t721).f4).length c725_5) ∧ w90.cell? (ad726.add ((t723).toNat * 6)) = some (.int .u32 ((rd_T31 t718 t723).f0.f0)) ∧ w90.cell? ⟨(ad726.add ((t723).toNat * 6)).block, (ad726.add ((t723).toNat * 6)).off + 1, none⟩ = some (.int .i64 ((rd_T31 t718 t723).f0.f1)) ∧ w90.cell? ⟨(ad726.add ((t723).toNat * 6)).block, (ad726.add ((t723).toNat * 6)).off + 2, none⟩ = some (.slice A726_2 ((rd_T31 t718 t723).f1).length c726_2) ∧ w90.cell? ⟨(ad726.add ((t723).toNat * 6)).block, (ad726.add ((t723).toNat * 6)).off + 3, none⟩ = some (.int .i64 ((rd_T31 t718 t723).f2)) ∧ w90.cell? ⟨(ad726.add ((t723).toNat * 6)).block, (ad726.add ((t723).toNat * 6)).off + 4, none⟩ = some (.int .i64 ((rd_T31 t718 t723).f3)) ∧ w90.cell? ⟨(ad726.add ((t723).toNat * 6)).block, (ad726.add ((t723).toNat * 6)).off + 5, none⟩ = some (.slice A726_5 ((rd_T31 t718 t723).f4).length c726_5) := hS_
  refine norm_ (a' := ?_) ?_ ?_
  rotate_left
  · simp only [putAll, Act.put, List.setIfInBounds_toArray, List.set_cons_zero, List.set_cons_succ]; rfl
  refine one_ (i := 10) (N := none) (bm 12 2047) rfl rfl (one_of HT_.out (by kernel_rfl)) (by decide) (fun K hK => ?_)
  have hs91 : w90.cell? ⟨gb727, 0, none⟩ = some (.int .u32 0) := zT BK727 0
  have hfs91 := blk_frozen BK727.out 0
  have hns91_1 := NB728_727.out
  have hms91_1 := NB727_728.out
  have hs92 : w90.cell? ⟨gb727, 1, none⟩ = some (.int .i64 0) := zT BK727 1
  have hfs92 := blk_frozen BK727.out 1
  have hns92_1 := NB728_727.out
  have hms92_1 := NB727_728.out
  have hs93 : w90.cell? ⟨gb727, 2, none⟩ = some (.slice none 0 0) := zT BK727 2
  have hfs93 := blk_frozen BK727.out 2
  have hns93_1 := NB728_727.out
  have hms93_1 := NB727_728.out
  have hs94 : w90.cell? ⟨gb727, 3, none⟩ = some (.int .i64 0) := zT BK727 3
  have hfs94 := blk_frozen BK727.out 3
  have hns94_1 := NB728_727.out
  have hms94_1 := NB727_728.out
  have hs95 : w90.cell? ⟨gb727, 4, none⟩ = some (.int .i64 0) := zT BK727 4
  have hfs95 := blk_frozen BK727.out 4
  have hns95_1 := NB728_727.out
  have hms95_1 := NB727_728.out
  have hs96 : w90.cell? ⟨gb727, 5, none⟩ = some (.slice none 0 0) := zT BK727 5
  have hfs96 := blk_frozen BK727.out 5
  have hns96_1 := NB728_727.out
  have hms96_1 := NB727_728.out
  refine skip_ (w1 := ?_) (by rfl) rfl ?_ ?_
  rotate_left
  · go_simp; rfl
  refine hK.out _ _ ⟨(by (iterate 6 refine (cell_far (p := ⟨gb727, _, none⟩) (by first | exact Kd.own_blk (Kd.N_away HO717.out (fun _ hk => hk.2.1)) | (rw [add_block]; exact Kd.own_blk (Kd.N_away HO717.out (fun _ hk => hk.2.1))) | (show (Addr.add _ _).block ≠ _; rw [add_block]; exact Kd.own_blk (Kd.N_away HO717.out (fun _ hk => hk.2.1))) | (dsimp only; exact Kd.own_blk (Kd.N_away HO717.out (fun _ hk => hk.2.1)))) _).trans ?_); exact hHeld.1), (by (iterate 6 refine (cell_far (p := ⟨gb727, _, none⟩) (by first | exact Kd.own_blk (Kd.N_away HO717.out (fun _ hk => hk.2.1)) | (rw [add_block]; exact Kd.own_blk (Kd.N_away HO717.out (fun _ hk => hk.2.1))) | (show (Addr.add _ _).block ≠ _; rw [add_block]; exact Kd.own_blk (Kd.N_away HO717.out (fun _ hk => hk.2.1))) | (dsimp only; exact Kd.own_blk (Kd.N_away HO717.out (fun _ hk => hk.2.1)))) _).trans ?_); exact hHeld.2.1), (by (iterate 6 refine (cell_far (p := ⟨gb727, _, none⟩) (by first | exact Kd.own_blk (Kd.N_away HO717.out (fun _ hk => hk.2.1)) | (rw [add_block]; exact Kd.own_blk (Kd.N_away HO717.out (fun _ hk => hk.2.1))) | (show (Addr.add _ _).block ≠ _; rw [add_block]; exact Kd.own_blk (Kd.N_away HO717.out (fun _ hk => hk.2.1))) | (dsimp only; exact Kd.own_blk (Kd.N_away HO717.out (fun _ hk => hk.2.1)))) _).trans ?_); exact hHeld.2.2.1), (by (iterate 6 refine (cell_far (p := ⟨gb727, _, none⟩) (by first | exact Kd.own_blk (Kd.N_away HO717.out (fun _ hk => hk.2.1)) | (rw [add_block]; exact Kd.own_blk (Kd.N_away HO717.out (fun _ hk => hk.2.1))) | (show (Addr.add _ _).block ≠ _; rw [add_block]; exact Kd.own_blk (Kd.N_away HO717.out (fun _ hk => hk.2.1))) | (dsimp only; exact Kd.own_blk (Kd.N_away HO717.out (fun _ hk => hk.2.1)))) _).trans ?_); exact hHeld.2.2.2.1), (by (iterate 6 refine (cell_far (p := ⟨gb727, _, none⟩) (by first | exact Kd.own_blk (Kd.N_away HO717.out (fun _ hk => hk.2.1)) | (rw [add_block]; exact Kd.own_blk (Kd.N_away HO717.out (fun _ hk => hk.2.1))) | (show (Addr.add _ _).block ≠ _; rw [add_block]; exact Kd.own_blk (Kd.N_away HO717.out (fun _ hk => hk.2.1))) | (dsimp only; exact Kd.own_blk (Kd.N_away HO717.out (fun _ hk => hk.2.1)))) _).trans ?_); exact hHeld.2.2.2.2.1), (by (iterate 6 refine (cell_far (p := ⟨gb727, _, none⟩) (by first | exact Kd.own_blk (Kd.N_away HO717.out (fun _ hk => hk.2.1)) | (rw [add_block]; exact Kd.own_blk (Kd.N_away HO717.out (fun _ hk => hk.2.1))) | (show (Addr.add _ _).block ≠ _; rw [add_block]; exact Kd.own_blk (Kd.N_away HO717.out (fun _ hk => hk.2.1))) | (dsimp only; exact Kd.own_blk (Kd.N_away HO717.out (fun _ hk => hk.2.1)))) _).trans ?_); exact hHeld.2.2.2.2.2.1), (by (iterate 6 refine (cell_far (p := ⟨gb727, _, none⟩) (by first | exact Kd.own_blk (Kd.N_away HO720.out (fun _ hk => hk.1)) | (rw [add_block]; exact Kd.own_blk (Kd.N_away HO720.out (fun _ hk => hk.1))) | (show (Addr.add _ _).block ≠ _; rw [add_block]; exact Kd.own_blk (Kd.N_away HO720.out (fun _ hk => hk.1))) | (dsimp only; exact Kd.own_blk (Kd.N_away HO720.out (fun _ hk => hk.1)))) _).trans ?_); exact hHeld.2.2.2.2.2.2.1), (by (iterate 6 refine (cell_far (p := ⟨gb727, _, none⟩) (by first | exact Kd.own_blk (Kd.N_away HO720.out (fun _ hk => hk.1)) | (rw [add_block]; exact Kd.own_blk (Kd.N_away HO720.out (fun _ hk => hk.1))) | (show (Addr.add _ _).block ≠ _; rw [add_block]; exact Kd.own_blk (Kd.N_away HO720.out (fun _ hk => hk.1))) | (dsimp only; exact Kd.own_blk (Kd.N_away HO720.out (fun _ hk => hk.1)))) _).trans ?_); exact hHeld.2.2.2.2.2.2.2.1), (by (iterate 6 refine (cell_far (p := ⟨gb727, _, none⟩) (by first | exact Kd.own_blk (Kd.N_away HO720.out (fun _ hk => hk.1)) | (rw [add_block]; exact Kd.own_blk (Kd.N_away HO720.out (fun _ hk => hk.1))) | (show (Addr.add _ _).block ≠ _; rw [add_block]; exact Kd.own_blk (Kd.N_away HO720.out (fun _ hk => hk.1))) | (dsimp only; exact Kd.own_blk (Kd.N_away HO720.out (fun _ hk => hk.1)))) _).trans ?_); exact hHeld.2.2.2.2.2.2.2.2.1), (by (iterate 6 refine (cell_far (p := ⟨gb727, _, none⟩) (by first | exact Kd.own_blk (Kd.N_away HO720.out (fun _ hk => hk.1)) | (rw [add_block]; exact Kd.own_blk (Kd.N_away HO720.out (fun _ hk => hk.1))) | (show (Addr.add _ _).block ≠ _; rw [add_block]; exact Kd.own_blk (Kd.N_away HO720.out (fun _ hk => hk.1))) | (dsimp only; exact Kd.own_blk (Kd.N_away HO720.out (fun _ hk => hk.1)))) _).trans ?_); exact hHeld.2.2.2.2.2.2.2.2.2.1), (by (iterate 6 refine (cell_far (p := ⟨gb727, _, none⟩) (by first | exact Kd.own_blk (Kd.N_away HO720.out (fun _ hk => hk.1)) | (rw [add_block]; exact Kd.own_blk (Kd.N_away HO720.out (fun _ hk => hk.1))) | (show (Addr.add _ _).block ≠ _; rw [add_block]; exact Kd.own_blk (Kd.N_away HO720.out (fun _ hk => hk.1))) | (dsimp only; exact Kd.own_blk (Kd.N_away HO720.out (fun _ hk => hk.1)))) _).trans ?_); exact hHeld.2.2.2.2.2.2.2.2.2.2.1), (by (iterate 6 refine (cell_far (p := ⟨gb727, _, none⟩) (by first | exact Kd.own_blk (Kd.N_away HO720.out (fun _ hk => hk.1)) | (rw [add_block]; exact Kd.own_blk (Kd.N_away HO720.out (fun _ hk => hk.1))) | (show (Addr.add _ _).block ≠ _; rw [add_block]; exact Kd.own_blk (Kd.N_away HO720.out (fun _ hk => hk.1))) | (dsimp only; exact Kd.own_blk (Kd.N_away HO720.out (fun _ hk => hk.1)))) _).trans ?_); exact hHeld.2.2.2.2.2.2.2.2.2.2.2)⟩ (fun hHeld => ?_)
  clear hK K
  refine one_ (i := 11) (N := none) (bm 12 4095) rfl rfl (one_of HT_.out (by kernel_rfl)) (by decide) (fun K hK => ?_)
  have hs97 : w90.cell? ⟨gb728, 0, none⟩ = some (.int .u32 0) := zT BK728 0
  have hfs97 := blk_frozen BK728.out 0
  have hns97_0 := NB727_728.out
  have hms97_0 := NB728_727.out
  have hs98 : w90.cell? ⟨gb728, 1, none⟩ = some (.int .i64 0) := zT BK728 1
  have hfs98 := blk_frozen BK728.out 1
  have hns98_0 := NB727_728.out
  have hms98_0 := NB728_727.out
  have hs99 : w90.cell? ⟨gb728, 2, none⟩ = some (.slice none 0 0) := zT BK728 2
  have hfs99 := blk_frozen BK728.out 2
  have hns99_0 := NB727_728.out
  have hms99_0 := NB728_727.out
  have hs100 : w90.cell? ⟨gb728, 3, none⟩ = some (.int .i64 0) := zT BK728 3
  have hfs100 := blk_frozen BK728.out 3
  have hns100_0 := NB727_728.out
  have hms100_0 := NB728_727.out
  have hs101 : w90.cell? ⟨gb728, 4, none⟩ = some (.int .i64 0) := zT BK728 4
  have hfs101 := blk_frozen BK728.out 4
  have hns101_0 := NB727_728.out
  have hms101_0 := NB728_727.out
  have hs102 : w90.cell? ⟨gb728, 5, none⟩ = some (.slice none 0 0) := zT BK728 5
  have hfs102 := blk_frozen BK728.out 5
  have hns102_0 := NB727_728.out
  have hms102_0 := NB728_727.out
  refine skip_ (w1 := ?_) (by rfl) rfl ?_ ?_
  rotate_left
  · go_simp; rfl
  refine hK.out _ _ ⟨(by (iterate 6 refine (cell_far (p := ⟨gb728, _, none⟩) (by first | exact Kd.own_blk (Kd.N_away HO717.out (fun _ hk => hk.2.2)) | (rw [add_block]; exact Kd.own_blk (Kd.N_away HO717.out (fun _ hk => hk.2.2))) | (show (Addr.add _ _).block ≠ _; rw [add_block]; exact Kd.own_blk (Kd.N_away HO717.out (fun _ hk => hk.2.2))) | (dsimp only; exact Kd.own_blk (Kd.N_away HO717.out (fun _ hk => hk.2.2)))) _).trans ?_); exact hHeld.1), (by (iterate 6 refine (cell_far (p := ⟨gb728, _, none⟩) (by first | exact Kd.own_blk (Kd.N_away HO717.out (fun _ hk => hk.2.2)) | (rw [add_block]; exact Kd.own_blk (Kd.N_away HO717.out (fun _ hk => hk.2.2))) | (show (Addr.add _ _).block ≠ _; rw [add_block]; exact Kd.own_blk (Kd.N_away HO717.out (fun _ hk => hk.2.2))) | (dsimp only; exact Kd.own_blk (Kd.N_away HO717.out (fun _ hk => hk.2.2)))) _).trans ?_); exact hHeld.2.1), (by (iterate 6 refine (cell_far (p := ⟨gb728, _, none⟩) (by first | exact Kd.own_blk (Kd.N_away HO717.out (fun _ hk => hk.2.2)) | (rw [add_block]; exact Kd.own_blk (Kd.N_away HO717.out (fun _ hk => hk.2.2))) | (show (Addr.add _ _).block ≠ _; rw [add_block]; exact Kd.own_blk (Kd.N_away HO717.out (fun _ hk => hk.2.2))) | (dsimp only; exact Kd.own_blk (Kd.N_away HO717.out (fun _ hk => hk.2.2)))) _).trans ?_); exact hHeld.2.2.1), (by (iterate 6 refine (cell_far (p := ⟨gb728, _, none⟩) (by first | exact Kd.own_blk (Kd.N_away HO717.out (fun _ hk => hk.2.2)) | (rw [add_block]; exact Kd.own_blk (Kd.N_away HO717.out (fun _ hk => hk.2.2))) | (show (Addr.add _ _).block ≠ _; rw [add_block]; exact Kd.own_blk (Kd.N_away HO717.out (fun _ hk => hk.2.2))) | (dsimp only; exact Kd.own_blk (Kd.N_away HO717.out (fun _ hk => hk.2.2)))) _).trans ?_); exact hHeld.2.2.2.1), (by (iterate 6 refine (cell_far (p := ⟨gb728, _, none⟩) (by first | exact Kd.own_blk (Kd.N_away HO717.out (fun _ hk => hk.2.2)) | (rw [add_block]; exact Kd.own_blk (Kd.N_away HO717.out (fun _ hk => hk.2.2))) | (show (Addr.add _ _).block ≠ _; rw [add_block]; exact Kd.own_blk (Kd.N_away HO717.out (fun _ hk => hk.2.2))) | (dsimp only; exact Kd.own_blk (Kd.N_away HO717.out (fun _ hk => hk.2.2)))) _).trans ?_); exact hHeld.2.2.2.2.1), (by (iterate 6 refine (cell_far (p := ⟨gb728, _, none⟩) (by first | exact Kd.own_blk (Kd.N_away HO717.out (fun _ hk => hk.2.2)) | (rw [add_block]; exact Kd.own_blk (Kd.N_away HO717.out (fun _ hk => hk.2.2))) | (show (Addr.add _ _).block ≠ _; rw [add_block]; exact Kd.own_blk (Kd.N_away HO717.out (fun _ hk => hk.2.2))) | (dsimp only; exact Kd.own_blk (Kd.N_away HO717.out (fun _ hk => hk.2.2)))) _).trans ?_); exact hHeld.2.2.2.2.2.1), (by (iterate 6 refine (cell_far (p := ⟨gb728, _, none⟩) (by first | exact Kd.own_blk (Kd.N_away HO720.out (fun _ hk => hk.2)) | (rw [add_block]; exact Kd.own_blk (Kd.N_away HO720.out (fun _ hk => hk.2))) | (show (Addr.add _ _).block ≠ _; rw [add_block]; exact Kd.own_blk (Kd.N_away HO720.out (fun _ hk => hk.2))) | (dsimp only; exact Kd.own_blk (Kd.N_away HO720.out (fun _ hk => hk.2)))) _).trans ?_); exact hHeld.2.2.2.2.2.2.1), (by (iterate 6 refine (cell_far (p := ⟨gb728, _, none⟩) (by first | exact Kd.own_blk (Kd.N_away HO720.out (fun _ hk => hk.2)) | (rw [add_block]; exact Kd.own_blk (Kd.N_away HO720.out (fun _ hk => hk.2))) | (show (Addr.add _ _).block ≠ _; rw [add_block]; exact Kd.own_blk (Kd.N_away HO720.out (fun _ hk => hk.2))) | (dsimp only; exact Kd.own_blk (Kd.N_away HO720.out (fun _ hk => hk.2)))) _).trans ?_); exact hHeld.2.2.2.2.2.2.2.1), (by (iterate 6 refine (cell_far (p := ⟨gb728, _, none⟩) (by first | exact Kd.own_blk (Kd.N_away HO720.out (fun _ hk => hk.2)) | (rw [add_block]; exact Kd.own_blk (Kd.N_away HO720.out (fun _ hk => hk.2))) | (show (Addr.add _ _).block ≠ _; rw [add_block]; exact Kd.own_blk (Kd.N_away HO720.out (fun _ hk => hk.2))) | (dsimp only; exact Kd.own_blk (Kd.N_away HO720.out (fun _ hk => hk.2)))) _).trans ?_); exact hHeld.2.2.2.2.2.2.2.2.1), (by (iterate 6 refine (cell_far (p := ⟨gb728, _, none⟩) (by first | exact Kd.own_blk (Kd.N_away HO720.out (fun _ hk => hk.2)) | (rw [add_block]; exact Kd.own_blk (Kd.N_away HO720.out (fun _ hk => hk.2))) | (show (Addr.add _ _).block ≠ _; rw [add_block]; exact Kd.own_blk (Kd.N_away HO720.out (fun _ hk => hk.2))) | (dsimp only; exact Kd.own_blk (Kd.N_away HO720.out (fun _ hk => hk.2)))) _).trans ?_); exact hHeld.2.2.2.2.2.2.2.2.2.1), (by (iterate 6 refine (cell_far (p := ⟨gb728, _, none⟩) (by first | exact Kd.own_blk (Kd.N_away HO720.out (fun _ hk => hk.2)) | (rw [add_block]; exact Kd.own_blk (Kd.N_away HO720.out (fun _ hk => hk.2))) | (show (Addr.add _ _).block ≠ _; rw [add_block]; exact Kd.own_blk (Kd.N_away HO720.out (fun _ hk => hk.2))) | (dsimp only; exact Kd.own_blk (Kd.N_away HO720.out (fun _ hk => hk.2)))) _).trans ?_); exact hHeld.2.2.2.2.2.2.2.2.2.2.1), (by (iterate 6 refine (cell_far (p := ⟨gb728, _, none⟩) (by first | exact Kd.own_blk (Kd.N_away HO720.out (fun _ hk => hk.2)) | (rw [add_block]; exact Kd.own_blk (Kd.N_away HO720.out (fun _ hk => hk.2))) | (show (Addr.add _ _).block ≠ _; rw [add_block]; exact Kd.own_blk (Kd.N_away HO720.out (fun _ hk => hk.2))) | (dsimp only; exact Kd.own_blk (Kd.N_away HO720.out (fun _ hk => hk.2)))) _).trans ?_); exact hHeld.2.2.2.2.2.2.2.2.2.2.2)⟩ (fun hHeld => ?_)
  clear hK K
  refine done_ (done_of HT_.out (by kernel_rfl)) ?_
  have hnb103 := NB727_728.out
  have hnc103 := NB728_727.out
  have hcz104_0 : w90.cell? ⟨gb727, 0, none⟩ = some (.int .u32 0) := zT BK727 0
  have hcz104_1 : w90.cell? ⟨gb727, 1, none⟩ = some (.int .i64 0) := zT BK727 1
  have hcz104_2 : w90.cell? ⟨gb727, 2, none⟩ = some (.slice none 0 0) := zT BK727 2
  have hcz104_3 : w90.cell? ⟨gb727, 3, none⟩ = some (.int .i64 0) := zT BK727 3
  have hcz104_4 : w90.cell? ⟨gb727, 4, none⟩ = some (.int .i64 0) := zT BK727 4
  have hcz104_5 : w90.cell? ⟨gb727, 5, none⟩ = some (.slice none 0 0) := zT BK727 5
  have hfz104_0 := blk_frozen BK727.out 0
  have hfz104_1 := blk_frozen BK727.out 1
  have hfz104_2 := blk_frozen BK727.out 2
  have hfz104_3 := blk_frozen BK727.out 3
  have hfz104_4 := blk_frozen BK727.out 4
  have hfz104_5 := blk_frozen BK727.out 5
  have hcz105_0 : w90.cell? ⟨gb728, 0, none⟩ = some (.int .u32 0) := zT BK728 0
  have hcz105_1 : w90.cell? ⟨gb728, 1, none⟩ = some (.int .i64 0) := zT BK728 1
  have hcz105_2 : w90.cell? ⟨gb728, 2, none⟩ = some (.slice none 0 0) := zT BK728 2
  have hcz105_3 : w90.cell? ⟨gb728, 3, none⟩ = some (.int .i64 0) := zT BK728 3
  have hcz105_4 : w90.cell? ⟨gb728, 4, none⟩ = some (.int .i64 0) := zT BK728 4
  have hcz105_5 : w90.cell? ⟨gb728, 5, none⟩ = some (.slice none 0 0) := zT BK728 5
  have hfz105_0 := blk_frozen BK728.out 0
  have hfz105_1 := blk_frozen BK728.out 1
  have hfz105_2 := blk_frozen BK728.out 2
  have hfz105_3 := blk_frozen BK728.out 3
  have hfz105_4 := blk_frozen BK728.out 4
  have hfz105_5 := blk_frozen BK728.out 5
  try go_wp2
  go_ret
  exact ⟨zE, zB⟩
 rw [if_pos c52] at H
 have c52b0 : (((rd_T31 t715 t721).f3) == ((rd_T31 t718 t723).f3)) = true := beq_iff_eq.mpr c52
 have c52b1 : (((rd_T31 t715 t721).f3) != ((rd_T31 t718 t723).f3)) = false := bne_eq_false_iff_eq.mpr c52
 clear c52
 replace H := Option.bind_eq_some_iff.mp H
 obtain ⟨t729, A530, H⟩ := H
 replace H : (some t729) = some r := H
 have A53 := Aside0.mk A530
 clear A530
 obtain rfl := Option.some.inj H
 go_enter Tryd.func3, Tryd.ntmps3
 try go_wp2_with (first | ((with_reducible refine gate_callee (f := 6) rfl ?_); refine goesL_ (some 12) rfl rfl Tryd.func6 (by kernel_rfl) rfl #[] rfl zM ?_; (with_reducible refine (g14_.calls k  true _ A3.out).mono ?_); rintro e w54 ⟨rfl, hb⟩; refine ⟨_, rfl, ?_⟩; have n0_ := Aside0.mk (below_step zB hb); clear HB; have HB := n0_; clear n0_; (try clear hb); (try clear hb2); (try clear hk); (try clear hi)) | ((with_reducible refine gate_callee (f := 7) rfl ?_); refine goesL_ (some 15) rfl rfl Tryd.func7 (by kernel_rfl) rfl #[.slice A0 l0.length c0, .int .i64 5] rfl zM ?_; (with_reducible refine (g9_.calls k _ _ l0 5 t715 _ ?side1 ?side2 ?side3 ?side4 A5.out).mono ?_); (case side1 => exact zC HR0 HB); (case side2 => exact HC0.out); (case side3 => exact (Below.cell zB (World.block_lt_of_cell? w _ GL0_0.out)).trans GL0_0.out); (case side4 => exact (Below.cell zB (World.block_lt_of_cell? w _ GL0_1.out)).trans GL0_1.out); rintro e w55 ⟨v716, rfl, ho0, hb⟩; refine ⟨_, rfl, ?_⟩; have n0_ := Aside0.mk (Kd.N_lower (Kd.N_mono (ok' := fun k_ => True) (Kd.S_N (Kd.S_bound ho0)) (fun k_ hk_ => trivial)) (below_size zB)); have n1_ := Aside0.mk (below_step zB hb); clear HB; have HO717 := n0_; have HB := n1_; clear n0_ n1_; (try clear hb); (try clear hb2); (try clear hk); (try clear hi); (try clear ho0); obtain ⟨Ao56, co56, eo56⟩ := Kd.N_slice HO717.out; subst eo56) | ((with_reducible refine gate_callee (f := 8) rfl ?_); refine goesL_ (some 21) rfl rfl Tryd.func8 (by kernel_rfl) rfl #[.slice Ao56 t715.length co56, .slice A1 l1.length c1] rfl zM ?_; (with_reducible refine (g1_.calls k (fun k_ => True) _ _ t715 _ _ l1 t718 _ ?side1 ?side2 ?side3 A10.out).mono ?_); (case side1 => exact Kd.N_V (HO717.out)); (case side2 => exact zC HR1 HB); (case side3 => exact HC1.out); rintro e w57 ⟨v719, rfl, ho0, hb⟩; refine ⟨_, rfl, ?_⟩; have n0_ := Aside0.mk (Kd.N_elder' (by (with_reducible repeat (first | apply Kd.N_alloc | apply Kd.N_drewN | apply Kd.N_drew)); exact HO717.out) (Kd.N_base ho0) hb); have n1_ := Aside0.mk (Kd.N_lower (Kd.N_mono (ok' := fun k_ => True) ho0 (fun k_ hk_ => trivial)) (below_size zB)); have n2_ := Aside0.mk (below_step zB hb); clear HO717; clear HB; have HO717 := n0_; have HO720 := n1_; have HB := n2_; clear n0_ n1_ n2_; (try clear hb); (try clear hb2); (try clear hk); (try clear hi); (try clear ho0)) | ((with_reducible refine gate_callee (f := 9) rfl ?_); refine goesL_ (some 24) rfl rfl Tryd.func9 (by kernel_rfl) rfl #[.slice Ao56 t715.length co56] rfl zM ?_; (with_reducible refine (best_Choose.calls k _ _ t715 t721 t722 _ ?side1 ?side2 A11.out).mono ?_); (case side1 => repeat (first | exact (Kd.N_reads' HO717.out).2.2 | (with_reducible refine Kd.C_alloc ?_ _) | (with_reducible refine Kd.C_drewN ?_ _) | (with_reducible refine Kd.C_drew ?_))); (case side2 => exact (Kd.N_reads' HO717.out).2.1); rintro e w58 ⟨rfl, hb⟩; refine ⟨_, rfl, ?_⟩; have n0_ := Aside0.mk (Kd.N_below (by (with_reducible repeat (first | apply Kd.N_alloc | apply Kd.N_drewN | apply Kd.N_drew)); exact HO717.out) hb); have n1_ := Aside0.mk (Kd.N_below (by (with_reducible repeat (first | apply Kd.N_alloc | apply Kd.N_drewN | apply Kd.N_drew)); exact HO720.out) hb); have n2_ := Aside0.mk (below_step zB hb); clear HO717; clear HO720; clear HB; have HO717 := n0_; have HO720 := n1_; have HB := n2_; clear n0_ n1_ n2_; (try clear hb); (try clear hb2); (try clear hk); (try clear hi); obtain ⟨Ao59, co59, eo59⟩ := Kd.N_slice HO720.out; subst eo59) | ((with_reducible refine gate_callee (f := 9) rfl ?_); refine goesL_ (some 29) rfl rfl Tryd.func9 (by kernel_rfl) rfl #[.slice Ao59 t718.length co59] rfl zM ?_; (with_reducible refine (best_Choose.calls k _ _ t718 t723 t724 _ ?side1 ?side2 A12.out).mono ?_); (case side1 => repeat (first | exact (Kd.N_reads' HO720.out).2.2 | (with_reducible refine Kd.C_alloc ?_ _) | (with_reducible refine Kd.C_drewN ?_ _) | (with_reducible refine Kd.C_drew ?_))); (case side2 => exact (Kd.N_reads' HO720.out).2.1); rintro e w60 ⟨rfl, hb⟩; refine ⟨_, rfl, ?_⟩; have n0_ := Aside0.mk (Kd.N_below (by (with_reducible repeat (first | apply Kd.N_alloc | apply Kd.N_drewN | apply Kd.N_drew)); exact HO717.out) hb); have n1_ := Aside0.mk (Kd.N_below (by (with_reducible repeat (first | apply Kd.N_alloc | apply Kd.N_drewN | apply Kd.N_drew)); exact HO720.out) hb); have n2_ := Aside0.mk (below_step zB hb); clear HO717; clear HO720; clear HB; have HO717 := n0_; have HO720 := n1_; have HB := n2_; clear n0_ n1_ n2_; (try clear hb); (try clear hb2); (try clear hk); (try clear hi)))
 have n0_ := Aside0.mk (Kd.N_drew HO717.out)
 have n1_ := Aside0.mk (Kd.N_drew HO720.out)
 have n2_ := Aside0.mk (below_drew1 HB.out)
 clear HO717
 clear HO720
 clear HB
 have HO717 := n0_
 have HO720 := n1_
 have HB := n2_
 clear n0_ n1_ n2_
 have p725 : 0 ≤ (t721 : Int) := od
 have q725 : t721 < (t715.length : Int) := od
 obtain ⟨ad725, A725_2, c725_2, A725_5, c725_5, e725, hx725_0, hx725_1, hx725_2, hx725_3, hx725_4, hx725_5, hl725_2, hi725_2, hl725_5, hi725_5⟩ := at_T31 (Kd.N_reads' HO717.out).2.2 t721 p725 q725
 cases e725
 obtain ⟨ce725, hce725, hMe725, hcc725⟩ := Kd.N_get HO717.out z31 t721 p725 (by first | exact q725 | exact od | (have e_ := (Kd.N_reads' HO717.out).1; omega))
 obtain ⟨ua725_2, uc725_2, ua725_5, uc725_5, rfl, ul725_2, ge725_2, ul725_5, ge725_5⟩ := k31_openF hMe725
 have hv725_2 := hcc725 2 _ rfl
 rw [add_field _ _ 2 (by omega)] at hv725_2
 replace hv725_2 := Option.some.inj (hv725_2.symm.trans hx725_2)
 injection hv725_2 with hva_ hvn_ hvc_
 rw [hva_] at ge725_2
 rw [hvc_] at ul725_2
 have HL725_2 := Aside0.mk (show Kd.V (Kd.int .i64) 3 _ w.heap.size _ _ ((rd_T31 t715 t721).f1) from Kd.V_mk ul725_2 ge725_2)
 clear hva_ hvn_ hvc_ ge725_2 ul725_2
 have hv725_5 := hcc725 5 _ rfl
 rw [add_field _ _ 5 (by omega)] at hv725_5
 replace hv725_5 := Option.some.inj (hv725_5.symm.trans hx725_5)
 injection hv725_5 with hva_ hvn_ hvc_
 rw [hva_] at ge725_5
 rw [hvc_] at ul725_5
 have HL725_5 := Aside0.mk (show Kd.V (Kd.int .i64) 3 _ w.heap.size _ _ ((rd_T31 t715 t721).f4) from Kd.V_mk ul725_5 ge725_5)
 clear hva_ hvn_ hvc_ ge725_5 ul725_5
 clear hcc725 hce725
 have HR725_2 := Aside0.mk hi725_2
 have HC725_2 := Aside0.mk hl725_2
 clear hi725_2 hl725_2
 have HR725_5 := Aside0.mk hi725_5
 have HC725_5 := Aside0.mk hl725_5
 clear hi725_5 hl725_5
 replace p725 := eq_true p725
 replace q725 := eq_true q725
 have p726 : 0 ≤ (t723 : Int) := od
 have q726 : t723 < (t718.length : Int) := od
 obtain ⟨ad726, A726_2, c726_2, A726_5, c726_5, e726, hx726_0, hx726_1, hx726_2, hx726_3, hx726_4, hx726_5, hl726_2, hi726_2, hl726_5, hi726_5⟩ := at_T31 (Kd.N_reads' HO720.out).2.2 t723 p726 q726
 cases e726
 obtain ⟨ce726, hce726, hMe726, hcc726⟩ := Kd.N_get HO720.out z31 t723 p726 (by first | exact q726 | exact od | (have e_ := (Kd.N_reads' HO720.out).1; omega))
 obtain ⟨ua726_2, uc726_2, ua726_5, uc726_5, rfl, ul726_2, ge726_2, ul726_5, ge726_5⟩ := k31_openF hMe726
 have hv726_2 := hcc726 2 _ rfl
 rw [add_field _ _ 2 (by omega)] at hv726_2
 replace hv726_2 := Option.some.inj (hv726_2.symm.trans hx726_2)
 injection hv726_2 with hva_ hvn_ hvc_
 rw [hva_] at ge726_2
 rw [hvc_] at ul726_2
 have HL726_2 := Aside0.mk (show Kd.V (Kd.int .i64) 3 _ w.heap.size _ _ ((rd_T31 t718 t723).f1) from Kd.V_mk ul726_2 ge726_2)
 clear hva_ hvn_ hvc_ ge726_2 ul726_2
 have hv726_5 := hcc726 5 _ rfl
 rw [add_field _ _ 5 (by omega)] at hv726_5
 replace hv726_5 := Option.some.inj (hv726_5.symm.trans hx726_5)
 injection hv726_5 with hva_ hvn_ hvc_
 rw [hva_] at ge726_5
 rw [hvc_] at ul726_5
 have HL726_5 := Aside0.mk (show Kd.V (Kd.int .i64) 3 _ w.heap.size _ _ ((rd_T31 t718 t723).f4) from Kd.V_mk ul726_5 ge726_5)
 clear hva_ hvn_ hvc_ ge726_5 ul726_5
 clear hcc726 hce726
 have HR726_2 := Aside0.mk hi726_2
 have HC726_2 := Aside0.mk hl726_2
 clear hi726_2 hl726_2
 have HR726_5 := Aside0.mk hi726_5
 have HC726_5 := Aside0.mk hl726_5
 clear hi726_5 hl726_5
 replace p726 := eq_true p726
 replace q726 := eq_true q726
 refine start_ (n := 12) (S := fun w' => w'.cell? (ad725.add ((t721).toNat * 6)) = some (.int .u32 ((rd_T31 t715 t721).f0.f0)) ∧ w'.cell? ⟨(ad725.add ((t721).toNat * 6)).block, (ad725.add ((t721).toNat * 6)).off + 1, none⟩ = some (.int .i64 ((rd_T31 t715 t721).f0.f1)) ∧ w'.cell? ⟨(ad725.add ((t721).toNat * 6)).block, (ad725.add ((t721).toNat * 6)).off + 2, none⟩ = some (.slice A725_2 ((rd_T31 t715 t721).f1).length c725_2) ∧ w'.cell? ⟨(ad725.add ((t721).toNat * 6)).block, (ad725.add ((t721).toNat * 6)).off + 3, none⟩ = some (.int .i64 ((rd_T31 t715 t721).f2)) ∧ w'.cell? ⟨(ad725.add ((t721).toNat * 6)).block, (ad725.add ((t721).toNat * 6)).off + 4, none⟩ = some (.int .i64 ((rd_T31 t715 t721).f3)) ∧ w'.cell? ⟨(ad725.add ((t721).toNat * 6)).block, (ad725.add ((t721).toNat * 6)).off + 5, none⟩ = some (.slice A725_5 ((rd_T31 t715 t721).f4).length c725_5) ∧ w'.cell? (ad726.add ((t723).toNat * 6)) = some (.int .u32 ((rd_T31 t718 t723).f0.f0)) ∧ w'.cell? ⟨(ad726.add ((t723).toNat * 6)).block, (ad726.add ((t723).toNat * 6)).off + 1, none⟩ = some (.int .i64 ((rd_T31 t718 t723).f0.f1)) ∧ w'.cell? ⟨(ad726.add ((t723).toNat * 6)).block, (ad726.add ((t723).toNat * 6)).off + 2, none⟩ = some (.slice A726_2 ((rd_T31 t718 t723).f1).length c726_2) ∧ w'.cell? ⟨(ad726.add ((t723).toNat * 6)).block, (ad726.add ((t723).toNat * 6)).off + 3, none⟩ = some (.int .i64 ((rd_T31 t718 t723).f2)) ∧ w'.cell? ⟨(ad726.add ((t723).toNat * 6)).block, (ad726.add ((t723).toNat * 6)).off + 4, none⟩ = some (.int .i64 ((rd_T31 t718 t723).f3)) ∧ w'.cell? ⟨(ad726.add ((t723).toNat * 6)).block, (ad726.add ((t723).toNat * 6)).off + 5, none⟩ = some (.slice A726_5 ((rd_T31 t718 t723).f4).length c726_5)) (ds := []) (bm 12 0) (by kernel_rfl) rfl rfl ⟨hx725_0, hx725_1, hx725_2, hx725_3, hx725_4, hx725_5, hx726_0, hx726_1, hx726_2, hx726_3, hx726_4, hx726_5⟩ (fun hHeld => ?_); refine with_tabW g13_.tab11 g13_.bits11 (fun HT_ HW_ => ?_)
 generalize w60.drew = w61 at HO717 HO720 HB HL725_2 HL725_5 HL726_2 HL726_5 HR725_2 HR725_5 HR726_2 HR726_5 hx725_0 hx725_1 hx725_2 hx725_3 hx725_4 hx725_5 hx726_0 hx726_1 hx726_2 hx726_3 hx726_4 hx726_5 hHeld ⊢
 refine pu 0 (some 58) (bm 12 1) HT_ ?_
 refine pu 1 (some 59) (bm 12 3) HT_ ?_
 refine pu 2 (some 60) (bm 12 7) HT_ ?_
 refine pu 4 (some 62) (bm 12 23) HT_ ?_
 refine pu 5 (some 63) (bm 12 55) HT_ ?_
 refine pu 6 (some 64) (bm 12 119) HT_ ?_
 refine tk 3 (some 61) (bm 12 127) HT_ HW_ hHeld ?_
 refine tk 7 (some 65) (bm 12 255) HT_ HW_ hHeld ?_
 refine join_ (σ := Nat × Nat) 2 (bm 12 1023) (fun s_ => [(10, .pointer (some ⟨s_.1, 0, none⟩)), (11, .pointer (some ⟨s_.2, 0, none⟩))]) (fun s_ w' => (w'.cell? (ad725.add ((t721).toNat * 6)) = some (.int .u32 ((rd_T31 t715 t721).f0.f0)) ∧ w'.cell? ⟨(ad725.add ((t721).toNat * 6)).block, (ad725.add ((t721).toNat * 6)).off + 1, none⟩ = some (.int .i64 ((rd_T31 t715 t721).f0.f1)) ∧ w'.cell? ⟨(ad725.add ((t721).toNat * 6)).block, (ad725.add ((t721).toNat * 6)).off + 2, none⟩ = some (.slice A725_2 ((rd_T31 t715 t721).f1).length c725_2) ∧ w'.cell? ⟨(ad725.add ((t721).toNat * 6)).block, (ad725.add ((t721).toNat * 6)).off + 3, none⟩ = some (.int .i64 ((rd_T31 t715 t721).f2)) ∧ w'.cell? ⟨(ad725.add ((t721).toNat * 6)).block, (ad725.add ((t721).toNat * 6)).off + 4, none⟩ = some (.int .i64 ((rd_T31 t715 t721).f3)) ∧ w'.cell? ⟨(ad725.add ((t721).toNat * 6)).block, (ad725.add ((t721).toNat * 6)).off + 5, none⟩ = some (.slice A725_5 ((rd_T31 t715 t721).f4).length c725_5) ∧ w'.cell? (ad726.add ((t723).toNat * 6)) = some (.int .u32 ((rd_T31 t718 t723).f0.f0)) ∧ w'.cell? ⟨(ad726.add ((t723).toNat * 6)).block, (ad726.add ((t723).toNat * 6)).off + 1, none⟩ = some (.int .i64 ((rd_T31 t718 t723).f0.f1)) ∧ w'.cell? ⟨(ad726.add ((t723).toNat * 6)).block, (ad726.add ((t723).toNat * 6)).off + 2, none⟩ = some (.slice A726_2 ((rd_T31 t718 t723).f1).length c726_2) ∧ w'.cell? ⟨(ad726.add ((t723).toNat * 6)).block, (ad726.add ((t723).toNat * 6)).off + 3, none⟩ = some (.int .i64 ((rd_T31 t718 t723).f2)) ∧ w'.cell? ⟨(ad726.add ((t723).toNat * 6)).block, (ad726.add ((t723).toNat * 6)).off + 4, none⟩ = some (.int .i64 ((rd_T31 t718 t723).f3)) ∧ w'.cell? ⟨(ad726.add ((t723).toNat * 6)).block, (ad726.add ((t723).toNat * 6)).off + 5, none⟩ = some (.slice A726_5 ((rd_T31 t718 t723).f4).length c726_5)) ∧ (Kd.V (Kd.int .i64) 3 w' w.heap.size (fun k_ => some k_ ≠ (.slice (some ad725) t715.length co56 : Value).ownBlock ∧ some k_ ≠ (.slice (some ad726) t718.length co59 : Value).ownBlock ∧ k_ ≠ s_.1 ∧ k_ ≠ s_.2) (.slice A725_2 ((rd_T31 t715 t721).f1).length c725_2) ((rd_T31 t715 t721).f1)) ∧ (Kd.V (Kd.int .i64) 3 w' w.heap.size (fun k_ => some k_ ≠ (.slice (some ad725) t715.length co56 : Value).ownBlock ∧ some k_ ≠ (.slice (some ad726) t718.length co59 : Value).ownBlock ∧ k_ ≠ s_.1 ∧ k_ ≠ s_.2) (.slice A725_5 ((rd_T31 t715 t721).f4).length c725_5) ((rd_T31 t715 t721).f4)) ∧ (Kd.V (Kd.int .i64) 3 w' w.heap.size (fun k_ => some k_ ≠ (.slice (some ad726) t718.length co59 : Value).ownBlock ∧ k_ ≠ s_.1 ∧ k_ ≠ s_.2) (.slice A726_2 ((rd_T31 t718 t723).f1).length c726_2) ((rd_T31 t718 t723).f1)) ∧ (Kd.V (Kd.int .i64) 3 w' w.heap.size (fun k_ => some k_ ≠ (.slice (some ad726) t718.length co59 : Value).ownBlock ∧ k_ ≠ s_.1 ∧ k_ ≠ s_.2) (.slice A726_5 ((rd_T31 t718 t723).f4).length c726_5) ((rd_T31 t718 t723).f4)) ∧ (Kd.N k31 31 w' w.heap.size (fun k_ => some k_ ≠ (.slice (some ad726) t718.length co59 : Value).ownBlock ∧ k_ ≠ s_.1 ∧ k_ ≠ s_.2) (.slice (some ad725) t715.length co56) t715) ∧ (Kd.N k31 31 w' w.heap.size (fun k_ => k_ ≠ s_.1 ∧ k_ ≠ s_.2) (.slice (some ad726) t718.length co59) t718) ∧ (w'.heap[s_.1]? = some (.cells #[.int .u32 0, .int .i64 0, .slice none 0 0, .int .i64 0, .int .i64 0, .slice none 0 0] 31 (0, 0))) ∧ (w'.heap[s_.2]? = some (.cells #[.int .u32 0, .int .i64 0, .slice none 0 0, .int .i64 0, .int .i64 0, .slice none 0 0] 31 (0, 0))) ∧ (w.heap.size ≤ s_.1) ∧ (w.heap.size ≤ s_.1) ∧ (s_.2 ≠ s_.1) ∧ (s_.1 ≠ s_.2) ∧ (w.heap.size ≤ s_.2) ∧ (w.heap.size ≤ s_.2) ∧ (Below w.heap.size w w')) ?_ ?_
 rotate_left
 ·
  intro hCont
  refine two_ (i := 8) (j := 9) (Ni := some 10) (Nj := some 11) (bm 12 511) (bm 12 767) rfl rfl rfl rfl (two_of HT_.out (by kernel_rfl)) (by decide) (by decide) (fun K hK => ?_) (fun K hK => ?_)
  ·
   skip
   refine box_step ?hg (N := 10) ?hd (cs := #[.int .u32 0, .int .i64 0, .slice none 0 0, .int .i64 0, .int .i64 0, .slice none 0 0]) (t := 31) ?hr ?_; (case hd => rfl); (case hg => rfl); (case hr => first | (go_simp; done) | (go_simp; rfl))
   intro gb727 hg w62 hbox hb
   have HS0_ := (hb.cell (World.block_lt_of_cell? _ _ (hHeld.1))).trans (hHeld.1)
   have HS1_ := (hb.cell (World.block_lt_of_cell? _ _ (hHeld.2.1))).trans (hHeld.2.1)
   have HS2_ := (hb.cell (World.block_lt_of_cell? _ _ (hHeld.2.2.1))).trans (hHeld.2.2.1)
   have HS3_ := (hb.cell (World.block_lt_of_cell? _ _ (hHeld.2.2.2.1))).trans (hHeld.2.2.2.1)
   have HS4_ := (hb.cell (World.block_lt_of_cell? _ _ (hHeld.2.2.2.2.1))).trans (hHeld.2.2.2.2.1)
   have HS5_ := (hb.cell (World.block_lt_of_cell? _ _ (hHeld.2.2.2.2.2.1))).trans (hHeld.2.2.2.2.2.1)
   have HS6_ := (hb.cell (World.block_lt_of_cell? _ _ (hHeld.2.2.2.2.2.2.1))).trans (hHeld.2.2.2.2.2.2.1)
   have HS7_ := (hb.cell (World.block_lt_of_cell? _ _ (hHeld.2.2.2.2.2.2.2.1))).trans (hHeld.2.2.2.2.2.2.2.1)
   have HS8_ := (hb.cell (World.block_lt_of_cell? _ _ (hHeld.2.2.2.2.2.2.2.2.1))).trans (hHeld.2.2.2.2.2.2.2.2.1)
   have HS9_ := (hb.cell (World.block_lt_of_cell? _ _ (hHeld.2.2.2.2.2.2.2.2.2.1))).trans (hHeld.2.2.2.2.2.2.2.2.2.1)
   have HS10_ := (hb.cell (World.block_lt_of_cell? _ _ (hHeld.2.2.2.2.2.2.2.2.2.2.1))).trans (hHeld.2.2.2.2.2.2.2.2.2.2.1)
   have HS11_ := (hb.cell (World.block_lt_of_cell? _ _ (hHeld.2.2.2.2.2.2.2.2.2.2.2))).trans (hHeld.2.2.2.2.2.2.2.2.2.2.2)
   have n0_ := Aside0.mk (Kd.N_below (Kd.N_elderB (by (with_reducible repeat (first | apply Kd.N_alloc | apply Kd.N_drewN | apply Kd.N_drew)); exact HO717.out) gb727 (Nat.le_of_eq hg.symm)) hb)
   have n1_ := Aside0.mk (Kd.N_below (Kd.N_elderB (by (with_reducible repeat (first | apply Kd.N_alloc | apply Kd.N_drewN | apply Kd.N_drew)); exact HO720.out) gb727 (Nat.le_of_eq hg.symm)) hb)
   have n2_ := Aside0.mk (Kd.V_below (Kd.V_elderB (by (with_reducible repeat (first | apply Kd.V_alloc | apply Kd.V_drewN | apply Kd.V_drew)); exact HL725_2.out) gb727 (Nat.le_of_eq hg.symm)) hb)
   have n3_ := Aside0.mk (Kd.V_below (Kd.V_elderB (by (with_reducible repeat (first | apply Kd.V_alloc | apply Kd.V_drewN | apply Kd.V_drew)); exact HL725_5.out) gb727 (Nat.le_of_eq hg.symm)) hb)
   have n4_ := Aside0.mk (Kd.V_below (Kd.V_elderB (by (with_reducible repeat (first | apply Kd.V_alloc | apply Kd.V_drewN | apply Kd.V_drew)); exact HL726_2.out) gb727 (Nat.le_of_eq hg.symm)) hb)
   have n5_ := Aside0.mk (Kd.V_below (Kd.V_elderB (by (with_reducible repeat (first | apply Kd.V_alloc | apply Kd.V_drewN | apply Kd.V_drew)); exact HL726_5.out) gb727 (Nat.le_of_eq hg.symm)) hb)
   have n6_ := Aside0.mk (Kd.C_below (by repeat (first | (with_reducible exact HR725_2.out) | (with_reducible refine Kd.C_alloc ?_ _) | (with_reducible refine Kd.C_drewN ?_ _) | (with_reducible refine Kd.C_drew ?_) | exact HR725_2.out)) hb)
   have n7_ := Aside0.mk (Kd.C_below (by repeat (first | (with_reducible exact HR725_5.out) | (with_reducible refine Kd.C_alloc ?_ _) | (with_reducible refine Kd.C_drewN ?_ _) | (with_reducible refine Kd.C_drew ?_) | exact HR725_5.out)) hb)
   have n8_ := Aside0.mk (Kd.C_below (by repeat (first | (with_reducible exact HR726_2.out) | (with_reducible refine Kd.C_alloc ?_ _) | (with_reducible refine Kd.C_drewN ?_ _) | (with_reducible refine Kd.C_drew ?_) | exact HR726_2.out)) hb)
   have n9_ := Aside0.mk (Kd.C_below (by repeat (first | (with_reducible exact HR726_5.out) | (with_reducible refine Kd.C_alloc ?_ _) | (with_reducible refine Kd.C_drewN ?_ _) | (with_reducible refine Kd.C_drew ?_) | exact HR726_5.out)) hb)
   have n10_ := Aside0.mk (below_step zB hb)
   have n11_ := Aside0.mk (hbox)
   have n12_ := Aside0.mk ((zG hg : w.heap.size ≤ gb727))
   have n13_ := Aside0.mk ((zG hg : w.heap.size ≤ gb727))
   clear HO717
   clear HO720
   clear HL725_2
   clear HL725_5
   clear HL726_2
   clear HL726_5
   clear HR725_2
   clear HR725_5
   clear HR726_2
   clear HR726_5
   clear HB
   have HO717 := n0_
   have HO720 := n1_
   have HL725_2 := n2_
   have HL725_5 := n3_
   have HL726_2 := n4_
   have HL726_5 := n5_
   have HR725_2 := n6_
   have HR725_5 := n7_
   have HR726_2 := n8_
   have HR726_5 := n9_
   have HB := n10_
   have BK727 := n11_
   have GW727 := n12_
   have GE727 := n13_
   clear n0_ n1_ n2_ n3_ n4_ n5_ n6_ n7_ n8_ n9_ n10_ n11_ n12_ n13_
   clear hb hbox hg
   refine hK.out _ _ ⟨HS0_, HS1_, HS2_, HS3_, HS4_, HS5_, HS6_, HS7_, HS8_, HS9_, HS10_, HS11_⟩ (fun hHeld => ?_)
   clear hK K
   refine norm_ (a' := ?_) ?_ ?_
   rotate_left
   · show Act.put _ (some 10) _ = _; simp only [Act.put, sA, s0, sS, i64_w, i32_w]; rfl
   refine one_ (i := 9) (N := some 11) (bm 12 1023) rfl rfl (one_of HT_.out (by kernel_rfl)) (by decide) (fun K hK => ?_)
   refine box_step ?hg (N := 11) ?hd (cs := #[.int .u32 0, .int .i64 0, .slice none 0 0, .int .i64 0, .int .i64 0, .slice none 0 0]) (t := 31) ?hr ?_; (case hd => rfl); (case hg => rfl); (case hr => first | (go_simp; done) | (go_simp; rfl))
   intro gb728 hg w63 hbox hb
   have HS0_ := (hb.cell (World.block_lt_of_cell? _ _ (hHeld.1))).trans (hHeld.1)
   have HS1_ := (hb.cell (World.block_lt_of_cell? _ _ (hHeld.2.1))).trans (hHeld.2.1)
   have HS2_ := (hb.cell (World.block_lt_of_cell? _ _ (hHeld.2.2.1))).trans (hHeld.2.2.1)
   have HS3_ := (hb.cell (World.block_lt_of_cell? _ _ (hHeld.2.2.2.1))).trans (hHeld.2.2.2.1)
   have HS4_ := (hb.cell (World.block_lt_of_cell? _ _ (hHeld.2.2.2.2.1))).trans (hHeld.2.2.2.2.1)
   have HS5_ := (hb.cell (World.block_lt_of_cell? _ _ (hHeld.2.2.2.2.2.1))).trans (hHeld.2.2.2.2.2.1)
   have HS6_ := (hb.cell (World.block_lt_of_cell? _ _ (hHeld.2.2.2.2.2.2.1))).trans (hHeld.2.2.2.2.2.2.1)
   have HS7_ := (hb.cell (World.block_lt_of_cell? _ _ (hHeld.2.2.2.2.2.2.2.1))).trans (hHeld.2.2.2.2.2.2.2.1)
   have HS8_ := (hb.cell (World.block_lt_of_cell? _ _ (hHeld.2.2.2.2.2.2.2.2.1))).trans (hHeld.2.2.2.2.2.2.2.2.1)
   have HS9_ := (hb.cell (World.block_lt_of_cell? _ _ (hHeld.2.2.2.2.2.2.2.2.2.1))).trans (hHeld.2.2.2.2.2.2.2.2.2.1)
   have HS10_ := (hb.cell (World.block_lt_of_cell? _ _ (hHeld.2.2.2.2.2.2.2.2.2.2.1))).trans (hHeld.2.2.2.2.2.2.2.2.2.2.1)
   have HS11_ := (hb.cell (World.block_lt_of_cell? _ _ (hHeld.2.2.2.2.2.2.2.2.2.2.2))).trans (hHeld.2.2.2.2.2.2.2.2.2.2.2)
   have n0_ := Aside0.mk (Kd.N_below (Kd.N_elderB (by (with_reducible repeat (first | apply Kd.N_alloc | apply Kd.N_drewN | apply Kd.N_drew)); exact HO717.out) gb728 (Nat.le_of_eq hg.symm)) hb)
   have n1_ := Aside0.mk (Kd.N_below (Kd.N_elderB (by (with_reducible repeat (first | apply Kd.N_alloc | apply Kd.N_drewN | apply Kd.N_drew)); exact HO720.out) gb728 (Nat.le_of_eq hg.symm)) hb)
   have n2_ := Aside0.mk (Kd.V_below (Kd.V_elderB (by (with_reducible repeat (first | apply Kd.V_alloc | apply Kd.V_drewN | apply Kd.V_drew)); exact HL725_2.out) gb728 (Nat.le_of_eq hg.symm)) hb)
   have n3_ := Aside0.mk (Kd.V_below (Kd.V_elderB (by (with_reducible repeat (first | apply Kd.V_alloc | apply Kd.V_drewN | apply Kd.V_drew)); exact HL725_5.out) gb728 (Nat.le_of_eq hg.symm)) hb)
   have n4_ := Aside0.mk (Kd.V_below (Kd.V_elderB (by (with_reducible repeat (first | apply Kd.V_alloc | apply Kd.V_drewN | apply Kd.V_drew)); exact HL726_2.out) gb728 (Nat.le_of_eq hg.symm)) hb)
   have n5_ := Aside0.mk (Kd.V_below (Kd.V_elderB (by (with_reducible repeat (first | apply Kd.V_alloc | apply Kd.V_drewN | apply Kd.V_drew)); exact HL726_5.out) gb728 (Nat.le_of_eq hg.symm)) hb)
   have n6_ := Aside0.mk (Kd.C_below (by repeat (first | (with_reducible exact HR725_2.out) | (with_reducible refine Kd.C_alloc ?_ _) | (with_reducible refine Kd.C_drewN ?_ _) | (with_reducible refine Kd.C_drew ?_) | exact HR725_2.out)) hb)
   have n7_ := Aside0.mk (Kd.C_below (by repeat (first | (with_reducible exact HR725_5.out) | (with_reducible refine Kd.C_alloc ?_ _) | (with_reducible refine Kd.C_drewN ?_ _) | (with_reducible refine Kd.C_drew ?_) | exact HR725_5.out)) hb)
   have n8_ := Aside0.mk (Kd.C_below (by repeat (first | (with_reducible exact HR726_2.out) | (with_reducible refine Kd.C_alloc ?_ _) | (with_reducible refine Kd.C_drewN ?_ _) | (with_reducible refine Kd.C_drew ?_) | exact HR726_2.out)) hb)
   have n9_ := Aside0.mk (Kd.C_below (by repeat (first | (with_reducible exact HR726_5.out) | (with_reducible refine Kd.C_alloc ?_ _) | (with_reducible refine Kd.C_drewN ?_ _) | (with_reducible refine Kd.C_drew ?_) | exact HR726_5.out)) hb)
   have n10_ := Aside0.mk (blk_below (g := gb727) (o := .cells #[.int .u32 0, .int .i64 0, .slice none 0 0, .int .i64 0, .int .i64 0, .slice none 0 0] 31 (0, 0)) (zK BK727) hb)
   have n11_ := Aside0.mk (below_step zB hb)
   have n12_ := Aside0.mk (hbox)
   have n13_ := Aside0.mk ((zG hg : w.heap.size ≤ gb728))
   have n14_ := Aside0.mk ((zG hg : w.heap.size ≤ gb728))
   have n15_ := Aside0.mk ((by rw [hg]; exact Nat.ne_of_lt (blk_lt (g := gb727) (o := .cells #[.int .u32 0, .int .i64 0, .slice none 0 0, .int .i64 0, .int .i64 0, .slice none 0 0] 31 (0, 0)) (zK BK727)) : gb727 ≠ gb728))
   have n16_ := Aside0.mk ((by rw [hg]; exact Nat.ne_of_gt (blk_lt (g := gb727) (o := .cells #[.int .u32 0, .int .i64 0, .slice none 0 0, .int .i64 0, .int .i64 0, .slice none 0 0] 31 (0, 0)) (zK BK727)) : gb728 ≠ gb727))
   clear HO717
   clear HO720
   clear HL725_2
   clear HL725_5
   clear HL726_2
   clear HL726_5
   clear HR725_2
   clear HR725_5
   clear HR726_2
   clear HR726_5
   clear BK727
   clear HB
   have HO717 := n0_
   have HO720 := n1_
   have HL725_2 := n2_
   have HL725_5 := n3_
   have HL726_2 := n4_
   have HL726_5 := n5_
   have HR725_2 := n6_
   have HR725_5 := n7_
   have HR726_2 := n8_
   have HR726_5 := n9_
   have BK727 := n10_
   have HB := n11_
   have BK728 := n12_
   have GW728 := n13_
   have GE728 := n14_
   have NB727_728 := n15_
   have NB728_727 := n16_
   clear n0_ n1_ n2_ n3_ n4_ n5_ n6_ n7_ n8_ n9_ n10_ n11_ n12_ n13_ n14_ n15_ n16_
   clear hb hbox hg
   refine hK.out _ _ ⟨HS0_, HS1_, HS2_, HS3_, HS4_, HS5_, HS6_, HS7_, HS8_, HS9_, HS10_, HS11_⟩ (fun hHeld => ?_)
   clear hK K
   refine norm_ (a' := ?_) ?_ ?_
   rotate_left
   · show Act.put _ (some 11) _ = _; simp only [Act.put, sA, s0, sS, i64_w, i32_w]; rfl
   exact norm_ (by simp only [putAll, Act.put, List.setIfInBounds_toArray, List.set_cons_zero, List.set_cons_succ]) (hCont (gb727, gb728) _ ⟨hHeld, (by (with_reducible repeat (first | apply Kd.V_alloc | apply Kd.V_drewN | apply Kd.V_drew)); exact Kd.V_mono HL725_2.out (fun _ hk => ⟨hk.1.1.2, ⟨hk.1.1.1.2, ⟨hk.1.2, hk.2⟩⟩⟩)), (by (with_reducible repeat (first | apply Kd.V_alloc | apply Kd.V_drewN | apply Kd.V_drew)); exact Kd.V_mono HL725_5.out (fun _ hk => ⟨hk.1.1.2, ⟨hk.1.1.1.2, ⟨hk.1.2, hk.2⟩⟩⟩)), (by (with_reducible repeat (first | apply Kd.V_alloc | apply Kd.V_drewN | apply Kd.V_drew)); exact Kd.V_mono HL726_2.out (fun _ hk => ⟨hk.1.1.2, ⟨hk.1.2, hk.2⟩⟩)), (by (with_reducible repeat (first | apply Kd.V_alloc | apply Kd.V_drewN | apply Kd.V_drew)); exact Kd.V_mono HL726_5.out (fun _ hk => ⟨hk.1.1.2, ⟨hk.1.2, hk.2⟩⟩)), (by (with_reducible repeat (first | apply Kd.N_alloc | apply Kd.N_drewN | apply Kd.N_drew)); exact Kd.N_mono HO717.out (fun _ hk => ⟨hk.1.1.2, ⟨hk.1.2, hk.2⟩⟩)), (by (with_reducible repeat (first | apply Kd.N_alloc | apply Kd.N_drewN | apply Kd.N_drew)); exact Kd.N_mono HO720.out (fun _ hk => ⟨hk.1.2, hk.2⟩)), (zK BK727), (zK BK728), GW727.out, GE727.out, NB728_727.out, NB727_728.out, GW728.out, GE728.out, zB⟩)
  ·
   skip
   refine box_step ?hg (N := 11) ?hd (cs := #[.int .u32 0, .int .i64 0, .slice none 0 0, .int .i64 0, .int .i64 0, .slice none 0 0]) (t := 31) ?hr ?_; (case hd => rfl); (case hg => rfl); (case hr => first | (go_simp; done) | (go_simp; rfl))
   intro gb728 hg w62 hbox hb
   have HS0_ := (hb.cell (World.block_lt_of_cell? _ _ (hHeld.1))).trans (hHeld.1)
   have HS1_ := (hb.cell (World.block_lt_of_cell? _ _ (hHeld.2.1))).trans (hHeld.2.1)
   have HS2_ := (hb.cell (World.block_lt_of_cell? _ _ (hHeld.2.2.1))).trans (hHeld.2.2.1)
   have HS3_ := (hb.cell (World.block_lt_of_cell? _ _ (hHeld.2.2.2.1))).trans (hHeld.2.2.2.1)
   have HS4_ := (hb.cell (World.block_lt_of_cell? _ _ (hHeld.2.2.2.2.1))).trans (hHeld.2.2.2.2.1)
   have HS5_ := (hb.cell (World.block_lt_of_cell? _ _ (hHeld.2.2.2.2.2.1))).trans (hHeld.2.2.2.2.2.1)
   have HS6_ := (hb.cell (World.block_lt_of_cell? _ _ (hHeld.2.2.2.2.2.2.1))).trans (hHeld.2.2.2.2.2.2.1)
   have HS7_ := (hb.cell (World.block_lt_of_cell? _ _ (hHeld.2.2.2.2.2.2.2.1))).trans (hHeld.2.2.2.2.2.2.2.1)
   have HS8_ := (hb.cell (World.block_lt_of_cell? _ _ (hHeld.2.2.2.2.2.2.2.2.1))).trans (hHeld.2.2.2.2.2.2.2.2.1)
   have HS9_ := (hb.cell (World.block_lt_of_cell? _ _ (hHeld.2.2.2.2.2.2.2.2.2.1))).trans (hHeld.2.2.2.2.2.2.2.2.2.1)
   have HS10_ := (hb.cell (World.block_lt_of_cell? _ _ (hHeld.2.2.2.2.2.2.2.2.2.2.1))).trans (hHeld.2.2.2.2.2.2.2.2.2.2.1)
   have HS11_ := (hb.cell (World.block_lt_of_cell? _ _ (hHeld.2.2.2.2.2.2.2.2.2.2.2))).trans (hHeld.2.2.2.2.2.2.2.2.2.2.2)
   have n0_ := Aside0.mk (Kd.N_below (Kd.N_elderB (by (with_reducible repeat (first | apply Kd.N_alloc | apply Kd.N_drewN | apply Kd.N_drew)); exact HO717.out) gb728 (Nat.le_of_eq hg.symm)) hb)
   have n1_ := Aside0.mk (Kd.N_below (Kd.N_elderB (by (with_reducible repeat (first | apply Kd.N_alloc | apply Kd.N_drewN | apply Kd.N_drew)); exact HO720.out) gb728 (Nat.le_of_eq hg.symm)) hb)
   have n2_ := Aside0.mk (Kd.V_below (Kd.V_elderB (by (with_reducible repeat (first | apply Kd.V_alloc | apply Kd.V_drewN | apply Kd.V_drew)); exact HL725_2.out) gb728 (Nat.le_of_eq hg.symm)) hb)
   have n3_ := Aside0.mk (Kd.V_below (Kd.V_elderB (by (with_reducible repeat (first | apply Kd.V_alloc | apply Kd.V_drewN | apply Kd.V_drew)); exact HL725_5.out) gb728 (Nat.le_of_eq hg.symm)) hb)
   have n4_ := Aside0.mk (Kd.V_below (Kd.V_elderB (by (with_reducible repeat (first | apply Kd.V_alloc | apply Kd.V_drewN | apply Kd.V_drew)); exact HL726_2.out) gb728 (Nat.le_of_eq hg.symm)) hb)
   have n5_ := Aside0.mk (Kd.V_below (Kd.V_elderB (by (with_reducible repeat (first | apply Kd.V_alloc | apply Kd.V_drewN | apply Kd.V_drew)); exact HL726_5.out) gb728 (Nat.le_of_eq hg.symm)) hb)
   have n6_ := Aside0.mk (Kd.C_below (by repeat (first | (with_reducible exact HR725_2.out) | (with_reducible refine Kd.C_alloc ?_ _) | (with_reducible refine Kd.C_drewN ?_ _) | (with_reducible refine Kd.C_drew ?_) | exact HR725_2.out)) hb)
   have n7_ := Aside0.mk (Kd.C_below (by repeat (first | (with_reducible exact HR725_5.out) | (with_reducible refine Kd.C_alloc ?_ _) | (with_reducible refine Kd.C_drewN ?_ _) | (with_reducible refine Kd.C_drew ?_) | exact HR725_5.out)) hb)
   have n8_ := Aside0.mk (Kd.C_below (by repeat (first | (with_reducible exact HR726_2.out) | (with_reducible refine Kd.C_alloc ?_ _) | (with_reducible refine Kd.C_drewN ?_ _) | (with_reducible refine Kd.C_drew ?_) | exact HR726_2.out)) hb)
   have n9_ := Aside0.mk (Kd.C_below (by repeat (first | (with_reducible exact HR726_5.out) | (with_reducible refine Kd.C_alloc ?_ _) | (with_reducible refine Kd.C_drewN ?_ _) | (with_reducible refine Kd.C_drew ?_) | exact HR726_5.out)) hb)
   have n10_ := Aside0.mk (below_step zB hb)
   have n11_ := Aside0.mk (hbox)
   have n12_ := Aside0.mk ((zG hg : w.heap.size ≤ gb728))
   have n13_ := Aside0.mk ((zG hg : w.heap.size ≤ gb728))
   clear HO717
   clear HO720
   clear HL725_2
   clear HL725_5
   clear HL726_2
   clear HL726_5
   clear HR725_2
   clear HR725_5
   clear HR726_2
   clear HR726_5
   clear HB
   have HO717 := n0_
   have HO720 := n1_
   have HL725_2 := n2_
   have HL725_5 := n3_
   have HL726_2 := n4_
   have HL726_5 := n5_
   have HR725_2 := n6_
   have HR725_5 := n7_
   have HR726_2 := n8_
   have HR726_5 := n9_
   have HB := n10_
   have BK728 := n11_
   have GW728 := n12_
   have GE728 := n13_
   clear n0_ n1_ n2_ n3_ n4_ n5_ n6_ n7_ n8_ n9_ n10_ n11_ n12_ n13_
   clear hb hbox hg
   refine hK.out _ _ ⟨HS0_, HS1_, HS2_, HS3_, HS4_, HS5_, HS6_, HS7_, HS8_, HS9_, HS10_, HS11_⟩ (fun hHeld => ?_)
   clear hK K
   refine norm_ (a' := ?_) ?_ ?_
   rotate_left
   · show Act.put _ (some 11) _ = _; simp only [Act.put, sA, s0, sS, i64_w, i32_w]; rfl
   refine one_ (i := 8) (N := some 10) (bm 12 1023) rfl rfl (one_of HT_.out (by kernel_rfl)) (by decide) (fun K hK => ?_)
   refine box_step ?hg (N := 10) ?hd (cs := #[.int .u32 0, .int .i64 0, .slice none 0 0, .int .i64 0, .int .i64 0, .slice none 0 0]) (t := 31) ?hr ?_; (case hd => rfl); (case hg => rfl); (case hr => first | (go_simp; done) | (go_simp; rfl))
   intro gb727 hg w63 hbox hb
   have HS0_ := (hb.cell (World.block_lt_of_cell? _ _ (hHeld.1))).trans (hHeld.1)
   have HS1_ := (hb.cell (World.block_lt_of_cell? _ _ (hHeld.2.1))).trans (hHeld.2.1)
   have HS2_ := (hb.cell (World.block_lt_of_cell? _ _ (hHeld.2.2.1))).trans (hHeld.2.2.1)
   have HS3_ := (hb.cell (World.block_lt_of_cell? _ _ (hHeld.2.2.2.1))).trans (hHeld.2.2.2.1)
   have HS4_ := (hb.cell (World.block_lt_of_cell? _ _ (hHeld.2.2.2.2.1))).trans (hHeld.2.2.2.2.1)
   have HS5_ := (hb.cell (World.block_lt_of_cell? _ _ (hHeld.2.2.2.2.2.1))).trans (hHeld.2.2.2.2.2.1)
   have HS6_ := (hb.cell (World.block_lt_of_cell? _ _ (hHeld.2.2.2.2.2.2.1))).trans (hHeld.2.2.2.2.2.2.1)
   have HS7_ := (hb.cell (World.block_lt_of_cell? _ _ (hHeld.2.2.2.2.2.2.2.1))).trans (hHeld.2.2.2.2.2.2.2.1)
   have HS8_ := (hb.cell (World.block_lt_of_cell? _ _ (hHeld.2.2.2.2.2.2.2.2.1))).trans (hHeld.2.2.2.2.2.2.2.2.1)
   have HS9_ := (hb.cell (World.block_lt_of_cell? _ _ (hHeld.2.2.2.2.2.2.2.2.2.1))).trans (hHeld.2.2.2.2.2.2.2.2.2.1)
   have HS10_ := (hb.cell (World.block_lt_of_cell? _ _ (hHeld.2.2.2.2.2.2.2.2.2.2.1))).trans (hHeld.2.2.2.2.2.2.2.2.2.2.1)
   have HS11_ := (hb.cell (World.block_lt_of_cell? _ _ (hHeld.2.2.2.2.2.2.2.2.2.2.2))).trans (hHeld.2.2.2.2.2.2.2.2.2.2.2)
   have n0_ := Aside0.mk (Kd.N_below (Kd.N_elderB (by (with_reducible repeat (first | apply Kd.N_alloc | apply Kd.N_drewN | apply Kd.N_drew)); exact HO717.out) gb727 (Nat.le_of_eq hg.symm)) hb)
   have n1_ := Aside0.mk (Kd.N_below (Kd.N_elderB (by (with_reducible repeat (first | apply Kd.N_alloc | apply Kd.N_drewN | apply Kd.N_drew)); exact HO720.out) gb727 (Nat.le_of_eq hg.symm)) hb)
   have n2_ := Aside0.mk (Kd.V_below (Kd.V_elderB (by (with_reducible repeat (first | apply Kd.V_alloc | apply Kd.V_drewN | apply Kd.V_drew)); exact HL725_2.out) gb727 (Nat.le_of_eq hg.symm)) hb)
   have n3_ := Aside0.mk (Kd.V_below (Kd.V_elderB (by (with_reducible repeat (first | apply Kd.V_alloc | apply Kd.V_drewN | apply Kd.V_drew)); exact HL725_5.out) gb727 (Nat.le_of_eq hg.symm)) hb)
   have n4_ := Aside0.mk (Kd.V_below (Kd.V_elderB (by (with_reducible repeat (first | apply Kd.V_alloc | apply Kd.V_drewN | apply Kd.V_drew)); exact HL726_2.out) gb727 (Nat.le_of_eq hg.symm)) hb)
   have n5_ := Aside0.mk (Kd.V_below (Kd.V_elderB (by (with_reducible repeat (first | apply Kd.V_alloc | apply Kd.V_drewN | apply Kd.V_drew)); exact HL726_5.out) gb727 (Nat.le_of_eq hg.symm)) hb)
   have n6_ := Aside0.mk (Kd.C_below (by repeat (first | (with_reducible exact HR725_2.out) | (with_reducible refine Kd.C_alloc ?_ _) | (with_reducible refine Kd.C_drewN ?_ _) | (with_reducible refine Kd.C_drew ?_) | exact HR725_2.out)) hb)
   have n7_ := Aside0.mk (Kd.C_below (by repeat (first | (with_reducible exact HR725_5.out) | (with_reducible refine Kd.C_alloc ?_ _) | (with_reducible refine Kd.C_drewN ?_ _) | (with_reducible refine Kd.C_drew ?_) | exact HR725_5.out)) hb)
   have n8_ := Aside0.mk (Kd.C_below (by repeat (first | (with_reducible exact HR726_2.out) | (with_reducible refine Kd.C_alloc ?_ _) | (with_reducible refine Kd.C_drewN ?_ _) | (with_reducible refine Kd.C_drew ?_) | exact HR726_2.out)) hb)
   have n9_ := Aside0.mk (Kd.C_below (by repeat (first | (with_reducible exact HR726_5.out) | (with_reducible refine Kd.C_alloc ?_ _) | (with_reducible refine Kd.C_drewN ?_ _) | (with_reducible refine Kd.C_drew ?_) | exact HR726_5.out)) hb)
   have n10_ := Aside0.mk (blk_below (g := gb728) (o := .cells #[.int .u32 0, .int .i64 0, .slice none 0 0, .int .i64 0, .int .i64 0, .slice none 0 0] 31 (0, 0)) (zK BK728) hb)
   have n11_ := Aside0.mk (below_step zB hb)
   have n12_ := Aside0.mk (hbox)
   have n13_ := Aside0.mk ((zG hg : w.heap.size ≤ gb727))
   have n14_ := Aside0.mk ((zG hg : w.heap.size ≤ gb727))
   have n15_ := Aside0.mk ((by rw [hg]; exact Nat.ne_of_lt (blk_lt (g := gb728) (o := .cells #[.int .u32 0, .int .i64 0, .slice none 0 0, .int .i64 0, .int .i64 0, .slice none 0 0] 31 (0, 0)) (zK BK728)) : gb728 ≠ gb727))
   have n16_ := Aside0.mk ((by rw [hg]; exact Nat.ne_of_gt (blk_lt (g := gb728) (o := .cells #[.int .u32 0, .int .i64 0, .slice none 0 0, .int .i64 0, .int .i64 0, .slice none 0 0] 31 (0, 0)) (zK BK728)) : gb727 ≠ gb728))
   clear HO717
   clear HO720
   clear HL725_2
   clear HL725_5
   clear HL726_2
   clear HL726_5
   clear HR725_2
   clear HR725_5
   clear HR726_2
   clear HR726_5
   clear BK728
   clear HB
   have HO717 := n0_
   have HO720 := n1_
   have HL725_2 := n2_
   have HL725_5 := n3_
   have HL726_2 := n4_
   have HL726_5 := n5_
   have HR725_2 := n6_
   have HR725_5 := n7_
   have HR726_2 := n8_
   have HR726_5 := n9_
   have BK728 := n10_
   have HB := n11_
   have BK727 := n12_
   have GW727 := n13_
   have GE727 := n14_
   have NB728_727 := n15_
   have NB727_728 := n16_
   clear n0_ n1_ n2_ n3_ n4_ n5_ n6_ n7_ n8_ n9_ n10_ n11_ n12_ n13_ n14_ n15_ n16_
   clear hb hbox hg
   refine hK.out _ _ ⟨HS0_, HS1_, HS2_, HS3_, HS4_, HS5_, HS6_, HS7_, HS8_, HS9_, HS10_, HS11_⟩ (fun hHeld => ?_)
   clear hK K
   refine norm_ (a' := ?_) ?_ ?_
   rotate_left
   · show Act.put _ (some 10) _ = _; simp only [Act.put, sA, s0, sS, i64_w, i32_w]; rfl
   exact norm_ (by simp only [putAll, Act.put, List.setIfInBounds_toArray, List.set_cons_zero, List.set_cons_succ]) (hCont (gb727, gb728) _ ⟨hHeld, (by (with_reducible repeat (first | apply Kd.V_alloc | apply Kd.V_drewN | apply Kd.V_drew)); exact Kd.V_mono HL725_2.out (fun _ hk => ⟨hk.1.1.2, ⟨hk.1.1.1.2, ⟨hk.2, hk.1.2⟩⟩⟩)), (by (with_reducible repeat (first | apply Kd.V_alloc | apply Kd.V_drewN | apply Kd.V_drew)); exact Kd.V_mono HL725_5.out (fun _ hk => ⟨hk.1.1.2, ⟨hk.1.1.1.2, ⟨hk.2, hk.1.2⟩⟩⟩)), (by (with_reducible repeat (first | apply Kd.V_alloc | apply Kd.V_drewN | apply Kd.V_drew)); exact Kd.V_mono HL726_2.out (fun _ hk => ⟨hk.1.1.2, ⟨hk.2, hk.1.2⟩⟩)), (by (with_reducible repeat (first | apply Kd.V_alloc | apply Kd.V_drewN | apply Kd.V_drew)); exact Kd.V_mono HL726_5.out (fun _ hk => ⟨hk.1.1.2, ⟨hk.2, hk.1.2⟩⟩)), (by (with_reducible repeat (first | apply Kd.N_alloc | apply Kd.N_drewN | apply Kd.N_drew)); exact Kd.N_mono HO717.out (fun _ hk => ⟨hk.1.1.2, ⟨hk.2, hk.1.2⟩⟩)), (by (with_reducible repeat (first | apply Kd.N_alloc | apply Kd.N_drewN | apply Kd.N_drew)); exact Kd.N_mono HO720.out (fun _ hk => ⟨hk.2, hk.1.2⟩)), (zK BK727), (zK BK728), GW727.out, GE727.out, NB728_727.out, NB727_728.out, GW728.out, GE728.out, zB⟩)
 rintro ⟨gb727, gb728⟩ w64 ⟨hS_, h0_, h1_, h2_, h3_, h4_, h5_, h6_, h7_, h8_, h9_, h10_, h11_, h12_, h13_, h14_⟩
 have n0_ : Aside0 (Kd.V (Kd.int .i64) 3 w64 w.heap.size (fun k_ => some k_ ≠ (.slice (some ad725) t715.length co56 : Value).ownBlock ∧ some k_ ≠ (.slice (some ad726) t718.length co59 : Value).ownBlock ∧ k_ ≠ gb727 ∧ k_ ≠ gb728) (.slice A725_2 ((rd_T31 t715 t721).f1).length c725_2) ((rd_T31 t715 t721).f1)) := ⟨h0_⟩
 have n1_ : Aside0 (Kd.V (Kd.int .i64) 3 w64 w.heap.size (fun k_ => some k_ ≠ (.slice (some ad725) t715.length co56 : Value).ownBlock ∧ some k_ ≠ (.slice (some ad726) t718.length co59 : Value).ownBlock ∧ k_ ≠ gb727 ∧ k_ ≠ gb728) (.slice A725_5 ((rd_T31 t715 t721).f4).length c725_5) ((rd_T31 t715 t721).f4)) := ⟨h1_⟩
 have n2_ : Aside0 (Kd.V (Kd.int .i64) 3 w64 w.heap.size (fun k_ => some k_ ≠ (.slice (some ad726) t718.length co59 : Value).ownBlock ∧ k_ ≠ gb727 ∧ k_ ≠ gb728) (.slice A726_2 ((rd_T31 t718 t723).f1).length c726_2) ((rd_T31 t718 t723).f1)) := ⟨h2_⟩
 have n3_ : Aside0 (Kd.V (Kd.int .i64) 3 w64 w.heap.size (fun k_ => some k_ ≠ (.slice (some ad726) t718.length co59 : Value).ownBlock ∧ k_ ≠ gb727 ∧ k_ ≠ gb728) (.slice A726_5 ((rd_T31 t718 t723).f4).length c726_5) ((rd_T31 t718 t723).f4)) := ⟨h3_⟩
 have n4_ : Aside0 (Kd.N k31 31 w64 w.heap.size (fun k_ => some k_ ≠ (.slice (some ad726) t718.length co59 : Value).ownBlock ∧ k_ ≠ gb727 ∧ k_ ≠ gb728) (.slice (some ad725) t715.length co56) t715) := ⟨h4_⟩
 have n5_ : Aside0 (Kd.N k31 31 w64 w.heap.size (fun k_ => k_ ≠ gb727 ∧ k_ ≠ gb728) (.slice (some ad726) t718.length co59) t718) := ⟨h5_⟩
 have n6_ : Aside0 (w64.heap[gb727]? = some (.cells #[.int .u32 0, .int .i64 0, .slice none 0 0, .int .i64 0, .int .i64 0, .slice none 0 0] 31 (0, 0))) := ⟨h6_⟩
 have n7_ : Aside0 (w64.heap[gb728]? = some (.cells #[.int .u32 0, .int .i64 0, .slice none 0 0, .int .i64 0, .int .i64 0, .slice none 0 0] 31 (0, 0))) := ⟨h7_⟩
 have n8_ : Aside0 (w.heap.size ≤ gb727) := ⟨h8_⟩
 have n9_ : Aside0 (w.heap.size ≤ gb727) := ⟨h9_⟩
 have n10_ : Aside0 (gb728 ≠ gb727) := ⟨h10_⟩
 have n11_ : Aside0 (gb727 ≠ gb728) := ⟨h11_⟩
 have n12_ : Aside0 (w.heap.size ≤ gb728) := ⟨h12_⟩
 have n13_ : Aside0 (w.heap.size ≤ gb728) := ⟨h13_⟩
 have n14_ : Aside0 (Below w.heap.size w w64) := ⟨h14_⟩
 clear HO717
 clear HO720
 clear HB
 clear h0_ h1_ h2_ h3_ h4_ h5_ h6_ h7_ h8_ h9_ h10_ h11_ h12_ h13_ h14_
 have HL725_2 := n0_
 have HL725_5 := n1_
 have HL726_2 := n2_
 have HL726_5 := n3_
 have HO717 := n4_
 have HO720 := n5_
 have BK727 := n6_
 have BK728 := n7_
 have GW727 := n8_
 have GE727 := n9_
 have NB728_727 := n10_
 have NB727_728 := n11_
 have GW728 := n12_
 have GE728 := n13_
 have HB := n14_
 clear n0_ n1_ n2_ n3_ n4_ n5_ n6_ n7_ n8_ n9_ n10_ n11_ n12_ n13_ n14_
 have hHeld : w64.cell? (ad725.add ((t721).toNat * 6)) = some (.int .u32 ((rd_T31 t715 t721).f0.f0)) ∧ w64.cell? ⟨(ad725.add ((t721).toNat * 6)).block, (ad725.add ((t721).toNat * 6)).off + 1, none⟩ = some (.int .i64 ((rd_T31 t715 t721).f0.f1)) ∧ w64.cell? ⟨(ad725.add ((t721).toNat * 6)).block, (ad725.add ((t721).toNat * 6)).off + 2, none⟩ = some (.slice A725_2 ((rd_T31 t715 t721).f1).length c725_2) ∧ w64.cell? ⟨(ad725.add ((t721).toNat * 6)).block, (ad725.add ((t721).toNat * 6)).off + 3, none⟩ = some (.int .i64 ((rd_T31 t715 t721).f2)) ∧ w64.cell? ⟨(ad725.add ((t721).toNat * 6)).block, (ad725.add ((t721).toNat * 6)).off + 4, none⟩ = some (.int .i64 ((rd_T31 t715 t721).f3)) ∧ w64.cell? ⟨(ad725.add ((t721).toNat * 6)).block, (ad725.add ((t721).toNat * 6)).off + 5, none⟩ = some (.slice A725_5 ((rd_T31 t715 t721).f4).length c725_5) ∧ w64.cell? (ad726.add ((t723).toNat * 6)) = some (.int .u32 ((rd_T31 t718 t723).f0.f0)) ∧ w64.cell? ⟨(ad726.add ((t723).toNat * 6)).block, (ad726.add ((t723).toNat * 6)).off + 1, none⟩ = some (.int .i64 ((rd_T31 t718 t723).f0.f1)) ∧ w64.cell? ⟨(ad726.add ((t723).toNat * 6)).block, (ad726.add ((t723).toNat * 6)).off + 2, none⟩ = some (.slice A726_2 ((rd_T31 t718 t723).f1).length c726_2) ∧ w64.cell? ⟨(ad726.add ((t723).toNat * 6)).block, (ad726.add ((t723).toNat * 6)).off + 3, none⟩ = some (.int .i64 ((rd_T31 t718 t723).f2)) ∧ w64.cell? ⟨(ad726.add ((t723).toNat * 6)).block, (ad726.add ((t723).toNat * 6)).off + 4, none⟩ = some (.int .i64 ((rd_T31 t718 t723).f3)) ∧ w64.cell? ⟨(ad726.add ((t723).toNat * 6)).block, (ad726.add ((t723).toNat * 6)).off + 5, none⟩ = some (.slice A726_5 ((rd_T31 t718 t723).f4).length c726_5) := hS_
 refine norm_ (a' := ?_) ?_ ?_
 rotate_left
 · simp only [putAll, Act.put, List.setIfInBounds_toArray, List.set_cons_zero, List.set_cons_succ]; rfl
 refine one_ (i := 10) (N := none) (bm 12 2047) rfl rfl (one_of HT_.out (by kernel_rfl)) (by decide) (fun K hK => ?_)
 have hs65 : w64.cell? ⟨gb727, 0, none⟩ = some (.int .u32 0) := zT BK727 0
 have hfs65 := blk_frozen BK727.out 0
 have hns65_1 := NB728_727.out
 have hms65_1 := NB727_728.out
 have hs66 : w64.cell? ⟨gb727, 1, none⟩ = some (.int .i64 0) := zT BK727 1
 have hfs66 := blk_frozen BK727.out 1
 have hns66_1 := NB728_727.out
 have hms66_1 := NB727_728.out
 have hs67 : w64.cell? ⟨gb727, 2, none⟩ = some (.slice none 0 0) := zT BK727 2
 have hfs67 := blk_frozen BK727.out 2
 have hns67_1 := NB728_727.out
 have hms67_1 := NB727_728.out
 have hs68 : w64.cell? ⟨gb727, 3, none⟩ = some (.int .i64 0) := zT BK727 3
 have hfs68 := blk_frozen BK727.out 3
 have hns68_1 := NB728_727.out
 have hms68_1 := NB727_728.out
 have hs69 : w64.cell? ⟨gb727, 4, none⟩ = some (.int .i64 0) := zT BK727 4
 have hfs69 := blk_frozen BK727.out 4
 have hns69_1 := NB728_727.out
 have hms69_1 := NB727_728.out
 have hs70 : w64.cell? ⟨gb727, 5, none⟩ = some (.slice none 0 0) := zT BK727 5
 have hfs70 := blk_frozen BK727.out 5
 have hns70_1 := NB728_727.out
 have hms70_1 := NB727_728.out
 refine skip_ (w1 := ?_) (by rfl) rfl ?_ ?_
 rotate_left
 · go_simp; rfl
 refine hK.out _ _ ⟨(by (iterate 6 refine (cell_far (p := ⟨gb727, _, none⟩) (by first | exact Kd.own_blk (Kd.N_away HO717.out (fun _ hk => hk.2.1)) | (rw [add_block]; exact Kd.own_blk (Kd.N_away HO717.out (fun _ hk => hk.2.1))) | (show (Addr.add _ _).block ≠ _; rw [add_block]; exact Kd.own_blk (Kd.N_away HO717.out (fun _ hk => hk.2.1))) | (dsimp only; exact Kd.own_blk (Kd.N_away HO717.out (fun _ hk => hk.2.1)))) _).trans ?_); exact hHeld.1), (by (iterate 6 refine (cell_far (p := ⟨gb727, _, none⟩) (by first | exact Kd.own_blk (Kd.N_away HO717.out (fun _ hk => hk.2.1)) | (rw [add_block]; exact Kd.own_blk (Kd.N_away HO717.out (fun _ hk => hk.2.1))) | (show (Addr.add _ _).block ≠ _; rw [add_block]; exact Kd.own_blk (Kd.N_away HO717.out (fun _ hk => hk.2.1))) | (dsimp only; exact Kd.own_blk (Kd.N_away HO717.out (fun _ hk => hk.2.1)))) _).trans ?_); exact hHeld.2.1), (by (iterate 6 refine (cell_far (p := ⟨gb727, _, none⟩) (by first | exact Kd.own_blk (Kd.N_away HO717.out (fun _ hk => hk.2.1)) | (rw [add_block]; exact Kd.own_blk (Kd.N_away HO717.out (fun _ hk => hk.2.1))) | (show (Addr.add _ _).block ≠ _; rw [add_block]; exact Kd.own_blk (Kd.N_away HO717.out (fun _ hk => hk.2.1))) | (dsimp only; exact Kd.own_blk (Kd.N_away HO717.out (fun _ hk => hk.2.1)))) _).trans ?_); exact hHeld.2.2.1), (by (iterate 6 refine (cell_far (p := ⟨gb727, _, none⟩) (by first | exact Kd.own_blk (Kd.N_away HO717.out (fun _ hk => hk.2.1)) | (rw [add_block]; exact Kd.own_blk (Kd.N_away HO717.out (fun _ hk => hk.2.1))) | (show (Addr.add _ _).block ≠ _; rw [add_block]; exact Kd.own_blk (Kd.N_away HO717.out (fun _ hk => hk.2.1))) | (dsimp only; exact Kd.own_blk (Kd.N_away HO717.out (fun _ hk => hk.2.1)))) _).trans ?_); exact hHeld.2.2.2.1), (by (iterate 6 refine (cell_far (p := ⟨gb727, _, none⟩) (by first | exact Kd.own_blk (Kd.N_away HO717.out (fun _ hk => hk.2.1)) | (rw [add_block]; exact Kd.own_blk (Kd.N_away HO717.out (fun _ hk => hk.2.1))) | (show (Addr.add _ _).block ≠ _; rw [add_block]; exact Kd.own_blk (Kd.N_away HO717.out (fun _ hk => hk.2.1))) | (dsimp only; exact Kd.own_blk (Kd.N_away HO717.out (fun _ hk => hk.2.1)))) _).trans ?_); exact hHeld.2.2.2.2.1), (by (iterate 6 refine (cell_far (p := ⟨gb727, _, none⟩) (by first | exact Kd.own_blk (Kd.N_away HO717.out (fun _ hk => hk.2.1)) | (rw [add_block]; exact Kd.own_blk (Kd.N_away HO717.out (fun _ hk => hk.2.1))) | (show (Addr.add _ _).block ≠ _; rw [add_block]; exact Kd.own_blk (Kd.N_away HO717.out (fun _ hk => hk.2.1))) | (dsimp only; exact Kd.own_blk (Kd.N_away HO717.out (fun _ hk => hk.2.1)))) _).trans ?_); exact hHeld.2.2.2.2.2.1), (by (iterate 6 refine (cell_far (p := ⟨gb727, _, none⟩) (by first | exact Kd.own_blk (Kd.N_away HO720.out (fun _ hk => hk.1)) | (rw [add_block]; exact Kd.own_blk (Kd.N_away HO720.out (fun _ hk => hk.1))) | (show (Addr.add _ _).block ≠ _; rw [add_block]; exact Kd.own_blk (Kd.N_away HO720.out (fun _ hk => hk.1))) | (dsimp only; exact Kd.own_blk (Kd.N_away HO720.out (fun _ hk => hk.1)))) _).trans ?_); exact hHeld.2.2.2.2.2.2.1), (by (iterate 6 refine (cell_far (p := ⟨gb727, _, none⟩) (by first | exact Kd.own_blk (Kd.N_away HO720.out (fun _ hk => hk.1)) | (rw [add_block]; exact Kd.own_blk (Kd.N_away HO720.out (fun _ hk => hk.1))) | (show (Addr.add _ _).block ≠ _; rw [add_block]; exact Kd.own_blk (Kd.N_away HO720.out (fun _ hk => hk.1))) | (dsimp only; exact Kd.own_blk (Kd.N_away HO720.out (fun _ hk => hk.1)))) _).trans ?_); exact hHeld.2.2.2.2.2.2.2.1), (by (iterate 6 refine (cell_far (p := ⟨gb727, _, none⟩) (by first | exact Kd.own_blk (Kd.N_away HO720.out (fun _ hk => hk.1)) | (rw [add_block]; exact Kd.own_blk (Kd.N_away HO720.out (fun _ hk => hk.1))) | (show (Addr.add _ _).block ≠ _; rw [add_block]; exact Kd.own_blk (Kd.N_away HO720.out (fun _ hk => hk.1))) | (dsimp only; exact Kd.own_blk (Kd.N_away HO720.out (fun _ hk => hk.1)))) _).trans ?_); exact hHeld.2.2.2.2.2.2.2.2.1), (by (iterate 6 refine (cell_far (p := ⟨gb727, _, none⟩) (by first | exact Kd.own_blk (Kd.N_away HO720.out (fun _ hk => hk.1)) | (rw [add_block]; exact Kd.own_blk (Kd.N_away HO720.out (fun _ hk => hk.1))) | (show (Addr.add _ _).block ≠ _; rw [add_block]; exact Kd.own_blk (Kd.N_away HO720.out (fun _ hk => hk.1))) | (dsimp only; exact Kd.own_blk (Kd.N_away HO720.out (fun _ hk => hk.1)))) _).trans ?_); exact hHeld.2.2.2.2.2.2.2.2.2.1), (by (iterate 6 refine (cell_far (p := ⟨gb727, _, none⟩) (by first | exact Kd.own_blk (Kd.N_away HO720.out (fun _ hk => hk.1)) | (rw [add_block]; exact Kd.own_blk (Kd.N_away HO720.out (fun _ hk => hk.1))) | (show (Addr.add _ _).block ≠ _; rw [add_block]; exact Kd.own_blk (Kd.N_away HO720.out (fun _ hk => hk.1))) | (dsimp only; exact Kd.own_blk (Kd.N_away HO720.out (fun _ hk => hk.1)))) _).trans ?_); exact hHeld.2.2.2.2.2.2.2.2.2.2.1), (by (iterate 6 refine (cell_far (p := ⟨gb727, _, none⟩) (by first | exact Kd.own_blk (Kd.N_away HO720.out (fun _ hk => hk.1)) | (rw [add_block]; exact Kd.own_blk (Kd.N_away HO720.out (fun _ hk => hk.1))) | (show (Addr.add _ _).block ≠ _; rw [add_block]; exact Kd.own_blk (Kd.N_away HO720.out (fun _ hk => hk.1))) | (dsimp only; exact Kd.own_blk (Kd.N_away HO720.out (fun _ hk => hk.1)))) _).trans ?_); exact hHeld.2.2.2.2.2.2.2.2.2.2.2)⟩ (fun hHeld => ?_)
 clear hK K
 refine one_ (i := 11) (N := none) (bm 12 4095) rfl rfl (one_of HT_.out (by kernel_rfl)) (by decide) (fun K hK => ?_)
 have hs71 : w64.cell? ⟨gb728, 0, none⟩ = some (.int .u32 0) := zT BK728 0
 have hfs71 := blk_frozen BK728.out 0
 have hns71_0 := NB727_728.out
 have hms71_0 := NB728_727.out
 have hs72 : w64.cell? ⟨gb728, 1, none⟩ = some (.int .i64 0) := zT BK728 1
 have hfs72 := blk_frozen BK728.out 1
 have hns72_0 := NB727_728.out
 have hms72_0 := NB728_727.out
 have hs73 : w64.cell? ⟨gb728, 2, none⟩ = some (.slice none 0 0) := zT BK728 2
 have hfs73 := blk_frozen BK728.out 2
 have hns73_0 := NB727_728.out
 have hms73_0 := NB728_727.out
 have hs74 : w64.cell? ⟨gb728, 3, none⟩ = some (.int .i64 0) := zT BK728 3
 have hfs74 := blk_frozen BK728.out 3
 have hns74_0 := NB727_728.out
 have hms74_0 := NB728_727.out
 have hs75 : w64.cell? ⟨gb728, 4, none⟩ = some (.int .i64 0) := zT BK728 4
 have hfs75 := blk_frozen BK728.out 4
 have hns75_0 := NB727_728.out
 have hms75_0 := NB728_727.out
 have hs76 : w64.cell? ⟨gb728, 5, none⟩ = some (.slice none 0 0) := zT BK728 5
 have hfs76 := blk_frozen BK728.out 5
 have hns76_0 := NB727_728.out
 have hms76_0 := NB728_727.out
 refine skip_ (w1 := ?_) (by rfl) rfl ?_ ?_
 rotate_left
 · go_simp; rfl
 refine hK.out _ _ ⟨(by (iterate 6 refine (cell_far (p := ⟨gb728, _, none⟩) (by first | exact Kd.own_blk (Kd.N_away HO717.out (fun _ hk => hk.2.2)) | (rw [add_block]; exact Kd.own_blk (Kd.N_away HO717.out (fun _ hk => hk.2.2))) | (show (Addr.add _ _).block ≠ _; rw [add_block]; exact Kd.own_blk (Kd.N_away HO717.out (fun _ hk => hk.2.2))) | (dsimp only; exact Kd.own_blk (Kd.N_away HO717.out (fun _ hk => hk.2.2)))) _).trans ?_); exact hHeld.1), (by (iterate 6 refine (cell_far (p := ⟨gb728, _, none⟩) (by first | exact Kd.own_blk (Kd.N_away HO717.out (fun _ hk => hk.2.2)) | (rw [add_block]; exact Kd.own_blk (Kd.N_away HO717.out (fun _ hk => hk.2.2))) | (show (Addr.add _ _).block ≠ _; rw [add_block]; exact Kd.own_blk (Kd.N_away HO717.out (fun _ hk => hk.2.2))) | (dsimp only; exact Kd.own_blk (Kd.N_away HO717.out (fun _ hk => hk.2.2)))) _).trans ?_); exact hHeld.2.1), (by (iterate 6 refine (cell_far (p := ⟨gb728, _, none⟩) (by first | exact Kd.own_blk (Kd.N_away HO717.out (fun _ hk => hk.2.2)) | (rw [add_block]; exact Kd.own_blk (Kd.N_away HO717.out (fun _ hk => hk.2.2))) | (show (Addr.add _ _).block ≠ _; rw [add_block]; exact Kd.own_blk (Kd.N_away HO717.out (fun _ hk => hk.2.2))) | (dsimp only; exact Kd.own_blk (Kd.N_away HO717.out (fun _ hk => hk.2.2)))) _).trans ?_); exact hHeld.2.2.1), (by (iterate 6 refine (cell_far (p := ⟨gb728, _, none⟩) (by first | exact Kd.own_blk (Kd.N_away HO717.out (fun _ hk => hk.2.2)) | (rw [add_block]; exact Kd.own_blk (Kd.N_away HO717.out (fun _ hk => hk.2.2))) | (show (Addr.add _ _).block ≠ _; rw [add_block]; exact Kd.own_blk (Kd.N_away HO717.out (fun _ hk => hk.2.2))) | (dsimp only; exact Kd.own_blk (Kd.N_away HO717.out (fun _ hk => hk.2.2)))) _).trans ?_); exact hHeld.2.2.2.1), (by (iterate 6 refine (cell_far (p := ⟨gb728, _, none⟩) (by first | exact Kd.own_blk (Kd.N_away HO717.out (fun _ hk => hk.2.2)) | (rw [add_block]; exact Kd.own_blk (Kd.N_away HO717.out (fun _ hk => hk.2.2))) | (show (Addr.add _ _).block ≠ _; rw [add_block]; exact Kd.own_blk (Kd.N_away HO717.out (fun _ hk => hk.2.2))) | (dsimp only; exact Kd.own_blk (Kd.N_away HO717.out (fun _ hk => hk.2.2)))) _).trans ?_); exact hHeld.2.2.2.2.1), (by (iterate 6 refine (cell_far (p := ⟨gb728, _, none⟩) (by first | exact Kd.own_blk (Kd.N_away HO717.out (fun _ hk => hk.2.2)) | (rw [add_block]; exact Kd.own_blk (Kd.N_away HO717.out (fun _ hk => hk.2.2))) | (show (Addr.add _ _).block ≠ _; rw [add_block]; exact Kd.own_blk (Kd.N_away HO717.out (fun _ hk => hk.2.2))) | (dsimp only; exact Kd.own_blk (Kd.N_away HO717.out (fun _ hk => hk.2.2)))) _).trans ?_); exact hHeld.2.2.2.2.2.1), (by (iterate 6 refine (cell_far (p := ⟨gb728, _, none⟩) (by first | exact Kd.own_blk (Kd.N_away HO720.out (fun _ hk => hk.2)) | (rw [add_block]; exact Kd.own_blk (Kd.N_away HO720.out (fun _ hk => hk.2))) | (show (Addr.add _ _).block ≠ _; rw [add_block]; exact Kd.own_blk (Kd.N_away HO720.out (fun _ hk => hk.2))) | (dsimp only; exact Kd.own_blk (Kd.N_away HO720.out (fun _ hk => hk.2)))) _).trans ?_); exact hHeld.2.2.2.2.2.2.1), (by (iterate 6 refine (cell_far (p := ⟨gb728, _, none⟩) (by first | exact Kd.own_blk (Kd.N_away HO720.out (fun _ hk => hk.2)) | (rw [add_block]; exact Kd.own_blk (Kd.N_away HO720.out (fun _ hk => hk.2))) | (show (Addr.add _ _).block ≠ _; rw [add_block]; exact Kd.own_blk (Kd.N_away HO720.out (fun _ hk => hk.2))) | (dsimp only; exact Kd.own_blk (Kd.N_away HO720.out (fun _ hk => hk.2)))) _).trans ?_); exact hHeld.2.2.2.2.2.2.2.1), (by (iterate 6 refine (cell_far (p := ⟨gb728, _, none⟩) (by first | exact Kd.own_blk (Kd.N_away HO720.out (fun _ hk => hk.2)) | (rw [add_block]; exact Kd.own_blk (Kd.N_away HO720.out (fun _ hk => hk.2))) | (show (Addr.add _ _).block ≠ _; rw [add_block]; exact Kd.own_blk (Kd.N_away HO720.out (fun _ hk => hk.2))) | (dsimp only; exact Kd.own_blk (Kd.N_away HO720.out (fun _ hk => hk.2)))) _).trans ?_); exact hHeld.2.2.2.2.2.2.2.2.1), (by (iterate 6 refine (cell_far (p := ⟨gb728, _, none⟩) (by first | exact Kd.own_blk (Kd.N_away HO720.out (fun _ hk => hk.2)) | (rw [add_block]; exact Kd.own_blk (Kd.N_away HO720.out (fun _ hk => hk.2))) | (show (Addr.add _ _).block ≠ _; rw [add_block]; exact Kd.own_blk (Kd.N_away HO720.out (fun _ hk => hk.2))) | (dsimp only; exact Kd.own_blk (Kd.N_away HO720.out (fun _ hk => hk.2)))) _).trans ?_); exact hHeld.2.2.2.2.2.2.2.2.2.1), (by (iterate 6 refine (cell_far (p := ⟨gb728, _, none⟩) (by first | exact Kd.own_blk (Kd.N_away HO720.out (fun _ hk => hk.2)) | (rw [add_block]; exact Kd.own_blk (Kd.N_away HO720.out (fun _ hk => hk.2))) | (show (Addr.add _ _).block ≠ _; rw [add_block]; exact Kd.own_blk (Kd.N_away HO720.out (fun _ hk => hk.2))) | (dsimp only; exact Kd.own_blk (Kd.N_away HO720.out (fun _ hk => hk.2)))) _).trans ?_); exact hHeld.2.2.2.2.2.2.2.2.2.2.1), (by (iterate 6 refine (cell_far (p := ⟨gb728, _, none⟩) (by first | exact Kd.own_blk (Kd.N_away HO720.out (fun _ hk => hk.2)) | (rw [add_block]; exact Kd.own_blk (Kd.N_away HO720.out (fun _ hk => hk.2))) | (show (Addr.add _ _).block ≠ _; rw [add_block]; exact Kd.own_blk (Kd.N_away HO720.out (fun _ hk => hk.2))) | (dsimp only; exact Kd.own_blk (Kd.N_away HO720.out (fun _ hk => hk.2)))) _).trans ?_); exact hHeld.2.2.2.2.2.2.2.2.2.2.2)⟩ (fun hHeld => ?_)
 clear hK K
 refine done_ (done_of HT_.out (by kernel_rfl)) ?_
 have hnb77 := NB727_728.out
 have hnc77 := NB728_727.out
 have hcz78_0 : w64.cell? ⟨gb727, 0, none⟩ = some (.int .u32 0) := zT BK727 0
 have hcz78_1 : w64.cell? ⟨gb727, 1, none⟩ = some (.int .i64 0) := zT BK727 1
 have hcz78_2 : w64.cell? ⟨gb727, 2, none⟩ = some (.slice none 0 0) := zT BK727 2
 have hcz78_3 : w64.cell? ⟨gb727, 3, none⟩ = some (.int .i64 0) := zT BK727 3
 have hcz78_4 : w64.cell? ⟨gb727, 4, none⟩ = some (.int .i64 0) := zT BK727 4
 have hcz78_5 : w64.cell? ⟨gb727, 5, none⟩ = some (.slice none 0 0) := zT BK727 5
 have hfz78_0 := blk_frozen BK727.out 0
 have hfz78_1 := blk_frozen BK727.out 1
 have hfz78_2 := blk_frozen BK727.out 2
 have hfz78_3 := blk_frozen BK727.out 3
 have hfz78_4 := blk_frozen BK727.out 4
 have hfz78_5 := blk_frozen BK727.out 5
 have hcz79_0 : w64.cell? ⟨gb728, 0, none⟩ = some (.int .u32 0) := zT BK728 0
 have hcz79_1 : w64.cell? ⟨gb728, 1, none⟩ = some (.int .i64 0) := zT BK728 1
 have hcz79_2 : w64.cell? ⟨gb728, 2, none⟩ = some (.slice none 0 0) := zT BK728 2
 have hcz79_3 : w64.cell? ⟨gb728, 3, none⟩ = some (.int .i64 0) := zT BK728 3
 have hcz79_4 : w64.cell? ⟨gb728, 4, none⟩ = some (.int .i64 0) := zT BK728 4
 have hcz79_5 : w64.cell? ⟨gb728, 5, none⟩ = some (.slice none 0 0) := zT BK728 5
 have hfz79_0 := blk_frozen BK728.out 0
 have hfz79_1 := blk_frozen BK728.out 1
 have hfz79_2 := blk_frozen BK728.out 2
 have hfz79_3 := blk_frozen BK728.out 3
 have hfz79_4 := blk_frozen BK728.out 4
 have hfz79_5 := blk_frozen BK728.out 5
 try go_wp2_with (first | (go_at_call 10; (with_reducible refine (g11_.calls k _ _ ((rd_T31 t715 t721).f1) _ _ ((rd_T31 t718 t723).f1) t729 _ ?side1 ?side2 ?side3 ?side4 A53.out).mono ?_); (case side1 => repeat (first | exact ((Kd.V_reads' (by (with_reducible repeat (first | apply Kd.V_alloc | apply Kd.V_drewN | apply Kd.V_drew)); exact (Kd.V_mono (Kd.V_mono (Kd.V_far (p := ⟨gb728, 5, none⟩) (Kd.V_far (p := ⟨gb728, 4, none⟩) (Kd.V_far (p := ⟨gb728, 3, none⟩) (Kd.V_far (p := ⟨gb728, 2, none⟩) (Kd.V_far (p := ⟨gb728, 1, none⟩) (Kd.V_far (p := ⟨gb728, 0, none⟩) (Kd.V_far (p := ⟨gb727, 5, none⟩) (Kd.V_far (p := ⟨gb727, 4, none⟩) (Kd.V_far (p := ⟨gb727, 3, none⟩) (Kd.V_far (p := ⟨gb727, 2, none⟩) (Kd.V_far (p := ⟨gb727, 1, none⟩) (Kd.V_far (p := ⟨gb727, 0, none⟩) (Kd.V_mono (Kd.V_mono HL725_2.out (fun k_ hk => (⟨hk, hk.2.2.1⟩ : _ ∧ k_ ≠ gb727))) (fun k_ hk => (⟨hk, hk.1.2.2.2⟩ : _ ∧ k_ ≠ gb728))) (fun _ hk => hk.1.2) (.int .u32 ((rd_T31 t715 t721).f0.f0))) (fun _ hk => hk.1.2) (.int .i64 ((rd_T31 t715 t721).f0.f1))) (fun _ hk => hk.1.2) (.slice A725_2 ((rd_T31 t715 t721).f1).length c725_2)) (fun _ hk => hk.1.2) (.int .i64 ((rd_T31 t715 t721).f2))) (fun _ hk => hk.1.2) (.int .i64 ((rd_T31 t715 t721).f3))) (fun _ hk => hk.1.2) (.slice A725_5 ((rd_T31 t715 t721).f4).length c725_5)) (fun _ hk => hk.2) (.int .u32 ((rd_T31 t718 t723).f0.f0))) (fun _ hk => hk.2) (.int .i64 ((rd_T31 t718 t723).f0.f1))) (fun _ hk => hk.2) (.slice A726_2 ((rd_T31 t718 t723).f1).length c726_2)) (fun _ hk => hk.2) (.int .i64 ((rd_T31 t718 t723).f2))) (fun _ hk => hk.2) (.int .i64 ((rd_T31 t718 t723).f3))) (fun _ hk => hk.2) (.slice A726_5 ((rd_T31 t718 t723).f4).length c726_5)) (fun _ h_ => h_.1)) (fun _ h_ => h_.1)))).2.2) | (with_reducible refine Kd.C_alloc ?_ _) | (with_reducible refine Kd.C_drewN ?_ _) | (with_reducible refine Kd.C_drew ?_))); (case side2 => exact HC725_2.out); (case side3 => repeat (first | exact ((Kd.V_reads' (by (with_reducible repeat (first | apply Kd.V_alloc | apply Kd.V_drewN | apply Kd.V_drew)); exact (Kd.V_mono (Kd.V_mono (Kd.V_far (p := ⟨gb728, 5, none⟩) (Kd.V_far (p := ⟨gb728, 4, none⟩) (Kd.V_far (p := ⟨gb728, 3, none⟩) (Kd.V_far (p := ⟨gb728, 2, none⟩) (Kd.V_far (p := ⟨gb728, 1, none⟩) (Kd.V_far (p := ⟨gb728, 0, none⟩) (Kd.V_far (p := ⟨gb727, 5, none⟩) (Kd.V_far (p := ⟨gb727, 4, none⟩) (Kd.V_far (p := ⟨gb727, 3, none⟩) (Kd.V_far (p := ⟨gb727, 2, none⟩) (Kd.V_far (p := ⟨gb727, 1, none⟩) (Kd.V_far (p := ⟨gb727, 0, none⟩) (Kd.V_mono (Kd.V_mono HL726_2.out (fun k_ hk => (⟨hk, hk.2.1⟩ : _ ∧ k_ ≠ gb727))) (fun k_ hk => (⟨hk, hk.1.2.2⟩ : _ ∧ k_ ≠ gb728))) (fun _ hk => hk.1.2) (.int .u32 ((rd_T31 t715 t721).f0.f0))) (fun _ hk => hk.1.2) (.int .i64 ((rd_T31 t715 t721).f0.f1))) (fun _ hk => hk.1.2) (.slice A725_2 ((rd_T31 t715 t721).f1).length c725_2)) (fun _ hk => hk.1.2) (.int .i64 ((rd_T31 t715 t721).f2))) (fun _ hk => hk.1.2) (.int .i64 ((rd_T31 t715 t721).f3))) (fun _ hk => hk.1.2) (.slice A725_5 ((rd_T31 t715 t721).f4).length c725_5)) (fun _ hk => hk.2) (.int .u32 ((rd_T31 t718 t723).f0.f0))) (fun _ hk => hk.2) (.int .i64 ((rd_T31 t718 t723).f0.f1))) (fun _ hk => hk.2) (.slice A726_2 ((rd_T31 t718 t723).f1).length c726_2)) (fun _ hk => hk.2) (.int .i64 ((rd_T31 t718 t723).f2))) (fun _ hk => hk.2) (.int .i64 ((rd_T31 t718 t723).f3))) (fun _ hk => hk.2) (.slice A726_5 ((rd_T31 t718 t723).f4).length c726_5)) (fun _ h_ => h_.1)) (fun _ h_ => h_.1)))).2.2) | (with_reducible refine Kd.C_alloc ?_ _) | (with_reducible refine Kd.C_drewN ?_ _) | (with_reducible refine Kd.C_drew ?_))); (case side4 => exact HC726_2.out); rintro e w' ⟨rfl, ⟨nd, rfl⟩⟩))
 go_ret
 exact ⟨zE, zB⟩
end Go.Proofs.YtplcdbhklepkgaaDoor.BO
