-- Made by gen.py, a program of this session's, over the kit's print.
import Derived.Test.YtplcdbhklepkgaaDoorVAnyShort
import Derived.Test.YtplcdbhklepkgaaDoorVAnyBOx0
import Derived.Test.YtplcdbhklepkgaaDoorVAnyBOx4
import Derived.Test.YtplcdbhklepkgaaDoorVAnyBOx7
namespace Go.Proofs.YtplcdbhklepkgaaDoor.BO
open Go.RowKit Go.Proofs.YtplcdbhklepkgaaDoorW.PrintWords Go.Proofs.YtplcdbhklepkgaaDoorW.PrintLast Go.Proofs.YtplcdbhklepkgaaDoorW.PrintMore Go.Proofs.YtplcdbhklepkgaaDoor.GenWords
attribute [local go_sem] max2_int min2_int max_two min_two max_three min_three max_four min_four   -- for this text's walks alone
set_option linter.unusedVariables false
set_option linter.unusedSimpArgs false

/-! ### g12_: function 52 -/
def g12_.l0 : Nat → List Int → List Int → List Int → Int → Int → Option (Int)
  | 0, _, _, _, _, _ => none
  | k + 1, x0, x1, x9, x10, x11 => if x11 < x10 then (if 0 ≤ x11 then (if x11 < (x9.length : Int) then (if x11 ≥ (x1.length : Int) then (some 1) else (if x11 < (x1.length : Int) then ((g20_.f (rd x9 x11) (rd x1 x11)).bind fun t438 => (if t438 = 0 then (g12_.l0 k x0 x1 x9 x10 (wrap64 (x11 + 1))) else (some t438))) else (none))) else (none)) else (none)) else (if (x0.length : Int) < (x1.length : Int) then (some (-1)) else (some 0))
def g12_.f (k : Nat) (l0 : List Int) (l1 : List Int) : Option (Int) := g12_.l0 k l0 l1 l0 (l0.length : Int) 0
theorem g12_.mono_l : ∀ k, (∀ y0 y1 y2 y3 y4, LeO (g12_.l0 k y0 y1 y2 y3 y4) (g12_.l0 (k + 1) y0 y1 y2 y3 y4))
  | 0 => fun _ _ _ _ _ r h => by simp [g12_.l0] at h
  | k + 1 => by
    have ih0 := g12_.mono_l k
    · intro y0 y1 y2 y3 y4
      unfold g12_.l0
      repeat' (with_reducible first | exact ih0 _ _ _ _ _ | exact LeO.refl _ | exact LeO.none _ | refine LeO.ite ?_ ?_ | refine LeO.bind ?_ (fun _ => ?_))
theorem g12_.mono : ∀ a0 a1 k, LeO (g12_.f k a0 a1) (g12_.f (k + 1) a0 a1) := by
  intro a0 a1 k
  have ih0 := g12_.mono_l k
  unfold g12_.f
  repeat' (with_reducible first | exact ih0 _ _ _ _ _ | exact LeO.refl _ | exact LeO.none _ | refine LeO.ite ?_ ?_ | refine LeO.bind ?_ (fun _ => ?_))
set_option maxHeartbeats 8000000 in
set_option maxRecDepth 100000 in
theorem g12_.calls (k : Nat) (A0 : Option Addr) (c0 : Nat) (l0 : List Int) (A1 : Option Addr) (c1 : Nat) (l1 : List Int) (r : Int) (w : World) (hr0 : Kd.C (Kd.int .i64) w A0 l0.length l0) (hc0 : l0.length ≤ c0) (hr1 : Kd.C (Kd.int .i64) w A1 l1.length l1) (hc1 : l1.length ≤ c1) (h : g12_.f k l0 l1 = some r) :
 Calls Tryd.prog 52 #[.slice A0 l0.length c0, .slice A1 l1.length c1] w fun e w' => e = .returned (.int .i64 r) ∧ Drawn0 w w' := by
 have hu3 := Tryd.underlying3
 have HR0 := Aside0.mk hr0
 have HC0 := Aside0.mk hc0
 clear hr0 hc0
 have HR1 := Aside0.mk hr1
 have HC1 := Aside0.mk hc1
 clear hr1 hc1
 have H : (g12_.l0 k l0 l1 l0 (l0.length : Int) 0) = some r := h
 clear h
 have H' := Aside0.mk H
 clear H
 go_enter Tryd.func52, Tryd.ntmps52
 go_wp2
 go_loopg [11] k (fun kq v11 w' => ∃ (x11_1 : Int), v11 = .int .i64 x11_1 ∧ Aside0 (g12_.l0 kq l0 l1 l0 (l0.length : Int) x11_1 = some r) ∧ Aside0 (kq ≤ k) ∧ Drawn0 w w')
 case atStart => exact ⟨(0), zR, H', ⟨Nat.le_refl _⟩, by repeat (first | exact Drawn0.refl _ | apply Drawn0.step)⟩
 clear H'
 try clear c1
 try clear p2
 obtain ⟨x11_1, rfl, HA, HK1, ⟨m1, rfl⟩⟩ := hrel
 rcases gk with _ | k1
 · exact absurd HA.out (by simp [g12_.l0])
 have H := HA.out
 clear HA
 simp only [g12_.l0] at H
 by_cases c3 : x11_1 < (l0.length : Int)
 rotate_left
 ·
  rw [if_neg c3] at H
  have c3b0 : decide (x11_1 < (l0.length : Int)) = false := decide_eq_false c3
  clear c3
  by_cases c10 : (l0.length : Int) < (l1.length : Int)
  ·
   rw [if_pos c10] at H
   have c10b0 : decide ((l0.length : Int) < (l1.length : Int)) = true := decide_eq_true c10
   have c10b1 : decide (l0.length < l1.length) = true := decide_eq_true (Int.ofNat_lt.mp c10)
   clear c10
   obtain rfl := Option.some.inj H
   go_wp2
   go_ret
   exact ⟨zR, by repeat (first | exact Drawn0.refl _ | apply Drawn0.step)⟩
  rw [if_neg c10] at H
  have c10b0 : decide ((l0.length : Int) < (l1.length : Int)) = false := decide_eq_false c10
  have c10b1 : decide (l0.length < l1.length) = false := decide_eq_false (fun h => c10 (Int.ofNat_lt.mpr h))
  clear c10
  obtain rfl := Option.some.inj H
  go_wp2
  go_ret
  exact ⟨zR, by repeat (first | exact Drawn0.refl _ | apply Drawn0.step)⟩
 rw [if_pos c3] at H
 have c3b0 : decide (x11_1 < (l0.length : Int)) = true := decide_eq_true c3
 clear c3
 by_cases c4 : 0 ≤ x11_1
 rotate_left
 · rw [if_neg c4] at H; exact absurd H (by simp)
 rw [if_pos c4] at H
 have c4b0 : decide (0 ≤ x11_1) = true := decide_eq_true c4
 clear c4
 by_cases c5 : x11_1 < (l0.length : Int)
 rotate_left
 · rw [if_neg c5] at H; exact absurd H (by simp)
 rw [if_pos c5] at H
 have c5b0 : decide (x11_1 < (l0.length : Int)) = true := decide_eq_true c5
 clear c5
 by_cases c6 : x11_1 ≥ (l1.length : Int)
 ·
  rw [if_pos c6] at H
  have c6b0 : decide ((l1.length : Int) ≤ x11_1) = true := decide_eq_true c6
  clear c6
  obtain rfl := Option.some.inj H
  have p436 : 0 ≤ (x11_1 : Int) := od
  have q436 : x11_1 < (l0.length : Int) := od
  obtain ⟨ad436, e436, hx436_0⟩ := Kd.at_int HR0.out x11_1 p436 q436
  cases e436
  replace p436 := eq_true p436
  replace q436 := eq_true q436
  go_wp2
  go_ret
  exact ⟨zR, by repeat (first | exact Drawn0.refl _ | apply Drawn0.step)⟩
 rw [if_neg c6] at H
 have c6b0 : decide ((l1.length : Int) ≤ x11_1) = false := decide_eq_false c6
 clear c6
 by_cases c7 : x11_1 < (l1.length : Int)
 rotate_left
 · rw [if_neg c7] at H; exact absurd H (by simp)
 rw [if_pos c7] at H
 have c7b0 : decide (x11_1 < (l1.length : Int)) = true := decide_eq_true c7
 clear c7
 replace H := Option.bind_eq_some_iff.mp H
 obtain ⟨t438, A80, H⟩ := H
 replace H : (if t438 = 0 then (g12_.l0 k1 l0 l1 l0 (l0.length : Int) (wrap64 (x11_1 + 1))) else (some t438)) = some r := H
 have A8 := Aside0.mk A80
 clear A80
 by_cases c9 : t438 = 0
 rotate_left
 ·
  rw [if_neg c9] at H
  have c9b0 : (t438 == 0) = false := beq_eq_false_iff_ne.mpr c9
  have c9b1 : (t438 != 0) = true := bne_iff_ne.mpr c9
  obtain rfl := Option.some.inj H
  have p436 : 0 ≤ (x11_1 : Int) := od
  have q436 : x11_1 < (l0.length : Int) := od
  obtain ⟨ad436, e436, hx436_0⟩ := Kd.at_int HR0.out x11_1 p436 q436
  cases e436
  replace p436 := eq_true p436
  replace q436 := eq_true q436
  have p437 : 0 ≤ (x11_1 : Int) := od
  have q437 : x11_1 < (l1.length : Int) := od
  obtain ⟨ad437, e437, hx437_0⟩ := Kd.at_int HR1.out x11_1 p437 q437
  cases e437
  replace p437 := eq_true p437
  replace q437 := eq_true q437
  go_wp2_with (first | ((with_reducible refine gate_callee (f := 47) rfl ?_); refine goesL_ (some 26) rfl rfl Tryd.func47 (by kernel_rfl) rfl #[.int .i64 (rd l0 x11_1), .int .i64 (rd l1 x11_1)] rfl zM ?_; (with_reducible refine (g20_.calls (rd l0 x11_1) (rd l1 x11_1) t438 _ A8.out).mono ?_); rintro e w' ⟨rfl, ⟨nd, rfl⟩⟩; refine ⟨_, rfl, ?_⟩))
  go_ret
  exact ⟨zR, by repeat (first | exact Drawn0.refl _ | apply Drawn0.step)⟩
 rw [if_pos c9] at H
 have c9b0 : (t438 == 0) = true := beq_iff_eq.mpr c9
 have c9b1 : (t438 != 0) = false := bne_eq_false_iff_eq.mpr c9
 clear c9
 have H' := Aside0.mk H
 clear H
 have p436 : 0 ≤ (x11_1 : Int) := od
 have q436 : x11_1 < (l0.length : Int) := od
 obtain ⟨ad436, e436, hx436_0⟩ := Kd.at_int HR0.out x11_1 p436 q436
 cases e436
 replace p436 := eq_true p436
 replace q436 := eq_true q436
 have p437 : 0 ≤ (x11_1 : Int) := od
 have q437 : x11_1 < (l1.length : Int) := od
 obtain ⟨ad437, e437, hx437_0⟩ := Kd.at_int HR1.out x11_1 p437 q437
 cases e437
 replace p437 := eq_true p437
 replace q437 := eq_true q437
 go_wp2_with (first | ((with_reducible refine gate_callee (f := 47) rfl ?_); refine goesL_ (some 26) rfl rfl Tryd.func47 (by kernel_rfl) rfl #[.int .i64 (rd l0 x11_1), .int .i64 (rd l1 x11_1)] rfl zM ?_; (with_reducible refine (g20_.calls (rd l0 x11_1) (rd l1 x11_1) t438 _ A8.out).mono ?_); rintro e w' ⟨rfl, ⟨nd, rfl⟩⟩; refine ⟨_, rfl, ?_⟩))
 go_roundg k1
 case measure => have := HK1.out; omega
 case rel => exact ⟨(wrap64 (x11_1 + 1)), zR, H', ⟨by have := HK1.out; omega⟩, by repeat (first | exact Drawn0.refl _ | apply Drawn0.step)⟩
/-! ### best_steps_4: function 51 -/
def best_steps_4.f (k : Nat) (a0_0 : Int) (a0_1 : Int) (l0_2 : List Int) (a0_3 : Int) (a0_4 : Int) (l0_5 : List Int) (a1_0 : Int) (a1_1 : Int) (l1_2 : List Int) (a1_3 : Int) (a1_4 : Int) (l1_5 : List Int) : Option (Int) := (g12_.f k l1_2 l0_2).bind fun t441 => (some t441)
theorem best_steps_4.mono : ∀ a0 a1 a2 a3 a4 a5 a6 a7 a8 a9 a10 a11 k, LeO (best_steps_4.f k a0 a1 a2 a3 a4 a5 a6 a7 a8 a9 a10 a11) (best_steps_4.f (k + 1) a0 a1 a2 a3 a4 a5 a6 a7 a8 a9 a10 a11) := by
  intro a0 a1 a2 a3 a4 a5 a6 a7 a8 a9 a10 a11 k
  unfold best_steps_4.f
  repeat' (with_reducible first | exact g12_.mono _ _ _ | exact LeO.refl _ | exact LeO.none _ | refine LeO.ite ?_ ?_ | refine LeO.bind ?_ (fun _ => ?_))
set_option maxHeartbeats 8000000 in
set_option maxRecDepth 100000 in
theorem best_steps_4.calls (k : Nat) (a0_0 : Int) (a0_1 : Int) (A0_2 : Option Addr) (c0_2 : Nat) (l0_2 : List Int) (a0_3 : Int) (a0_4 : Int) (A0_5 : Option Addr) (c0_5 : Nat) (l0_5 : List Int) (a1_0 : Int) (a1_1 : Int) (A1_2 : Option Addr) (c1_2 : Nat) (l1_2 : List Int) (a1_3 : Int) (a1_4 : Int) (A1_5 : Option Addr) (c1_5 : Nat) (l1_5 : List Int) (r : Int) (w : World) (hr0_2 : Kd.C (Kd.int .i64) w A0_2 l0_2.length l0_2) (hc0_2 : l0_2.length ≤ c0_2) (hr0_5 : Kd.C (Kd.int .i64) w A0_5 l0_5.length l0_5) (hc0_5 : l0_5.length ≤ c0_5) (hr1_2 : Kd.C (Kd.int .i64) w A1_2 l1_2.length l1_2) (hc1_2 : l1_2.length ≤ c1_2) (hr1_5 : Kd.C (Kd.int .i64) w A1_5 l1_5.length l1_5) (hc1_5 : l1_5.length ≤ c1_5) (h : best_steps_4.f k a0_0 a0_1 l0_2 a0_3 a0_4 l0_5 a1_0 a1_1 l1_2 a1_3 a1_4 l1_5 = some r) :
 Calls Tryd.prog 51 #[.agg #[.int .u32 a0_0, .int .i64 a0_1, .slice A0_2 l0_2.length c0_2, .int .i64 a0_3, .int .i64 a0_4, .slice A0_5 l0_5.length c0_5], .agg #[.int .u32 a1_0, .int .i64 a1_1, .slice A1_2 l1_2.length c1_2, .int .i64 a1_3, .int .i64 a1_4, .slice A1_5 l1_5.length c1_5]] w fun e w' => e = .returned (.int .i64 r) ∧ Below w.heap.size w w' := by
 have hu31 := Tryd.underlying31
 have hu23 := Tryd.underlying23
 have HR0_2 := Aside0.mk hr0_2
 have HC0_2 := Aside0.mk hc0_2
 clear hr0_2 hc0_2
 have HR0_5 := Aside0.mk hr0_5
 have HC0_5 := Aside0.mk hc0_5
 clear hr0_5 hc0_5
 have HR1_2 := Aside0.mk hr1_2
 have HC1_2 := Aside0.mk hc1_2
 clear hr1_2 hc1_2
 have HR1_5 := Aside0.mk hr1_5
 have HC1_5 := Aside0.mk hc1_5
 clear hr1_5 hc1_5
 have HB := Aside0.mk (Below.refl w.heap.size w)
 have H : ((g12_.f k l1_2 l0_2).bind fun t441 => (some t441)) = some r := h
 clear h
 replace H := Option.bind_eq_some_iff.mp H
 obtain ⟨t441, A30, H⟩ := H
 replace H : (some t441) = some r := H
 have A3 := Aside0.mk A30
 clear A30
 obtain rfl := Option.some.inj H
 go_enter Tryd.func51, Tryd.ntmps51
 go_wp2_with (first | ((with_reducible refine gate_dst (N := 2) rfl ?_); refine bx 2 (#[.int .u32 a0_0, .int .i64 a0_1, .slice A0_2 l0_2.length c0_2, .int .i64 a0_3, .int .i64 a0_4, .slice A0_5 l0_5.length c0_5]) 31 ?_; intro gb439 hg w4 hbox hb; have n0_ := Aside0.mk (below_step zB hb); have n1_ := Aside0.mk (hbox); have n2_ := Aside0.mk ((zG hg : w.heap.size ≤ gb439)); have n3_ := Aside0.mk ((zG hg : w.heap.size ≤ gb439)); clear HB; have HB := n0_; have BK439 := n1_; have GW439 := n2_; have GE439 := n3_; clear n0_ n1_ n2_ n3_; clear hb hbox hg) | ((with_reducible refine gate_dst (N := 3) rfl ?_); refine bx 3 (#[.int .u32 a1_0, .int .i64 a1_1, .slice A1_2 l1_2.length c1_2, .int .i64 a1_3, .int .i64 a1_4, .slice A1_5 l1_5.length c1_5]) 31 ?_; intro gb440 hg w5 hbox hb; have n0_ := Aside0.mk (blk_below (g := gb439) (o := .cells #[.int .u32 a0_0, .int .i64 a0_1, .slice A0_2 l0_2.length c0_2, .int .i64 a0_3, .int .i64 a0_4, .slice A0_5 l0_5.length c0_5] 31 (0, 0)) (zK BK439) hb); have n1_ := Aside0.mk (below_step zB hb); have n2_ := Aside0.mk (hbox); have n3_ := Aside0.mk ((zG hg : w.heap.size ≤ gb440)); have n4_ := Aside0.mk ((zG hg : w.heap.size ≤ gb440)); have n5_ := Aside0.mk ((by rw [hg]; exact Nat.ne_of_lt (blk_lt (g := gb439) (o := .cells #[.int .u32 a0_0, .int .i64 a0_1, .slice A0_2 l0_2.length c0_2, .int .i64 a0_3, .int .i64 a0_4, .slice A0_5 l0_5.length c0_5] 31 (0, 0)) (zK BK439)) : gb439 ≠ gb440)); have n6_ := Aside0.mk ((by rw [hg]; exact Nat.ne_of_gt (blk_lt (g := gb439) (o := .cells #[.int .u32 a0_0, .int .i64 a0_1, .slice A0_2 l0_2.length c0_2, .int .i64 a0_3, .int .i64 a0_4, .slice A0_5 l0_5.length c0_5] 31 (0, 0)) (zK BK439)) : gb440 ≠ gb439)); clear BK439; clear HB; have BK439 := n0_; have HB := n1_; have BK440 := n2_; have GW440 := n3_; have GE440 := n4_; have NB439_440 := n5_; have NB440_439 := n6_; clear n0_ n1_ n2_ n3_ n4_ n5_ n6_; clear hb hbox hg; have hnb6 := NB440_439.out; have hnc6 := NB439_440.out; have hcz7_0 : w5.cell? ⟨gb440, 0, none⟩ = some (.int .u32 a1_0) := zT BK440 0; have hcz7_1 : w5.cell? ⟨gb440, 1, none⟩ = some (.int .i64 a1_1) := zT BK440 1; have hcz7_2 : w5.cell? ⟨gb440, 2, none⟩ = some (.slice A1_2 l1_2.length c1_2) := zT BK440 2; have hcz7_3 : w5.cell? ⟨gb440, 3, none⟩ = some (.int .i64 a1_3) := zT BK440 3; have hcz7_4 : w5.cell? ⟨gb440, 4, none⟩ = some (.int .i64 a1_4) := zT BK440 4; have hcz7_5 : w5.cell? ⟨gb440, 5, none⟩ = some (.slice A1_5 l1_5.length c1_5) := zT BK440 5; have hfz7_0 := blk_frozen BK440.out 0; have hfz7_1 := blk_frozen BK440.out 1; have hfz7_2 := blk_frozen BK440.out 2; have hfz7_3 := blk_frozen BK440.out 3; have hfz7_4 := blk_frozen BK440.out 4; have hfz7_5 := blk_frozen BK440.out 5; have hcz8_0 : w5.cell? ⟨gb439, 0, none⟩ = some (.int .u32 a0_0) := zT BK439 0; have hcz8_1 : w5.cell? ⟨gb439, 1, none⟩ = some (.int .i64 a0_1) := zT BK439 1; have hcz8_2 : w5.cell? ⟨gb439, 2, none⟩ = some (.slice A0_2 l0_2.length c0_2) := zT BK439 2; have hcz8_3 : w5.cell? ⟨gb439, 3, none⟩ = some (.int .i64 a0_3) := zT BK439 3; have hcz8_4 : w5.cell? ⟨gb439, 4, none⟩ = some (.int .i64 a0_4) := zT BK439 4; have hcz8_5 : w5.cell? ⟨gb439, 5, none⟩ = some (.slice A0_5 l0_5.length c0_5) := zT BK439 5; have hfz8_0 := blk_frozen BK439.out 0; have hfz8_1 := blk_frozen BK439.out 1; have hfz8_2 := blk_frozen BK439.out 2; have hfz8_3 := blk_frozen BK439.out 3; have hfz8_4 := blk_frozen BK439.out 4; have hfz8_5 := blk_frozen BK439.out 5) | ((with_reducible refine gate_callee (f := 52) rfl ?_); refine goesL_ (some 9) rfl rfl Tryd.func52 (by kernel_rfl) rfl #[.slice A1_2 l1_2.length c1_2, .slice A0_2 l0_2.length c0_2] rfl zM ?_; (with_reducible refine (g12_.calls k _ _ l1_2 _ _ l0_2 t441 _ ?side1 ?side2 ?side3 ?side4 A3.out).mono ?_); (case side1 => exact zC HR1_2 HB); (case side2 => exact HC1_2.out); (case side3 => exact zC HR0_2 HB); (case side4 => exact HC0_2.out); rintro e w' ⟨rfl, ⟨nd, rfl⟩⟩; refine ⟨_, rfl, ?_⟩))
 go_ret
 exact ⟨zE, zB⟩
end Go.Proofs.YtplcdbhklepkgaaDoor.BO
