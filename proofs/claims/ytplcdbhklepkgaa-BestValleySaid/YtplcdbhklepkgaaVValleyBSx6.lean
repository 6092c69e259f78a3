-- Made by gen.py, a program of this session's, over the kit's print.
import Derived.Test.YtplcdbhklepkgaaVValleyShort
import Derived.Test.YtplcdbhklepkgaaVValleyBSx0
namespace Go.Proofs.Ytplcdbhklepkgaa.BS
open Go.RowKit Go.Proofs.YtplcdbhklepkgaaW.PrintWords Go.Proofs.YtplcdbhklepkgaaW.PrintLast Go.Proofs.YtplcdbhklepkgaaW.PrintMore Go.Proofs.Ytplcdbhklepkgaa.GenWords
attribute [local go_sem] max2_int min2_int max_two min_two max_three min_three max_four min_four   -- for this text's walks alone
set_option linter.unusedVariables false
set_option linter.unusedSimpArgs false

/-! ### g25_: function 45 -/
def g25_.f (a0_0 : List S64) (l1 : List Int) (a2 : Int) : Option (Bool) := if 0 < (l1.length : Int) then (if (l1.length : Int) = 1 then (some true) else (if 1 < (l1.length : Int) then (if 0 ≤ (rd l1 0) then (if (rd l1 0) < 16 then (if 0 ≤ (rd l1 1) then (if (rd l1 1) < 16 then (if 16 * (rd l1 0) + (rd l1 1) < (a0_0.length : Int) then (if ((rd_T64 a0_0 (16 * (rd l1 0) + (rd l1 1))).f0) = 1 then (some true) else (if 0 ≤ a2 then (if a2 < 16 then (if 16 * (rd l1 0) + a2 < (a0_0.length : Int) then (some (((rd_T64 a0_0 (16 * (rd l1 0) + a2)).f0) == 1)) else (none)) else (none)) else (none))) else (none)) else (none)) else (none)) else (none)) else (none)) else (none))) else (none)
def g25_.T2 : Bool × List (List Nat × List Nat) := (true, [([], []), ([0], [0]), ([1], [1]), ([2], [2]), ([3], [3]), ([3], [3]), ([3], [3]), ([6, 3], [3, 6]), ([7, 3], [3, 7]), ([4, 3], [3, 4]), ([9, 5, 3], [3, 5, 9]), ([10, 8, 3], [3, 8, 10]), ([11, 3], [3, 11]), ([12, 3], [3, 12]), ([13, 3], [3, 13]), ([3, 14], [3, 14]), ([15, 3], [15]), ([16], [16]), ([16], [16]), ([16], [16]), ([17, 16], [16, 17]), ([20, 18, 16], [16, 18, 20]), ([21, 19, 16], [16, 19, 21]), ([22, 16], [16, 22]), ([23, 16], [16, 23]), ([24, 16], [16, 24]), ([16, 25], [16, 25]), ([26, 16, 0, 1, 2, 3, 4, 5, 6, 7, 8, 9, 10, 11, 12, 13, 14, 15, 16, 17, 18, 19, 20, 21, 22, 23, 24, 25, 26], [26])])
def g25_.B2 : List Nat := [0, 1, 3, 7, 15, 15, 15, 79, 207, 31, 575, 2047, 4095, 8191, 16383, 32767, 65535, 131071, 131071, 131071, 262143, 1572863, 4194303, 8388607, 16777215, 33554431, 67108863, 134217727]
theorem g25_.tab2 : rtab .any (opsOf Try.f45 2) = g25_.T2 := by kernel_rfl
theorem g25_.bits2 : waitsOk g25_.T2.2 g25_.B2 = true := by kernel_rfl
set_option maxHeartbeats 8000000 in
set_option maxRecDepth 100000 in
theorem g25_.calls (gc0_0 : Nat) (a0_0 : List S64) (A1 : Option Addr) (c1 : Nat) (l1 : List Int) (a2 : Int) (r : Bool) (w : World) (hcap0_0 : w.heap[gc0_0]? = some (.cells (ag66 a0_0) 66 (0, 0))) (hr1 : Kd.C (Kd.int .i64) w A1 l1.length l1) (hc1 : l1.length ≤ c1) (h : g25_.f a0_0 l1 a2 = some r) :
 Calls Try.prog 45 #[.pointer (some ⟨gc0_0, 0, none⟩), .slice A1 l1.length c1, .int .i64 a2] w fun e w' => e = .returned (.bool r) ∧ Below w.heap.size w w' := by
 have hu3 := Try.underlying3
 have HR1 := Aside0.mk hr1
 have HC1 := Aside0.mk hc1
 clear hr1 hc1
 have BK203 := Aside0.mk hcap0_0
 clear hcap0_0
 have HB := Aside0.mk (Below.refl w.heap.size w)
 have H : (if 0 < (l1.length : Int) then (if (l1.length : Int) = 1 then (some true) else (if 1 < (l1.length : Int) then (if 0 ≤ (rd l1 0) then (if (rd l1 0) < 16 then (if 0 ≤ (rd l1 1) then (if (rd l1 1) < 16 then (if 16 * (rd l1 0) + (rd l1 1) < (a0_0.length : Int) then (if ((rd_T64 a0_0 (16 * (rd l1 0) + (rd l1 1))).f0) = 1 then (some true) else (if 0 ≤ a2 then (if a2 < 16 then (if 16 * (rd l1 0) + a2 < (a0_0.length : Int) then (some (((rd_T64 a0_0 (16 * (rd l1 0) + a2)).f0) == 1)) else (none)) else (none)) else (none))) else (none)) else (none)) else (none)) else (none)) else (none)) else (none))) else (none)) = some r := h
 clear h
 by_cases c4 : 0 < (l1.length : Int)
 rotate_left
 · rw [if_neg c4] at H; exact absurd H (by simp)
 rw [if_pos c4] at H
 have c4b0 : decide (0 < (l1.length : Int)) = true := decide_eq_true c4
 have c4b1 : decide (0 < l1.length) = true := decide_eq_true (by omega)
 clear c4
 by_cases c5 : (l1.length : Int) = 1
 ·
  rw [if_pos c5] at H
  have c5b0 : ((l1.length : Int) == 1) = true := beq_iff_eq.mpr c5
  have c5b1 : ((l1.length : Int) != 1) = false := bne_eq_false_iff_eq.mpr c5
  clear c5
  obtain rfl := Option.some.inj H
  have p204 : 0 ≤ (0 : Int) := (by omega)
  have q204 : 0 < (l1.length : Int) := od
  obtain ⟨ad204, e204, hx204_0⟩ := Kd.at_int HR1.out 0 p204 q204
  cases e204
  have qi204 : (0 < l1.length) = True := eq_true (by omega)
  (try rw [show ((0 : Int)).toNat = 0 from rfl] at hx204_0)
  (try rw [Addr.add_zero'] at hx204_0)
  replace p204 := eq_true p204
  replace q204 := eq_true q204
  go_enter Try.func45, Try.ntmps45
  try go_wp2
  have n0_ := Aside0.mk (blk_drew BK203.out)
  have n1_ := Aside0.mk (below_drew1 HB.out)
  clear BK203
  clear HB
  have BK203 := n0_
  have HB := n1_
  clear n0_ n1_
  refine start_ (n := 28) (S := fun w' => True) (ds := []) (bm 28 0) (by kernel_rfl) rfl rfl trivial (fun hHeld => ?_); refine with_tabW g25_.tab2 g25_.bits2 (fun HT_ HW_ => ?_)
  generalize w.drew = w6 at BK203 HB hHeld ⊢
  refine pu 0 (some 11) (bm 28 1) HT_ ?_
  refine pu 1 (some 12) (bm 28 3) HT_ ?_
  refine pu 2 (some 13) (bm 28 7) HT_ ?_
  refine pu 3 (some 14) (bm 28 15) HT_ ?_
  refine pn 4 (some 15) (bm 28 31) HT_ ?_
  refine pn 5 (some 16) (bm 28 63) HT_ ?_
  refine pn 6 (some 17) (bm 28 127) HT_ ?_
  refine pn 7 (some 18) (bm 28 255) HT_ ?_
  refine pn 8 (some 19) (bm 28 511) HT_ ?_
  refine pn 9 (some 20) (bm 28 1023) HT_ ?_
  refine pn 10 (some 21) (bm 28 2047) HT_ ?_
  refine pn 11 (some 22) (bm 28 4095) HT_ ?_
  refine pn 12 (some 23) (bm 28 8191) HT_ ?_
  refine pn 13 (some 24) (bm 28 16383) HT_ ?_
  refine pn 14 (some 25) (bm 28 32767) HT_ ?_
  refine pu 15 (some 26) (bm 28 65535) HT_ ?_
  refine pu 16 (some 27) (bm 28 131071) HT_ ?_
  refine pn 17 (some 28) (bm 28 262143) HT_ ?_
  refine pn 18 (some 29) (bm 28 524287) HT_ ?_
  refine pn 19 (some 30) (bm 28 1048575) HT_ ?_
  refine pn 20 (some 31) (bm 28 2097151) HT_ ?_
  refine pn 21 (some 32) (bm 28 4194303) HT_ ?_
  refine pn 22 (some 33) (bm 28 8388607) HT_ ?_
  refine pn 23 (some 34) (bm 28 16777215) HT_ ?_
  refine pn 24 (some 35) (bm 28 33554431) HT_ ?_
  refine pn 25 (some 36) (bm 28 67108863) HT_ ?_
  refine pu 26 (some 37) (bm 28 134217727) HT_ ?_
  refine pu 27 (some 6) (bm 28 268435455) HT_ ?_
  refine done_ (done_of HT_.out (by kernel_rfl)) ?_
  try go_wp2
  go_ret
  exact ⟨zE, zB⟩
 rw [if_neg c5] at H
 have c5b0 : ((l1.length : Int) == 1) = false := beq_eq_false_iff_ne.mpr c5
 have c5b1 : ((l1.length : Int) != 1) = true := bne_iff_ne.mpr c5
 by_cases c7 : 1 < (l1.length : Int)
 rotate_left
 · rw [if_neg c7] at H; exact absurd H (by simp)
 rw [if_pos c7] at H
 have c7b0 : decide (1 < (l1.length : Int)) = true := decide_eq_true c7
 have c7b1 : decide (1 < l1.length) = true := decide_eq_true (by omega)
 clear c7
 by_cases c8 : 0 ≤ (rd l1 0)
 rotate_left
 · rw [if_neg c8] at H; exact absurd H (by simp)
 rw [if_pos c8] at H
 have c8b0 : decide (0 ≤ (rd l1 0)) = true := decide_eq_true c8
 clear c8
 by_cases c9 : (rd l1 0) < 16
 rotate_left
 · rw [if_neg c9] at H; exact absurd H (by simp)
 rw [if_pos c9] at H
 have c9b0 : decide ((rd l1 0) < 16) = true := decide_eq_true c9
 clear c9
 by_cases c10 : 0 ≤ (rd l1 1)
 rotate_left
 · rw [if_neg c10] at H; exact absurd H (by simp)
 rw [if_pos c10] at H
 have c10b0 : decide (0 ≤ (rd l1 1)) = true := decide_eq_true c10
 clear c10
 by_cases c11 : (rd l1 1) < 16
 rotate_left
 · rw [if_neg c11] at H; exact absurd H (by simp)
 rw [if_pos c11] at H
 have c11b0 : decide ((rd l1 1) < 16) = true := decide_eq_true c11
 clear c11
 by_cases c12 : 16 * (rd l1 0) + (rd l1 1) < (a0_0.length : Int)
 rotate_left
 · rw [if_neg c12] at H; exact absurd H (by simp)
 rw [if_pos c12] at H
 have c12b0 : decide (16 * (rd l1 0) + (rd l1 1) < (a0_0.length : Int)) = true := decide_eq_true c12
 clear c12
 by_cases c13 : ((rd_T64 a0_0 (16 * (rd l1 0) + (rd l1 1))).f0) = 1
 ·
  rw [if_pos c13] at H
  have c13b0 : (((rd_T64 a0_0 (16 * (rd l1 0) + (rd l1 1))).f0) == 1) = true := beq_iff_eq.mpr c13
  have c13b1 : (((rd_T64 a0_0 (16 * (rd l1 0) + (rd l1 1))).f0) != 1) = false := bne_eq_false_iff_eq.mpr c13
  clear c13
  obtain rfl := Option.some.inj H
  have p204 : 0 ≤ (0 : Int) := (by omega)
  have q204 : 0 < (l1.length : Int) := od
  obtain ⟨ad204, e204, hx204_0⟩ := Kd.at_int HR1.out 0 p204 q204
  cases e204
  have qi204 : (0 < l1.length) = True := eq_true (by omega)
  (try rw [show ((0 : Int)).toNat = 0 from rfl] at hx204_0)
  (try rw [Addr.add_zero'] at hx204_0)
  replace p204 := eq_true p204
  replace q204 := eq_true q204
  go_enter Try.func45, Try.ntmps45
  try go_wp2
  have n0_ := Aside0.mk (blk_drew BK203.out)
  have n1_ := Aside0.mk (below_drew1 HB.out)
  clear BK203
  clear HB
  have BK203 := n0_
  have HB := n1_
  clear n0_ n1_
  have p205 : 0 ≤ (1 : Int) := (by omega)
  have q205 : 1 < (l1.length : Int) := od
  obtain ⟨ad205, e205, hx205_0⟩ := Kd.at_int HR1.out 1 p205 q205
  have hw205_0 := hx205_0
  (try rw [show ((1 : Int)).toNat = 1 from rfl] at hw205_0)
  (try rw [show 1 * 1 = 1 from rfl] at hw205_0)
  (try simp only [Nat.reduceMul, Nat.reduceEqDiff, Go.Addr.add, ↓reduceIte] at hw205_0)
  obtain rfl : ad204 = ad205 := (by injection e205)
  (try simp only [show (1 : Int).toNat = 1 from rfl, Nat.reduceMul, Nat.reduceEqDiff, Go.Addr.add, ↓reduceIte] at hx205_0)
  have qi205 : (1 < l1.length) = True := eq_true (by omega)
  (try rw [show ((1 : Int)).toNat = 1 from rfl] at hx205_0)
  replace hx205_0 := zL HB hx205_0
  replace p205 := eq_true p205
  replace q205 := eq_true q205
  have pa206_0 := eq_true (od : 0 ≤ (rd l1 0))
  have pa206_1 := eq_true (od : (rd l1 0) < 16)
  have pa206_2 := eq_true (od : 0 ≤ (rd l1 1))
  have pa206_3 := eq_true (od : (rd l1 1) < 16)
  refine start_ (n := 28) (S := fun w' => w'.cell? ⟨ad204.block, ad204.off + 1, none⟩ = some (.int .i64 (rd l1 1)) ∧ w'.cell? ⟨gc0_0, ((rd l1 0) : Int).toNat * 32 + ((rd l1 1) : Int).toNat * 2, none⟩ = some (.int .i64 ((rd_T64 a0_0 (16 * (rd l1 0) + (rd l1 1))).f0))) (ds := []) (bm 28 0) (by kernel_rfl) rfl rfl ⟨(zL HB hw205_0), (arr_cell (enc := ag66_enc) ag66_len BK203.out z64 16 0 (Mi := 16) rfl (i := (rd l1 0)) (j := (rd l1 1)) (of_eq_true pa206_0) (of_eq_true pa206_2) (od) (by decide) rfl : _)⟩ (fun hHeld => ?_); refine with_tabW g25_.tab2 g25_.bits2 (fun HT_ HW_ => ?_)
  generalize w.drew = w14 at BK203 HB hx205_0 hHeld ⊢
  refine pu 0 (some 11) (bm 28 1) HT_ ?_
  refine pu 1 (some 12) (bm 28 3) HT_ ?_
  refine pu 2 (some 13) (bm 28 7) HT_ ?_
  refine pu 3 (some 14) (bm 28 15) HT_ ?_
  refine pu 4 (some 15) (bm 28 31) HT_ ?_
  refine pu 5 (some 16) (bm 28 63) HT_ ?_
  refine pu 6 (some 17) (bm 28 127) HT_ ?_
  refine pu 7 (some 18) (bm 28 255) HT_ ?_
  refine pu 9 (some 20) (bm 28 767) HT_ ?_
  refine pu 10 (some 21) (bm 28 1791) HT_ ?_
  refine tk 8 (some 19) (bm 28 2047) HT_ HW_ hHeld ?_
  refine pu 11 (some 22) (bm 28 4095) HT_ ?_
  refine pu 12 (some 23) (bm 28 8191) HT_ ?_
  refine tk 13 (some 24) (bm 28 16383) HT_ HW_ hHeld ?_
  refine pu 14 (some 25) (bm 28 32767) HT_ ?_
  refine pu 15 (some 26) (bm 28 65535) HT_ ?_
  refine pu 16 (some 27) (bm 28 131071) HT_ ?_
  refine pn 17 (some 28) (bm 28 262143) HT_ ?_
  refine pn 18 (some 29) (bm 28 524287) HT_ ?_
  refine pn 19 (some 30) (bm 28 1048575) HT_ ?_
  refine pn 20 (some 31) (bm 28 2097151) HT_ ?_
  refine pn 21 (some 32) (bm 28 4194303) HT_ ?_
  refine pn 22 (some 33) (bm 28 8388607) HT_ ?_
  refine pn 23 (some 34) (bm 28 16777215) HT_ ?_
  refine pn 24 (some 35) (bm 28 33554431) HT_ ?_
  refine pn 25 (some 36) (bm 28 67108863) HT_ ?_
  refine pu 26 (some 37) (bm 28 134217727) HT_ ?_
  refine pu 27 (some 6) (bm 28 268435455) HT_ ?_
  refine done_ (done_of HT_.out (by kernel_rfl)) ?_
  try go_wp2
  go_ret
  exact ⟨zE, zB⟩
 rw [if_neg c13] at H
 have c13b0 : (((rd_T64 a0_0 (16 * (rd l1 0) + (rd l1 1))).f0) == 1) = false := beq_eq_false_iff_ne.mpr c13
 have c13b1 : (((rd_T64 a0_0 (16 * (rd l1 0) + (rd l1 1))).f0) != 1) = true := bne_iff_ne.mpr c13
 by_cases c15 : 0 ≤ a2
 rotate_left
 · rw [if_neg c15] at H; exact absurd H (by simp)
 rw [if_pos c15] at H
 have c15b0 : decide (0 ≤ a2) = true := decide_eq_true c15
 clear c15
 by_cases c16 : a2 < 16
 rotate_left
 · rw [if_neg c16] at H; exact absurd H (by simp)
 rw [if_pos c16] at H
 have c16b0 : decide (a2 < 16) = true := decide_eq_true c16
 clear c16
 by_cases c17 : 16 * (rd l1 0) + a2 < (a0_0.length : Int)
 rotate_left
 · rw [if_neg c17] at H; exact absurd H (by simp)
 rw [if_pos c17] at H
 have c17b0 : decide (16 * (rd l1 0) + a2 < (a0_0.length : Int)) = true := decide_eq_true c17
 clear c17
 obtain rfl := Option.some.inj H
 have p204 : 0 ≤ (0 : Int) := (by omega)
 have q204 : 0 < (l1.length : Int) := od
 obtain ⟨ad204, e204, hx204_0⟩ := Kd.at_int HR1.out 0 p204 q204
 cases e204
 have qi204 : (0 < l1.length) = True := eq_true (by omega)
 (try rw [show ((0 : Int)).toNat = 0 from rfl] at hx204_0)
 (try rw [Addr.add_zero'] at hx204_0)
 replace p204 := eq_true p204
 replace q204 := eq_true q204
 go_enter Try.func45, Try.ntmps45
 try go_wp2
 have n0_ := Aside0.mk (blk_drew BK203.out)
 have n1_ := Aside0.mk (below_drew1 HB.out)
 clear BK203
 clear HB
 have BK203 := n0_
 have HB := n1_
 clear n0_ n1_
 have p205 : 0 ≤ (1 : Int) := (by omega)
 have q205 : 1 < (l1.length : Int) := od
 obtain ⟨ad205, e205, hx205_0⟩ := Kd.at_int HR1.out 1 p205 q205
 have hw205_0 := hx205_0
 (try rw [show ((1 : Int)).toNat = 1 from rfl] at hw205_0)
 (try rw [show 1 * 1 = 1 from rfl] at hw205_0)
 (try simp only [Nat.reduceMul, Nat.reduceEqDiff, Go.Addr.add, ↓reduceIte] at hw205_0)
 obtain rfl : ad204 = ad205 := (by injection e205)
 (try simp only [show (1 : Int).toNat = 1 from rfl, Nat.reduceMul, Nat.reduceEqDiff, Go.Addr.add, ↓reduceIte] at hx205_0)
 have qi205 : (1 < l1.length) = True := eq_true (by omega)
 (try rw [show ((1 : Int)).toNat = 1 from rfl] at hx205_0)
 replace hx205_0 := zL HB hx205_0
 replace p205 := eq_true p205
 replace q205 := eq_true q205
 have pa206_0 := eq_true (od : 0 ≤ (rd l1 0))
 have pa206_1 := eq_true (od : (rd l1 0) < 16)
 have pa206_2 := eq_true (od : 0 ≤ (rd l1 1))
 have pa206_3 := eq_true (od : (rd l1 1) < 16)
 have pa207_0 := eq_true (od : 0 ≤ (rd l1 0))
 have pa207_1 := eq_true (od : (rd l1 0) < 16)
 have pa207_2 := eq_true (od : 0 ≤ a2)
 have pa207_3 := eq_true (od : a2 < 16)
 refine start_ (n := 28) (S := fun w' => w'.cell? ⟨ad204.block, ad204.off + 1, none⟩ = some (.int .i64 (rd l1 1)) ∧ w'.cell? ⟨gc0_0, ((rd l1 0) : Int).toNat * 32 + ((rd l1 1) : Int).toNat * 2, none⟩ = some (.int .i64 ((rd_T64 a0_0 (16 * (rd l1 0) + (rd l1 1))).f0)) ∧ w'.cell? ⟨gc0_0, ((rd l1 0) : Int).toNat * 32 + (a2 : Int).toNat * 2, none⟩ = some (.int .i64 ((rd_T64 a0_0 (16 * (rd l1 0) + a2)).f0))) (ds := []) (bm 28 0) (by kernel_rfl) rfl rfl ⟨(zL HB hw205_0), (arr_cell (enc := ag66_enc) ag66_len BK203.out z64 16 0 (Mi := 16) rfl (i := (rd l1 0)) (j := (rd l1 1)) (of_eq_true pa206_0) (of_eq_true pa206_2) (od) (by decide) rfl : _), (arr_cell (enc := ag66_enc) ag66_len BK203.out z64 16 0 (Mi := 16) rfl (i := (rd l1 0)) (j := a2) (of_eq_true pa207_0) (of_eq_true pa207_2) (od) (by decide) rfl : _)⟩ (fun hHeld => ?_); refine with_tabW g25_.tab2 g25_.bits2 (fun HT_ HW_ => ?_)
 generalize w.drew = w18 at BK203 HB hx205_0 hHeld ⊢
 refine pu 0 (some 11) (bm 28 1) HT_ ?_
 refine pu 1 (some 12) (bm 28 3) HT_ ?_
 refine pu 2 (some 13) (bm 28 7) HT_ ?_
 refine pu 3 (some 14) (bm 28 15) HT_ ?_
 refine pu 4 (some 15) (bm 28 31) HT_ ?_
 refine pu 5 (some 16) (bm 28 63) HT_ ?_
 refine pu 6 (some 17) (bm 28 127) HT_ ?_
 refine pu 7 (some 18) (bm 28 255) HT_ ?_
 refine pu 9 (some 20) (bm 28 767) HT_ ?_
 refine pu 10 (some 21) (bm 28 1791) HT_ ?_
 refine tk 8 (some 19) (bm 28 2047) HT_ HW_ hHeld ?_
 refine pu 11 (some 22) (bm 28 4095) HT_ ?_
 refine pu 12 (some 23) (bm 28 8191) HT_ ?_
 refine tk 13 (some 24) (bm 28 16383) HT_ HW_ hHeld ?_
 refine pu 14 (some 25) (bm 28 32767) HT_ ?_
 refine pu 15 (some 26) (bm 28 65535) HT_ ?_
 refine pu 16 (some 27) (bm 28 131071) HT_ ?_
 refine pu 17 (some 28) (bm 28 262143) HT_ ?_
 refine pu 18 (some 29) (bm 28 524287) HT_ ?_
 refine pu 19 (some 30) (bm 28 1048575) HT_ ?_
 refine pu 20 (some 31) (bm 28 2097151) HT_ ?_
 refine pu 21 (some 32) (bm 28 4194303) HT_ ?_
 refine pu 22 (some 33) (bm 28 8388607) HT_ ?_
 refine pu 23 (some 34) (bm 28 16777215) HT_ ?_
 refine tk 24 (some 35) (bm 28 33554431) HT_ HW_ hHeld ?_
 refine pu 25 (some 36) (bm 28 67108863) HT_ ?_
 refine pu 26 (some 37) (bm 28 134217727) HT_ ?_
 refine pu 27 (some 6) (bm 28 268435455) HT_ ?_
 refine done_ (done_of HT_.out (by kernel_rfl)) ?_
 try go_wp2
 go_ret
 exact ⟨zE, zB⟩
end Go.Proofs.Ytplcdbhklepkgaa.BS
