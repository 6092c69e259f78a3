-- Made by gen.py, a program of this session's, over the kit's print.
import Derived.Test.YtplcdbhklepkgaaDoorVAnyShort
import Derived.Test.YtplcdbhklepkgaaDoorVAnyBOx4
import Derived.Test.YtplcdbhklepkgaaDoorVAnyBOx6
import Derived.Test.YtplcdbhklepkgaaDoorVAnyBOx7
import Derived.Test.YtplcdbhklepkgaaDoorVAnyBOx8
import Derived.Test.YtplcdbhklepkgaaDoorVAnyBOx0
namespace Go.Proofs.YtplcdbhklepkgaaDoor.BO
open Go.RowKit Go.Proofs.YtplcdbhklepkgaaDoorW.PrintWords Go.Proofs.YtplcdbhklepkgaaDoorW.PrintLast Go.Proofs.YtplcdbhklepkgaaDoorW.PrintMore Go.Proofs.YtplcdbhklepkgaaDoor.GenWords
attribute [local go_sem] max2_int min2_int max_two min_two max_three min_three max_four min_four   -- for this text's walks alone
set_option linter.unusedVariables false
set_option linter.unusedSimpArgs false

/-- A comparison of two routes, with its contract. -/
structure Cmp where
  F : FuncId
  cf : Nat → Int → Int → (List Int) → Int → Int → (List Int) → Int → Int → (List Int) → Int → Int → (List Int) → Option (Int)
  mono : ∀ a0 a1 a2 a3 a4 a5 a6 a7 a8 a9 a10 a11 k, LeO (cf k a0 a1 a2 a3 a4 a5 a6 a7 a8 a9 a10 a11) (cf (k + 1) a0 a1 a2 a3 a4 a5 a6 a7 a8 a9 a10 a11)
  hf : ∃ fn, Tryd.prog.funcs[F]? = some fn ∧ (fn.name == "runtime.NumGoroutine") = false ∧ fn.body.isSome = true
  calls : ∀ (k : Nat) (a0_0 : Int) (a0_1 : Int) (A0_2 : Option Addr) (c0_2 : Nat) (l0_2 : List Int) (a0_3 : Int) (a0_4 : Int) (A0_5 : Option Addr) (c0_5 : Nat) (l0_5 : List Int) (a1_0 : Int) (a1_1 : Int) (A1_2 : Option Addr) (c1_2 : Nat) (l1_2 : List Int) (a1_3 : Int) (a1_4 : Int) (A1_5 : Option Addr) (c1_5 : Nat) (l1_5 : List Int) (r : Int) (w : World) (hr0_2 : Kd.C (Kd.int .i64) w A0_2 l0_2.length l0_2) (hc0_2 : l0_2.length ≤ c0_2) (hr0_5 : Kd.C (Kd.int .i64) w A0_5 l0_5.length l0_5) (hc0_5 : l0_5.length ≤ c0_5) (hr1_2 : Kd.C (Kd.int .i64) w A1_2 l1_2.length l1_2) (hc1_2 : l1_2.length ≤ c1_2) (hr1_5 : Kd.C (Kd.int .i64) w A1_5 l1_5.length l1_5) (hc1_5 : l1_5.length ≤ c1_5) (h : cf k a0_0 a0_1 l0_2 a0_3 a0_4 l0_5 a1_0 a1_1 l1_2 a1_3 a1_4 l1_5 = some r), Calls Tryd.prog F #[.agg #[.int .u32 a0_0, .int .i64 a0_1, .slice A0_2 l0_2.length c0_2, .int .i64 a0_3, .int .i64 a0_4, .slice A0_5 l0_5.length c0_5], .agg #[.int .u32 a1_0, .int .i64 a1_1, .slice A1_2 l1_2.length c1_2, .int .i64 a1_3, .int .i64 a1_4, .slice A1_5 l1_5.length c1_5]] w fun e w' => e = .returned (.int .i64 r) ∧ Below w.heap.size w w'
def c_1 : Cmp where
  F := 46
  cf := fun _ => best_steps_1.f
  mono := fun _ _ _ _ _ _ _ _ _ _ _ _ _ => LeO.refl _
  hf := ⟨_, Tryd.func46, by kernel_rfl, rfl⟩
  calls := fun _ => best_steps_1.calls
def c_2 : Cmp where
  F := 48
  cf := fun _ => best_steps_2.f
  mono := fun _ _ _ _ _ _ _ _ _ _ _ _ _ => LeO.refl _
  hf := ⟨_, Tryd.func48, by kernel_rfl, rfl⟩
  calls := fun _ => best_steps_2.calls
def c_3 : Cmp where
  F := 49
  cf := fun _ => best_steps_3.f
  mono := fun _ _ _ _ _ _ _ _ _ _ _ _ _ => LeO.refl _
  hf := ⟨_, Tryd.func49, by kernel_rfl, rfl⟩
  calls := fun _ => best_steps_3.calls
def c_4 : Cmp where
  F := 51
  cf := best_steps_4.f
  mono := best_steps_4.mono
  hf := ⟨_, Tryd.func51, by kernel_rfl, rfl⟩
  calls := best_steps_4.calls
def g17_.f (C : Cmp) (k : Nat) (a0 : Int)  (l2_0 : List (S31)) (a3_0 : Int) : Option (Bool) := if 0 ≤ a0 then (if a0 < (l2_0.length : Int) then (if 0 ≤ a3_0 then (if a3_0 < (l2_0.length : Int) then ((C.cf k ((rd_T31 l2_0 a0).f0.f0) ((rd_T31 l2_0 a0).f0.f1) ((rd_T31 l2_0 a0).f1) ((rd_T31 l2_0 a0).f2) ((rd_T31 l2_0 a0).f3) ((rd_T31 l2_0 a0).f4) ((rd_T31 l2_0 a3_0).f0.f0) ((rd_T31 l2_0 a3_0).f0.f1) ((rd_T31 l2_0 a3_0).f1) ((rd_T31 l2_0 a3_0).f2) ((rd_T31 l2_0 a3_0).f3) ((rd_T31 l2_0 a3_0).f4)).bind fun t463 => (some (decide (t463 > 0)))) else (none)) else (none)) else (none)) else (none)
theorem g17_.mono (C : Cmp) : ∀ a0 a1 a2 k, LeO (g17_.f C k a0 a1 a2) (g17_.f C (k + 1) a0 a1 a2) := by
  intro a0 a1 a2 k
  unfold g17_.f
  repeat' (with_reducible first | exact C.mono _ _ _ _ _ _ _ _ _ _ _ _ _ | exact LeO.refl _ | exact LeO.none _ | refine LeO.ite ?_ ?_ | refine LeO.bind ?_ (fun _ => ?_))
def g17_.T1 : Bool × List (List Nat × List Nat) := (true, [([], []), ([], []), ([], []), ([1, 2], [1, 2]), ([3], [3]), ([], []), ([], []), ([5, 6], [5, 6]), ([7], [7]), ([0, 4, 8], [0, 4, 8]), ([9], [9]), ([10, 9, 0, 1, 2, 3, 4, 5, 6, 7, 8, 9, 10], [10])])
def g17_.B1 : List Nat := [0, 0, 0, 6, 14, 0, 0, 96, 224, 511, 1023, 2047]
theorem g17_.tab1 : rtab .any (opsOf Tryd.f55 1) = g17_.T1 := by kernel_rfl
theorem g17_.bits1 : waitsOk g17_.T1.2 g17_.B1 = true := by kernel_rfl
set_option maxHeartbeats 8000000 in
set_option maxRecDepth 100000 in
theorem g17_.calls (C : Cmp) (k : Nat) (a0 : Int) (gc1_0 : Nat)  (gc2_0 : Nat) (A2_0 : Option Addr) (c2_0 : Nat) (l2_0 : List (S31)) (gc3_0 : Nat) (a3_0 : Int) (r : Bool) (w : World) (hcap1_0 : w.heap[gc1_0]? = some (.cells #[.func (.func C.F) #[] #[]] 65 (0, 0))) (hr2_0 : Kd.C k31 w A2_0 l2_0.length l2_0) (hc2_0 : l2_0.length ≤ c2_0) (hcap2_0 : w.heap[gc2_0]? = some (.cells #[.slice A2_0 l2_0.length c2_0] 22 (0, 0))) (hcap3_0 : w.heap[gc3_0]? = some (.cells #[.int .i64 a3_0] 3 (0, 0))) (h : g17_.f C k a0 l2_0 a3_0 = some r) :
 Calls Tryd.prog 55 #[.int .i64 a0, .pointer (some ⟨gc1_0, 0, none⟩), .pointer (some ⟨gc2_0, 0, none⟩), .pointer (some ⟨gc3_0, 0, none⟩)] w fun e w' => e = .returned (.bool r) ∧ Below w.heap.size w w' := by
 have hu22 := Tryd.underlying22
 have hu31 := Tryd.underlying31
 have hu3 := Tryd.underlying3
 have HR2_0 := Aside0.mk hr2_0
 have HC2_0 := Aside0.mk hc2_0
 clear hr2_0 hc2_0
 have BK458 := Aside0.mk hcap1_0
 clear hcap1_0
 have BK459 := Aside0.mk hcap2_0
 clear hcap2_0
 have BK460 := Aside0.mk hcap3_0
 clear hcap3_0
 have HB := Aside0.mk (Below.refl w.heap.size w)
 have H : (if 0 ≤ a0 then (if a0 < (l2_0.length : Int) then (if 0 ≤ a3_0 then (if a3_0 < (l2_0.length : Int) then ((C.cf k ((rd_T31 l2_0 a0).f0.f0) ((rd_T31 l2_0 a0).f0.f1) ((rd_T31 l2_0 a0).f1) ((rd_T31 l2_0 a0).f2) ((rd_T31 l2_0 a0).f3) ((rd_T31 l2_0 a0).f4) ((rd_T31 l2_0 a3_0).f0.f0) ((rd_T31 l2_0 a3_0).f0.f1) ((rd_T31 l2_0 a3_0).f1) ((rd_T31 l2_0 a3_0).f2) ((rd_T31 l2_0 a3_0).f3) ((rd_T31 l2_0 a3_0).f4)).bind fun t463 => (some (decide (t463 > 0)))) else (none)) else (none)) else (none)) else (none)) = some r := h
 clear h
 by_cases c5 : 0 ≤ a0
 rotate_left
 · rw [if_neg c5] at H; exact absurd H (by simp)
 rw [if_pos c5] at H
 have c5b0 : decide (0 ≤ a0) = true := decide_eq_true c5
 clear c5
 by_cases c6 : a0 < (l2_0.length : Int)
 rotate_left
 · rw [if_neg c6] at H; exact absurd H (by simp)
 rw [if_pos c6] at H
 have c6b0 : decide (a0 < (l2_0.length : Int)) = true := decide_eq_true c6
 clear c6
 by_cases c7 : 0 ≤ a3_0
 rotate_left
 · rw [if_neg c7] at H; exact absurd H (by simp)
 rw [if_pos c7] at H
 have c7b0 : decide (0 ≤ a3_0) = true := decide_eq_true c7
 clear c7
 by_cases c8 : a3_0 < (l2_0.length : Int)
 rotate_left
 · rw [if_neg c8] at H; exact absurd H (by simp)
 rw [if_pos c8] at H
 have c8b0 : decide (a3_0 < (l2_0.length : Int)) = true := decide_eq_true c8
 clear c8
 replace H := Option.bind_eq_some_iff.mp H
 obtain ⟨t463, A90, H⟩ := H
 replace H : (some (decide (t463 > 0))) = some r := H
 have A9 := Aside0.mk A90
 clear A90
 obtain rfl := Option.some.inj H
 go_enter Tryd.func55, Tryd.ntmps55
 try go_wp2
 have n0_ := Aside0.mk (blk_drew BK458.out)
 have n1_ := Aside0.mk (blk_drew BK459.out)
 have n2_ := Aside0.mk (blk_drew BK460.out)
 have n3_ := Aside0.mk (below_drew1 HB.out)
 clear BK458
 clear BK459
 clear BK460
 clear HB
 have BK458 := n0_
 have BK459 := n1_
 have BK460 := n2_
 have HB := n3_
 clear n0_ n1_ n2_ n3_
 have p461 : 0 ≤ (a0 : Int) := od
 have q461 : a0 < (l2_0.length : Int) := od
 obtain ⟨ad461, A461_2, c461_2, A461_5, c461_5, e461, hx461_0, hx461_1, hx461_2, hx461_3, hx461_4, hx461_5, hl461_2, hi461_2, hl461_5, hi461_5⟩ := at_T31 HR2_0.out a0 p461 q461
 have hw461_5 := hx461_5
 have hw461_4 := hx461_4
 have hw461_3 := hx461_3
 have hw461_2 := hx461_2
 have hw461_1 := hx461_1
 have hw461_0 := hx461_0
 cases e461
 replace hx461_0 := zL HB hx461_0
 replace hx461_1 := zL HB hx461_1
 replace hx461_2 := zL HB hx461_2
 replace hx461_3 := zL HB hx461_3
 replace hx461_4 := zL HB hx461_4
 replace hx461_5 := zL HB hx461_5
 have HR461_2 := Aside0.mk hi461_2
 have HC461_2 := Aside0.mk hl461_2
 clear hi461_2 hl461_2
 have HR461_5 := Aside0.mk hi461_5
 have HC461_5 := Aside0.mk hl461_5
 clear hi461_5 hl461_5
 replace p461 := eq_true p461
 replace q461 := eq_true q461
 have p462 : 0 ≤ (a3_0 : Int) := od
 have q462 : a3_0 < (l2_0.length : Int) := od
 obtain ⟨ad462, A462_2, c462_2, A462_5, c462_5, e462, hx462_0, hx462_1, hx462_2, hx462_3, hx462_4, hx462_5, hl462_2, hi462_2, hl462_5, hi462_5⟩ := at_T31 HR2_0.out a3_0 p462 q462
 have hw462_5 := hx462_5
 have hw462_4 := hx462_4
 have hw462_3 := hx462_3
 have hw462_2 := hx462_2
 have hw462_1 := hx462_1
 have hw462_0 := hx462_0
 obtain rfl : ad461 = ad462 := (by injection e462)
 replace hx462_0 := zL HB hx462_0
 replace hx462_1 := zL HB hx462_1
 replace hx462_2 := zL HB hx462_2
 replace hx462_3 := zL HB hx462_3
 replace hx462_4 := zL HB hx462_4
 replace hx462_5 := zL HB hx462_5
 have HR462_2 := Aside0.mk hi462_2
 have HC462_2 := Aside0.mk hl462_2
 clear hi462_2 hl462_2
 have HR462_5 := Aside0.mk hi462_5
 have HC462_5 := Aside0.mk hl462_5
 clear hi462_5 hl462_5
 replace p462 := eq_true p462
 replace q462 := eq_true q462
 refine start_ (n := 12) (S := fun w' => w'.cell? ⟨gc1_0, 0, none⟩ = some (.func (.func C.F) #[] #[]) ∧ w'.cell? ⟨gc2_0, 0, none⟩ = some (.slice (some ad461) l2_0.length c2_0) ∧ w'.cell? ⟨gc3_0, 0, none⟩ = some (.int .i64 a3_0) ∧ w'.cell? (ad461.add ((a0).toNat * 6)) = some (.int .u32 ((rd_T31 l2_0 a0).f0.f0)) ∧ w'.cell? ⟨(ad461.add ((a0).toNat * 6)).block, (ad461.add ((a0).toNat * 6)).off + 1, none⟩ = some (.int .i64 ((rd_T31 l2_0 a0).f0.f1)) ∧ w'.cell? ⟨(ad461.add ((a0).toNat * 6)).block, (ad461.add ((a0).toNat * 6)).off + 2, none⟩ = some (.slice A461_2 ((rd_T31 l2_0 a0).f1).length c461_2) ∧ w'.cell? ⟨(ad461.add ((a0).toNat * 6)).block, (ad461.add ((a0).toNat * 6)).off + 3, none⟩ = some (.int .i64 ((rd_T31 l2_0 a0).f2)) ∧ w'.cell? ⟨(ad461.add ((a0).toNat * 6)).block, (ad461.add ((a0).toNat * 6)).off + 4, none⟩ = some (.int .i64 ((rd_T31 l2_0 a0).f3)) ∧ w'.cell? ⟨(ad461.add ((a0).toNat * 6)).block, (ad461.add ((a0).toNat * 6)).off + 5, none⟩ = some (.slice A461_5 ((rd_T31 l2_0 a0).f4).length c461_5) ∧ w'.cell? (ad461.add ((a3_0).toNat * 6)) = some (.int .u32 ((rd_T31 l2_0 a3_0).f0.f0)) ∧ w'.cell? ⟨(ad461.add ((a3_0).toNat * 6)).block, (ad461.add ((a3_0).toNat * 6)).off + 1, none⟩ = some (.int .i64 ((rd_T31 l2_0 a3_0).f0.f1)) ∧ w'.cell? ⟨(ad461.add ((a3_0).toNat * 6)).block, (ad461.add ((a3_0).toNat * 6)).off + 2, none⟩ = some (.slice A462_2 ((rd_T31 l2_0 a3_0).f1).length c462_2) ∧ w'.cell? ⟨(ad461.add ((a3_0).toNat * 6)).block, (ad461.add ((a3_0).toNat * 6)).off + 3, none⟩ = some (.int .i64 ((rd_T31 l2_0 a3_0).f2)) ∧ w'.cell? ⟨(ad461.add ((a3_0).toNat * 6)).block, (ad461.add ((a3_0).toNat * 6)).off + 4, none⟩ = some (.int .i64 ((rd_T31 l2_0 a3_0).f3)) ∧ w'.cell? ⟨(ad461.add ((a3_0).toNat * 6)).block, (ad461.add ((a3_0).toNat * 6)).off + 5, none⟩ = some (.slice A462_5 ((rd_T31 l2_0 a3_0).f4).length c462_5)) (ds := []) (bm 12 0) (by kernel_rfl) rfl rfl ⟨zT BK458 0, zT BK459 0, zT BK460 0, (zL HB hw461_0), (zL HB hw461_1), (zL HB hw461_2), (zL HB hw461_3), (zL HB hw461_4), (zL HB hw461_5), (zL HB hw462_0), (zL HB hw462_1), (zL HB hw462_2), (zL HB hw462_3), (zL HB hw462_4), (zL HB hw462_5)⟩ (fun hHeld => ?_); refine with_tabW g17_.tab1 g17_.bits1 (fun HT_ HW_ => ?_)
 generalize w.drew = w10 at BK458 BK459 BK460 HB HR461_2 HR461_5 HR462_2 HR462_5 hx461_0 hx461_1 hx461_2 hx461_3 hx461_4 hx461_5 hx462_0 hx462_1 hx462_2 hx462_3 hx462_4 hx462_5 hHeld ⊢
 refine pu 2 (some 8) (bm 12 4) HT_ ?_
 refine tk 0 (some 6) (bm 12 5) HT_ HW_ hHeld ?_
 refine tk 1 (some 7) (bm 12 7) HT_ HW_ hHeld ?_
 refine pu 3 (some 9) (bm 12 15) HT_ ?_
 refine tk 4 (some 10) (bm 12 31) HT_ HW_ hHeld ?_
 refine tk 5 (some 11) (bm 12 63) HT_ HW_ hHeld ?_
 refine tk 6 (some 12) (bm 12 127) HT_ HW_ hHeld ?_
 refine pu 7 (some 13) (bm 12 255) HT_ ?_
 refine tk 8 (some 14) (bm 12 511) HT_ HW_ hHeld ?_
 refine one_ (i := 9) (N := some 15) (bm 12 1023) rfl rfl (one_of HT_.out (by kernel_rfl)) (by decide) (fun K hK => ?_)
 refine goesV_ C.hf.choose_spec.1 C.hf.choose_spec.2.1 C.hf.choose_spec.2.2 #[.agg #[.int .u32 ((rd_T31 l2_0 a0).f0.f0), .int .i64 ((rd_T31 l2_0 a0).f0.f1), .slice A461_2 ((rd_T31 l2_0 a0).f1).length c461_2, .int .i64 ((rd_T31 l2_0 a0).f2), .int .i64 ((rd_T31 l2_0 a0).f3), .slice A461_5 ((rd_T31 l2_0 a0).f4).length c461_5], .agg #[.int .u32 ((rd_T31 l2_0 a3_0).f0.f0), .int .i64 ((rd_T31 l2_0 a3_0).f0.f1), .slice A462_2 ((rd_T31 l2_0 a3_0).f1).length c462_2, .int .i64 ((rd_T31 l2_0 a3_0).f2), .int .i64 ((rd_T31 l2_0 a3_0).f3), .slice A462_5 ((rd_T31 l2_0 a3_0).f4).length c462_5]] (by rfl) rfl rfl rfl zM ?_
 with_reducible refine (C.calls k ((rd_T31 l2_0 a0).f0.f0) ((rd_T31 l2_0 a0).f0.f1) _ _ ((rd_T31 l2_0 a0).f1) ((rd_T31 l2_0 a0).f2) ((rd_T31 l2_0 a0).f3) _ _ ((rd_T31 l2_0 a0).f4) ((rd_T31 l2_0 a3_0).f0.f0) ((rd_T31 l2_0 a3_0).f0.f1) _ _ ((rd_T31 l2_0 a3_0).f1) ((rd_T31 l2_0 a3_0).f2) ((rd_T31 l2_0 a3_0).f3) _ _ ((rd_T31 l2_0 a3_0).f4) t463 _ ?side1 ?side2 ?side3 ?side4 ?side5 ?side6 ?side7 ?side8 A9.out).mono ?_
 (case side1 => exact zC HR461_2 HB)
 (case side2 => exact HC461_2.out)
 (case side3 => exact zC HR461_5 HB)
 (case side4 => exact HC461_5.out)
 (case side5 => exact zC HR462_2 HB)
 (case side6 => exact HC462_2.out)
 (case side7 => exact zC HR462_5 HB)
 (case side8 => exact HC462_5.out)
 rintro e w11 ⟨rfl, hb⟩
 refine ⟨_, rfl, ?_⟩
 have n0_ := Aside0.mk (blk_below (g := gc1_0) (o := .cells #[.func (.func C.F) #[] #[]] 65 (0, 0)) (zK BK458) hb)
 have n1_ := Aside0.mk (blk_below (g := gc2_0) (o := .cells #[.slice (some ad461) l2_0.length c2_0] 22 (0, 0)) (zK BK459) hb)
 have n2_ := Aside0.mk (blk_below (g := gc3_0) (o := .cells #[.int .i64 a3_0] 3 (0, 0)) (zK BK460) hb)
 have n3_ := Aside0.mk (below_step zB hb)
 clear BK458
 clear BK459
 clear BK460
 clear HB
 have BK458 := n0_
 have BK459 := n1_
 have BK460 := n2_
 have HB := n3_
 clear n0_ n1_ n2_ n3_
 (try clear hb)
 (try clear hb2)
 (try clear hk)
 (try clear hi)
 refine hK.out _ _ ⟨zT BK458 0, zT BK459 0, zT BK460 0, (zL HB hw461_0), (zL HB hw461_1), (zL HB hw461_2), (zL HB hw461_3), (zL HB hw461_4), (zL HB hw461_5), (zL HB hw462_0), (zL HB hw462_1), (zL HB hw462_2), (zL HB hw462_3), (zL HB hw462_4), (zL HB hw462_5)⟩ (fun hHeld => ?_)
 clear hK K
 refine norm_ (a' := ?_) ?_ ?_
 rotate_left
 · show Act.put _ (some 15) _ = _; simp only [Act.put, sA, s0, sS, i64_w, i32_w]; rfl
 refine pu 10 (some 16) (bm 12 2047) HT_ ?_
 refine pu 11 (some 5) (bm 12 4095) HT_ ?_
 refine done_ (done_of HT_.out (by kernel_rfl)) ?_
 try go_wp2
 go_ret
 exact ⟨zE, zB⟩
def g4_.l0 (C : Cmp) : Nat → List Int → Int → Int → List (S31) → Int → Option (Int)
  | 0, _, _, _, _, _ => none
  | k + 1, x0, x7, x8, x469000, x470000 => if x8 < x7 then (if 0 ≤ x8 then (if x8 < (x0.length : Int) then ((g17_.f C k (rd x0 x8) x469000 x470000).bind fun t471 => (if t471 = true then (some x8) else (g4_.l0 C k x0 x7 (wrap64 (x8 + 1)) x469000 x470000))) else (none)) else (none)) else (some (-1))
def g4_.f (C : Cmp) (k : Nat) (l0 : List Int) (l1_1 : List (S31)) (a1_2 : Int) : Option (Int) := g4_.l0 C k l0 (l0.length : Int) 0 l1_1 a1_2
theorem g4_.mono_l (C : Cmp) : ∀ k, (∀ y0 y1 y2 y3 y4, LeO (g4_.l0 C k y0 y1 y2 y3 y4) (g4_.l0 C (k + 1) y0 y1 y2 y3 y4))
  | 0 => fun _ _ _ _ _ r h => by simp [g4_.l0] at h
  | k + 1 => by
    have ih0 := g4_.mono_l C k
    · intro y0 y1 y2 y3 y4
      unfold g4_.l0
      repeat' (with_reducible first | exact ih0 _ _ _ _ _ | exact g17_.mono C _ _ _ _ | exact LeO.refl _ | exact LeO.none _ | refine LeO.ite ?_ ?_ | refine LeO.bind ?_ (fun _ => ?_))
theorem g4_.mono (C : Cmp) : ∀ a0 a1 a2 k, LeO (g4_.f C k a0 a1 a2) (g4_.f C (k + 1) a0 a1 a2) := by
  intro a0 a1 a2 k
  have ih0 := g4_.mono_l C k
  unfold g4_.f
  repeat' (with_reducible first | exact ih0 _ _ _ _ _ | exact g17_.mono C _ _ _ _ | exact LeO.refl _ | exact LeO.none _ | refine LeO.ite ?_ ?_ | refine LeO.bind ?_ (fun _ => ?_))
set_option maxHeartbeats 8000000 in
set_option maxRecDepth 100000 in
theorem g4_.calls (C : Cmp) (k : Nat) (A0 : Option Addr) (c0 : Nat) (l0 : List Int) (gc1_0 : Nat) (gc1_1 : Nat) (gc1_2 : Nat) (A1_1 : Option Addr) (c1_1 : Nat) (l1_1 : List (S31)) (a1_2 : Int) (r : Int) (w : World) (hr0 : Kd.C (Kd.int .i64) w A0 l0.length l0) (hc0 : l0.length ≤ c0) (hr1_1 : Kd.C k31 w A1_1 l1_1.length l1_1) (hc1_1 : l1_1.length ≤ c1_1) (hcap1_0 : w.heap[gc1_0]? = some (.cells #[.func (.func C.F) #[] #[]] 65 (0, 0))) (hcap1_1 : w.heap[gc1_1]? = some (.cells #[.slice A1_1 l1_1.length c1_1] 22 (0, 0))) (hcap1_2 : w.heap[gc1_2]? = some (.cells #[.int .i64 a1_2] 3 (0, 0))) (h : g4_.f C k l0 l1_1 a1_2 = some r) :
 Calls Tryd.prog 69 #[.slice A0 l0.length c0, .func (.func 55) #[] #[.pointer (some ⟨gc1_0, 0, none⟩), .pointer (some ⟨gc1_1, 0, none⟩), .pointer (some ⟨gc1_2, 0, none⟩)]] w fun e w' => e = .returned (.int .i64 r) ∧ Below w.heap.size w w' := by
 have hu3 := Tryd.underlying3
 have HR0 := Aside0.mk hr0
 have HC0 := Aside0.mk hc0
 clear hr0 hc0
 have HR1_1 := Aside0.mk hr1_1
 have HC1_1 := Aside0.mk hc1_1
 clear hr1_1 hc1_1
 have HCP1_0 := Aside0.mk hcap1_0
 clear hcap1_0
 have HCP1_1 := Aside0.mk hcap1_1
 clear hcap1_1
 have HCP1_2 := Aside0.mk hcap1_2
 clear hcap1_2
 have HB := Aside0.mk (Below.refl w.heap.size w)
 have H : (g4_.l0 C k l0 (l0.length : Int) 0 l1_1 a1_2) = some r := h
 clear h
 have H' := Aside0.mk H
 clear H
 go_enter Tryd.func69, Tryd.ntmps69
 go_wp2
 go_loopg [8] k (fun kq v8 w' => ∃ (x8_1 : Int), v8 = .int .i64 x8_1 ∧ Aside0 (g4_.l0 C kq l0 (l0.length : Int) x8_1 l1_1 a1_2 = some r) ∧ Aside0 (kq ≤ k) ∧ Aside0 (Below w.heap.size w w'))
 case atStart => exact ⟨(0), zR, H', ⟨Nat.le_refl _⟩, ⟨zB⟩⟩
 clear H'
 try clear c1
 try clear p1
 try clear p2
 obtain ⟨x8_1, rfl, HA, HK1, HB⟩ := hrel
 rcases gk with _ | k1
 · exact absurd HA.out (by simp [g4_.l0])
 have H := HA.out
 clear HA
 simp only [g4_.l0] at H
 by_cases c3 : x8_1 < (l0.length : Int)
 rotate_left
 ·
  rw [if_neg c3] at H
  have c3b0 : decide (x8_1 < (l0.length : Int)) = false := decide_eq_false c3
  clear c3
  obtain rfl := Option.some.inj H
  go_wp2
  go_ret
  exact ⟨zE, zB⟩
 rw [if_pos c3] at H
 have c3b0 : decide (x8_1 < (l0.length : Int)) = true := decide_eq_true c3
 clear c3
 by_cases c4 : 0 ≤ x8_1
 rotate_left
 · rw [if_neg c4] at H; exact absurd H (by simp)
 rw [if_pos c4] at H
 have c4b0 : decide (0 ≤ x8_1) = true := decide_eq_true c4
 clear c4
 by_cases c5 : x8_1 < (l0.length : Int)
 rotate_left
 · rw [if_neg c5] at H; exact absurd H (by simp)
 rw [if_pos c5] at H
 have c5b0 : decide (x8_1 < (l0.length : Int)) = true := decide_eq_true c5
 clear c5
 replace H := Option.bind_eq_some_iff.mp H
 obtain ⟨t471, A60, H⟩ := H
 replace H : (if t471 = true then (some x8_1) else (g4_.l0 C k1 l0 (l0.length : Int) (wrap64 (x8_1 + 1)) l1_1 a1_2)) = some r := H
 have A6 := Aside0.mk A60
 clear A60
 by_cases c7 : t471 = true
 ·
  subst c7
  have H1 : (some x8_1) = some r := by rw [if_pos rfl] at H; exact H
  clear H
  have H := H1
  clear H1
  obtain rfl := Option.some.inj H
  have p470 : 0 ≤ (x8_1 : Int) := od
  have q470 : x8_1 < (l0.length : Int) := od
  obtain ⟨ad470, e470, hx470_0⟩ := Kd.at_int HR0.out x8_1 p470 q470
  cases e470
  replace hx470_0 := zL HB hx470_0
  replace p470 := eq_true p470
  replace q470 := eq_true q470
  go_wp2_with (first | (go_at_call 55; (with_reducible refine (g17_.calls C k1 (rd l0 x8_1) gc1_0 gc1_1 A1_1 c1_1 l1_1 gc1_2 a1_2 true _ ?side1 ?side2 ?side3 ?side4 ?side5 A6.out).mono ?_); (case side1 => exact blk_below HCP1_0.out zB); (case side2 => exact zC HR1_1 HB); (case side3 => exact HC1_1.out); (case side4 => exact blk_below HCP1_1.out zB); (case side5 => exact blk_below HCP1_2.out zB); rintro e w8 ⟨rfl, hb⟩; have n0_ := Aside0.mk (below_step zB hb); clear HB; have HB := n0_; clear n0_; (try clear hb); (try clear hb2); (try clear hk); (try clear hi)))
  go_ret
  exact ⟨zE, zB⟩
 replace c7 := Bool.eq_false_iff.mpr c7
 subst c7
 have H1 : (g4_.l0 C k1 l0 (l0.length : Int) (wrap64 (x8_1 + 1)) l1_1 a1_2) = some r := by rw [if_neg (show ¬ (false = true) by decide)] at H; exact H
 clear H
 have H := H1
 clear H1
 have H' := Aside0.mk H
 clear H
 have p470 : 0 ≤ (x8_1 : Int) := od
 have q470 : x8_1 < (l0.length : Int) := od
 obtain ⟨ad470, e470, hx470_0⟩ := Kd.at_int HR0.out x8_1 p470 q470
 cases e470
 replace hx470_0 := zL HB hx470_0
 replace p470 := eq_true p470
 replace q470 := eq_true q470
 go_wp2_with (first | (go_at_call 55; (with_reducible refine (g17_.calls C k1 (rd l0 x8_1) gc1_0 gc1_1 A1_1 c1_1 l1_1 gc1_2 a1_2 false _ ?side1 ?side2 ?side3 ?side4 ?side5 A6.out).mono ?_); (case side1 => exact blk_below HCP1_0.out zB); (case side2 => exact zC HR1_1 HB); (case side3 => exact HC1_1.out); (case side4 => exact blk_below HCP1_1.out zB); (case side5 => exact blk_below HCP1_2.out zB); rintro e w9 ⟨rfl, hb⟩; have n0_ := Aside0.mk (below_step zB hb); clear HB; have HB := n0_; clear n0_; (try clear hb); (try clear hb2); (try clear hk); (try clear hi)))
 go_roundg k1
 case measure => have := HK1.out; omega
 case rel => exact ⟨(wrap64 (x8_1 + 1)), zR, H', ⟨by have := HK1.out; omega⟩, ⟨zB⟩⟩
def g15_.f (C : Cmp) (k : Nat) (l0 : List Int) (l1_1 : List (S31)) (a1_2 : Int) : Option (Bool) := (g4_.f C k l0 l1_1 a1_2).bind fun t475 => (some (decide (t475 ≥ 0)))
theorem g15_.mono (C : Cmp) : ∀ a0 a1 a2 k, LeO (g15_.f C k a0 a1 a2) (g15_.f C (k + 1) a0 a1 a2) := by
  intro a0 a1 a2 k
  unfold g15_.f
  repeat' (with_reducible first | exact g4_.mono C _ _ _ _ | exact LeO.refl _ | exact LeO.none _ | refine LeO.ite ?_ ?_ | refine LeO.bind ?_ (fun _ => ?_))
set_option maxHeartbeats 8000000 in
set_option maxRecDepth 100000 in
theorem g15_.calls (C : Cmp) (k : Nat) (A0 : Option Addr) (c0 : Nat) (l0 : List Int) (gc1_0 : Nat) (gc1_1 : Nat) (gc1_2 : Nat) (A1_1 : Option Addr) (c1_1 : Nat) (l1_1 : List (S31)) (a1_2 : Int) (r : Bool) (w : World) (hr0 : Kd.C (Kd.int .i64) w A0 l0.length l0) (hc0 : l0.length ≤ c0) (hr1_1 : Kd.C k31 w A1_1 l1_1.length l1_1) (hc1_1 : l1_1.length ≤ c1_1) (hcap1_0 : w.heap[gc1_0]? = some (.cells #[.func (.func C.F) #[] #[]] 65 (0, 0))) (hcap1_1 : w.heap[gc1_1]? = some (.cells #[.slice A1_1 l1_1.length c1_1] 22 (0, 0))) (hcap1_2 : w.heap[gc1_2]? = some (.cells #[.int .i64 a1_2] 3 (0, 0))) (h : g15_.f C k l0 l1_1 a1_2 = some r) :
 Calls Tryd.prog 45 #[.slice A0 l0.length c0, .func (.func 55) #[] #[.pointer (some ⟨gc1_0, 0, none⟩), .pointer (some ⟨gc1_1, 0, none⟩), .pointer (some ⟨gc1_2, 0, none⟩)]] w fun e w' => e = .returned (.bool r) ∧ Below w.heap.size w w' := by
 have HR0 := Aside0.mk hr0
 have HC0 := Aside0.mk hc0
 clear hr0 hc0
 have HR1_1 := Aside0.mk hr1_1
 have HC1_1 := Aside0.mk hc1_1
 clear hr1_1 hc1_1
 have HCP1_0 := Aside0.mk hcap1_0
 clear hcap1_0
 have HCP1_1 := Aside0.mk hcap1_1
 clear hcap1_1
 have HCP1_2 := Aside0.mk hcap1_2
 clear hcap1_2
 have HB := Aside0.mk (Below.refl w.heap.size w)
 have H : ((g4_.f C k l0 l1_1 a1_2).bind fun t475 => (some (decide (t475 ≥ 0)))) = some r := h
 clear h
 replace H := Option.bind_eq_some_iff.mp H
 obtain ⟨t475, A30, H⟩ := H
 replace H : (some (decide (t475 ≥ 0))) = some r := H
 have A3 := Aside0.mk A30
 clear A30
 obtain rfl := Option.some.inj H
 go_enter Tryd.func45, Tryd.ntmps45
 go_wp2_with (first | ((with_reducible refine gate_callee (f := 69) rfl ?_); refine goesL_ (some 7) rfl rfl Tryd.func69 (by kernel_rfl) rfl #[.slice A0 l0.length c0, .func (.func 55) #[] #[.pointer (some ⟨gc1_0, 0, none⟩), .pointer (some ⟨gc1_1, 0, none⟩), .pointer (some ⟨gc1_2, 0, none⟩)]] rfl zM ?_; (with_reducible refine (g4_.calls C k _ _ l0 gc1_0 gc1_1 gc1_2  A1_1 c1_1 l1_1 a1_2 t475 _ ?side1 ?side2 ?side3 ?side4 ?side5 ?side6 ?side7 A3.out).mono ?_); (case side1 => repeat (first | exact HR0.out | (with_reducible refine Kd.C_alloc ?_ _) | (with_reducible refine Kd.C_drewN ?_ _) | (with_reducible refine Kd.C_drew ?_))); (case side2 => exact HC0.out); (case side3 => repeat (first | exact HR1_1.out | (with_reducible refine Kd.C_alloc ?_ _) | (with_reducible refine Kd.C_drewN ?_ _) | (with_reducible refine Kd.C_drew ?_))); (case side4 => exact HC1_1.out); (case side5 => exact blk_below HCP1_0.out zB); (case side6 => exact blk_below HCP1_1.out zB); (case side7 => exact blk_below HCP1_2.out zB); rintro e w4 ⟨rfl, hb⟩; refine ⟨_, rfl, ?_⟩; have n0_ := Aside0.mk (below_step zB hb); clear HB; have HB := n0_; clear n0_; (try clear hb); (try clear hb2); (try clear hk); (try clear hi)))
 go_ret
 exact ⟨zE, zB⟩
def g19_.f (C : Cmp) (k : Nat) (a0 : Int) (l1_0 : List Int)  (l3_0 : List (S31)) : Option (Bool) := (g15_.f C k l1_0 l3_0 a0).bind fun t480 => (some t480)
theorem g19_.mono (C : Cmp) : ∀ a0 a1 a2 k, LeO (g19_.f C k a0 a1 a2) (g19_.f C (k + 1) a0 a1 a2) := by
  intro a0 a1 a2 k
  unfold g19_.f
  repeat' (with_reducible first | exact g15_.mono C _ _ _ _ | exact LeO.refl _ | exact LeO.none _ | refine LeO.ite ?_ ?_ | refine LeO.bind ?_ (fun _ => ?_))
set_option maxHeartbeats 8000000 in
set_option maxRecDepth 100000 in
theorem g19_.calls (C : Cmp) (k : Nat) (a0 : Int) (gc1_0 : Nat) (A1_0 : Option Addr) (c1_0 : Nat) (l1_0 : List Int) (gc2_0 : Nat)  (gc3_0 : Nat) (A3_0 : Option Addr) (c3_0 : Nat) (l3_0 : List (S31)) (r : Bool) (w : World) (hr1_0 : Kd.C (Kd.int .i64) w A1_0 l1_0.length l1_0) (hc1_0 : l1_0.length ≤ c1_0) (hcap1_0 : w.heap[gc1_0]? = some (.cells #[.slice A1_0 l1_0.length c1_0] 23 (0, 0))) (hcap2_0 : w.heap[gc2_0]? = some (.cells #[.func (.func C.F) #[] #[]] 65 (0, 0))) (hr3_0 : Kd.C k31 w A3_0 l3_0.length l3_0) (hc3_0 : l3_0.length ≤ c3_0) (hcap3_0 : w.heap[gc3_0]? = some (.cells #[.slice A3_0 l3_0.length c3_0] 22 (0, 0))) (h : g19_.f C k a0 l1_0 l3_0 = some r) :
 Calls Tryd.prog 54 #[.int .i64 a0, .pointer (some ⟨gc1_0, 0, none⟩), .pointer (some ⟨gc2_0, 0, none⟩), .pointer (some ⟨gc3_0, 0, none⟩)] w fun e w' => e = .returned (.bool r) ∧ Below w.heap.size w w' := by
 have hu3 := Tryd.underlying3
 have hu23 := Tryd.underlying23
 have HR1_0 := Aside0.mk hr1_0
 have HC1_0 := Aside0.mk hc1_0
 clear hr1_0 hc1_0
 have HR3_0 := Aside0.mk hr3_0
 have HC3_0 := Aside0.mk hc3_0
 clear hr3_0 hc3_0
 have BK476 := Aside0.mk hcap1_0
 clear hcap1_0
 have BK477 := Aside0.mk hcap2_0
 clear hcap2_0
 have BK478 := Aside0.mk hcap3_0
 clear hcap3_0
 have HB := Aside0.mk (Below.refl w.heap.size w)
 have H : ((g15_.f C k l1_0 l3_0 a0).bind fun t480 => (some t480)) = some r := h
 clear h
 replace H := Option.bind_eq_some_iff.mp H
 obtain ⟨t480, A50, H⟩ := H
 replace H : (some t480) = some r := H
 have A5 := Aside0.mk A50
 clear A50
 obtain rfl := Option.some.inj H
 go_enter Tryd.func54, Tryd.ntmps54
 go_wp2_with (first | ((with_reducible refine gate_dst (N := 4) rfl ?_); refine bx 4 (#[.int .i64 a0]) 3 ?_; intro gb479 hg w6 hbox hb; have n0_ := Aside0.mk (blk_below (g := gc1_0) (o := .cells #[.slice A1_0 l1_0.length c1_0] 23 (0, 0)) (zK BK476) hb); have n1_ := Aside0.mk (blk_below (g := gc2_0) (o := .cells #[.func (.func C.F) #[] #[]] 65 (0, 0)) (zK BK477) hb); have n2_ := Aside0.mk (blk_below (g := gc3_0) (o := .cells #[.slice A3_0 l3_0.length c3_0] 22 (0, 0)) (zK BK478) hb); have n3_ := Aside0.mk (below_step zB hb); have n4_ := Aside0.mk (hbox); have n5_ := Aside0.mk ((zG hg : w.heap.size ≤ gb479)); have n6_ := Aside0.mk ((zG hg : w.heap.size ≤ gb479)); have n7_ := Aside0.mk ((by rw [hg]; exact Nat.ne_of_lt (blk_lt (g := gc1_0) (o := .cells #[.slice A1_0 l1_0.length c1_0] 23 (0, 0)) (zK BK476)) : gc1_0 ≠ gb479)); have n8_ := Aside0.mk ((by rw [hg]; exact Nat.ne_of_gt (blk_lt (g := gc1_0) (o := .cells #[.slice A1_0 l1_0.length c1_0] 23 (0, 0)) (zK BK476)) : gb479 ≠ gc1_0)); have n9_ := Aside0.mk ((by rw [hg]; exact Nat.ne_of_lt (blk_lt (g := gc2_0) (o := .cells #[.func (.func C.F) #[] #[]] 65 (0, 0)) (zK BK477)) : gc2_0 ≠ gb479)); have n10_ := Aside0.mk ((by rw [hg]; exact Nat.ne_of_gt (blk_lt (g := gc2_0) (o := .cells #[.func (.func C.F) #[] #[]] 65 (0, 0)) (zK BK477)) : gb479 ≠ gc2_0)); have n11_ := Aside0.mk ((by rw [hg]; exact Nat.ne_of_lt (blk_lt (g := gc3_0) (o := .cells #[.slice A3_0 l3_0.length c3_0] 22 (0, 0)) (zK BK478)) : gc3_0 ≠ gb479)); have n12_ := Aside0.mk ((by rw [hg]; exact Nat.ne_of_gt (blk_lt (g := gc3_0) (o := .cells #[.slice A3_0 l3_0.length c3_0] 22 (0, 0)) (zK BK478)) : gb479 ≠ gc3_0)); clear BK476; clear BK477; clear BK478; clear HB; have BK476 := n0_; have BK477 := n1_; have BK478 := n2_; have HB := n3_; have BK479 := n4_; have GW479 := n5_; have GE479 := n6_; have NB476_479 := n7_; have NB479_476 := n8_; have NB477_479 := n9_; have NB479_477 := n10_; have NB478_479 := n11_; have NB479_478 := n12_; clear n0_ n1_ n2_ n3_ n4_ n5_ n6_ n7_ n8_ n9_ n10_ n11_ n12_; clear hb hbox hg; have hnb7 := NB476_479.out; have hnc7 := NB479_476.out; have hcz8_0 : w6.cell? ⟨gc1_0, 0, none⟩ = some (.slice A1_0 l1_0.length c1_0) := zT BK476 0; have hfz8_0 := blk_frozen BK476.out 0) | ((with_reducible refine gate_callee (f := 45) rfl ?_); refine goesL_ (some 8) rfl rfl Tryd.func45 (by kernel_rfl) rfl #[.slice A1_0 l1_0.length c1_0, .func (.func 55) #[] #[.pointer (some ⟨gc2_0, 0, none⟩), .pointer (some ⟨gc3_0, 0, none⟩), .pointer (some ⟨gb479, 0, none⟩)]] rfl zM ?_; (with_reducible refine (g15_.calls C k _ _ l1_0 gc2_0 gc3_0 gb479  A3_0 c3_0 l3_0 a0 t480 _ ?side1 ?side2 ?side3 ?side4 ?side5 ?side6 ?side7 A5.out).mono ?_); (case side1 => exact zC HR1_0 HB); (case side2 => exact HC1_0.out); (case side3 => exact zC HR3_0 HB); (case side4 => exact HC3_0.out); (case side5 => exact (zK BK477)); (case side6 => exact (zK BK478)); (case side7 => exact (zK BK479)); rintro e w9 ⟨rfl, hb⟩; refine ⟨_, rfl, ?_⟩; have n0_ := Aside0.mk (blk_below (g := gc1_0) (o := .cells #[.slice A1_0 l1_0.length c1_0] 23 (0, 0)) (zK BK476) hb); have n1_ := Aside0.mk (blk_below (g := gc2_0) (o := .cells #[.func (.func C.F) #[] #[]] 65 (0, 0)) (zK BK477) hb); have n2_ := Aside0.mk (blk_below (g := gc3_0) (o := .cells #[.slice A3_0 l3_0.length c3_0] 22 (0, 0)) (zK BK478) hb); have n3_ := Aside0.mk (blk_below (g := gb479) (o := .cells #[.int .i64 a0] 3 (0, 0)) (zK BK479) hb); have n4_ := Aside0.mk (below_step zB hb); clear BK476; clear BK477; clear BK478; clear BK479; clear HB; have BK476 := n0_; have BK477 := n1_; have BK478 := n2_; have BK479 := n3_; have HB := n4_; clear n0_ n1_ n2_ n3_ n4_; (try clear hb); (try clear hb2); (try clear hk); (try clear hi)))
 go_ret
 exact ⟨zE, zB⟩
def g3_.l0 (C : Cmp) : Nat → List Int → Int → Int → List Int → List (S31) → Option (Int)
  | 0, _, _, _, _, _ => none
  | k + 1, x0, x7, x8, x485000, x487000 => if x8 < x7 then (if 0 ≤ x8 then (if x8 < (x0.length : Int) then ((g19_.f C k (rd x0 x8) x485000 x487000).bind fun t488 => (if t488 = true then (some x8) else (g3_.l0 C k x0 x7 (wrap64 (x8 + 1)) x485000 x487000))) else (none)) else (none)) else (some (-1))
def g3_.f (C : Cmp) (k : Nat) (l0 : List Int) (l1_0 : List Int) (l1_2 : List (S31)) : Option (Int) := g3_.l0 C k l0 (l0.length : Int) 0 l1_0 l1_2
theorem g3_.mono_l (C : Cmp) : ∀ k, (∀ y0 y1 y2 y3 y4, LeO (g3_.l0 C k y0 y1 y2 y3 y4) (g3_.l0 C (k + 1) y0 y1 y2 y3 y4))
  | 0 => fun _ _ _ _ _ r h => by simp [g3_.l0] at h
  | k + 1 => by
    have ih0 := g3_.mono_l C k
    · intro y0 y1 y2 y3 y4
      unfold g3_.l0
      repeat' (with_reducible first | exact ih0 _ _ _ _ _ | exact g19_.mono C _ _ _ _ | exact LeO.refl _ | exact LeO.none _ | refine LeO.ite ?_ ?_ | refine LeO.bind ?_ (fun _ => ?_))
theorem g3_.mono (C : Cmp) : ∀ a0 a1 a2 k, LeO (g3_.f C k a0 a1 a2) (g3_.f C (k + 1) a0 a1 a2) := by
  intro a0 a1 a2 k
  have ih0 := g3_.mono_l C k
  unfold g3_.f
  repeat' (with_reducible first | exact ih0 _ _ _ _ _ | exact g19_.mono C _ _ _ _ | exact LeO.refl _ | exact LeO.none _ | refine LeO.ite ?_ ?_ | refine LeO.bind ?_ (fun _ => ?_))
set_option maxHeartbeats 8000000 in
set_option maxRecDepth 100000 in
theorem g3_.calls (C : Cmp) (k : Nat) (A0 : Option Addr) (c0 : Nat) (l0 : List Int) (gc1_0 : Nat) (gc1_1 : Nat) (gc1_2 : Nat) (A1_0 : Option Addr) (c1_0 : Nat) (l1_0 : List Int) (A1_2 : Option Addr) (c1_2 : Nat) (l1_2 : List (S31)) (r : Int) (w : World) (hr0 : Kd.C (Kd.int .i64) w A0 l0.length l0) (hc0 : l0.length ≤ c0) (hr1_0 : Kd.C (Kd.int .i64) w A1_0 l1_0.length l1_0) (hc1_0 : l1_0.length ≤ c1_0) (hr1_2 : Kd.C k31 w A1_2 l1_2.length l1_2) (hc1_2 : l1_2.length ≤ c1_2) (hcap1_0 : w.heap[gc1_0]? = some (.cells #[.slice A1_0 l1_0.length c1_0] 23 (0, 0))) (hcap1_1 : w.heap[gc1_1]? = some (.cells #[.func (.func C.F) #[] #[]] 65 (0, 0))) (hcap1_2 : w.heap[gc1_2]? = some (.cells #[.slice A1_2 l1_2.length c1_2] 22 (0, 0))) (h : g3_.f C k l0 l1_0 l1_2 = some r) :
 Calls Tryd.prog 69 #[.slice A0 l0.length c0, .func (.func 54) #[] #[.pointer (some ⟨gc1_0, 0, none⟩), .pointer (some ⟨gc1_1, 0, none⟩), .pointer (some ⟨gc1_2, 0, none⟩)]] w fun e w' => e = .returned (.int .i64 r) ∧ Below w.heap.size w w' := by
 have hu3 := Tryd.underlying3
 have HR0 := Aside0.mk hr0
 have HC0 := Aside0.mk hc0
 clear hr0 hc0
 have HR1_0 := Aside0.mk hr1_0
 have HC1_0 := Aside0.mk hc1_0
 clear hr1_0 hc1_0
 have HR1_2 := Aside0.mk hr1_2
 have HC1_2 := Aside0.mk hc1_2
 clear hr1_2 hc1_2
 have HCP1_0 := Aside0.mk hcap1_0
 clear hcap1_0
 have HCP1_1 := Aside0.mk hcap1_1
 clear hcap1_1
 have HCP1_2 := Aside0.mk hcap1_2
 clear hcap1_2
 have HB := Aside0.mk (Below.refl w.heap.size w)
 have H : (g3_.l0 C k l0 (l0.length : Int) 0 l1_0 l1_2) = some r := h
 clear h
 have H' := Aside0.mk H
 clear H
 go_enter Tryd.func69, Tryd.ntmps69
 go_wp2
 go_loopg [8] k (fun kq v8 w' => ∃ (x8_1 : Int), v8 = .int .i64 x8_1 ∧ Aside0 (g3_.l0 C kq l0 (l0.length : Int) x8_1 l1_0 l1_2 = some r) ∧ Aside0 (kq ≤ k) ∧ Aside0 (Below w.heap.size w w'))
 case atStart => exact ⟨(0), zR, H', ⟨Nat.le_refl _⟩, ⟨zB⟩⟩
 clear H'
 try clear c1
 try clear p1
 try clear p2
 obtain ⟨x8_1, rfl, HA, HK1, HB⟩ := hrel
 rcases gk with _ | k1
 · exact absurd HA.out (by simp [g3_.l0])
 have H := HA.out
 clear HA
 simp only [g3_.l0] at H
 by_cases c3 : x8_1 < (l0.length : Int)
 rotate_left
 ·
  rw [if_neg c3] at H
  have c3b0 : decide (x8_1 < (l0.length : Int)) = false := decide_eq_false c3
  clear c3
  obtain rfl := Option.some.inj H
  go_wp2
  go_ret
  exact ⟨zE, zB⟩
 rw [if_pos c3] at H
 have c3b0 : decide (x8_1 < (l0.length : Int)) = true := decide_eq_true c3
 clear c3
 by_cases c4 : 0 ≤ x8_1
 rotate_left
 · rw [if_neg c4] at H; exact absurd H (by simp)
 rw [if_pos c4] at H
 have c4b0 : decide (0 ≤ x8_1) = true := decide_eq_true c4
 clear c4
 by_cases c5 : x8_1 < (l0.length : Int)
 rotate_left
 · rw [if_neg c5] at H; exact absurd H (by simp)
 rw [if_pos c5] at H
 have c5b0 : decide (x8_1 < (l0.length : Int)) = true := decide_eq_true c5
 clear c5
 replace H := Option.bind_eq_some_iff.mp H
 obtain ⟨t488, A60, H⟩ := H
 replace H : (if t488 = true then (some x8_1) else (g3_.l0 C k1 l0 (l0.length : Int) (wrap64 (x8_1 + 1)) l1_0 l1_2)) = some r := H
 have A6 := Aside0.mk A60
 clear A60
 by_cases c7 : t488 = true
 ·
  subst c7
  have H1 : (some x8_1) = some r := by rw [if_pos rfl] at H; exact H
  clear H
  have H := H1
  clear H1
  obtain rfl := Option.some.inj H
  have p487 : 0 ≤ (x8_1 : Int) := od
  have q487 : x8_1 < (l0.length : Int) := od
  obtain ⟨ad487, e487, hx487_0⟩ := Kd.at_int HR0.out x8_1 p487 q487
  cases e487
  replace hx487_0 := zL HB hx487_0
  replace p487 := eq_true p487
  replace q487 := eq_true q487
  go_wp2_with (first | (go_at_call 54; (with_reducible refine (g19_.calls C k1 (rd l0 x8_1) gc1_0 A1_0 c1_0 l1_0 gc1_1 gc1_2 A1_2 c1_2 l1_2 true _ ?side1 ?side2 ?side3 ?side4 ?side5 ?side6 ?side7 A6.out).mono ?_); (case side1 => exact zC HR1_0 HB); (case side2 => exact HC1_0.out); (case side3 => exact blk_below HCP1_0.out zB); (case side4 => exact blk_below HCP1_1.out zB); (case side5 => exact zC HR1_2 HB); (case side6 => exact HC1_2.out); (case side7 => exact blk_below HCP1_2.out zB); rintro e w8 ⟨rfl, hb⟩; have n0_ := Aside0.mk (below_step zB hb); clear HB; have HB := n0_; clear n0_; (try clear hb); (try clear hb2); (try clear hk); (try clear hi)))
  go_ret
  exact ⟨zE, zB⟩
 replace c7 := Bool.eq_false_iff.mpr c7
 subst c7
 have H1 : (g3_.l0 C k1 l0 (l0.length : Int) (wrap64 (x8_1 + 1)) l1_0 l1_2) = some r := by rw [if_neg (show ¬ (false = true) by decide)] at H; exact H
 clear H
 have H := H1
 clear H1
 have H' := Aside0.mk H
 clear H
 have p487 : 0 ≤ (x8_1 : Int) := od
 have q487 : x8_1 < (l0.length : Int) := od
 obtain ⟨ad487, e487, hx487_0⟩ := Kd.at_int HR0.out x8_1 p487 q487
 cases e487
 replace hx487_0 := zL HB hx487_0
 replace p487 := eq_true p487
 replace q487 := eq_true q487
 go_wp2_with (first | (go_at_call 54; (with_reducible refine (g19_.calls C k1 (rd l0 x8_1) gc1_0 A1_0 c1_0 l1_0 gc1_1 gc1_2 A1_2 c1_2 l1_2 false _ ?side1 ?side2 ?side3 ?side4 ?side5 ?side6 ?side7 A6.out).mono ?_); (case side1 => exact zC HR1_0 HB); (case side2 => exact HC1_0.out); (case side3 => exact blk_below HCP1_0.out zB); (case side4 => exact blk_below HCP1_1.out zB); (case side5 => exact zC HR1_2 HB); (case side6 => exact HC1_2.out); (case side7 => exact blk_below HCP1_2.out zB); rintro e w9 ⟨rfl, hb⟩; have n0_ := Aside0.mk (below_step zB hb); clear HB; have HB := n0_; clear n0_; (try clear hb); (try clear hb2); (try clear hk); (try clear hi)))
 go_roundg k1
 case measure => have := HK1.out; omega
 case rel => exact ⟨(wrap64 (x8_1 + 1)), zR, H', ⟨by have := HK1.out; omega⟩, ⟨zB⟩⟩
def g2_.l0 (C : Cmp) : Nat → List Int → Int → Int → List Int → List (S31) → Option (List Int)
  | 0, _, _, _, _, _ => none
  | k + 1, x0, x5, x6, x490000, x492000 => if x6 < (x0.length : Int) then (if 0 ≤ x6 then ((g19_.f C k (rd x0 x6) x490000 x492000).bind fun t494 => (if t494 = true then (g2_.l0 C k x0 x5 (wrap64 (x6 + 1)) x490000 x492000) else (if 0 ≤ x5 then (if x5 < (x0.length : Int) then (g2_.l0 C k (x0.set (x5 : Int).toNat (rd x0 x6)) (wrap64 (x5 + 1)) (wrap64 (x6 + 1)) x490000 x492000) else (none)) else (none)))) else (none)) else (if 0 ≤ x5 then (if x5 ≤ (x0.length : Int) then ((some (x0.take (x5 : Int).toNat ++ List.replicate (x0.length - (x5 : Int).toNat) 0 : List Int)).bind fun y500 => (if x5 ≤ (y500.length : Int) then (some (y500.take (x5 : Int).toNat)) else (none))) else (none)) else (none))
def g2_.f (C : Cmp) (k : Nat) (l0 : List Int) (l1_0 : List Int) (l1_2 : List (S31)) : Option (List Int) := (g3_.f C k l0 l1_0 l1_2).bind fun t492 => (if t492 = (-1) then (some l0) else (g2_.l0 C k l0 t492 (wrap64 (t492 + 1)) l1_0 l1_2))
theorem g2_.mono_l (C : Cmp) : ∀ k, (∀ y0 y1 y2 y3 y4, LeO (g2_.l0 C k y0 y1 y2 y3 y4) (g2_.l0 C (k + 1) y0 y1 y2 y3 y4))
  | 0 => fun _ _ _ _ _ r h => by simp [g2_.l0] at h
  | k + 1 => by
    have ih0 := g2_.mono_l C k
    · intro y0 y1 y2 y3 y4
      unfold g2_.l0
      repeat' (with_reducible first | exact ih0 _ _ _ _ _ | exact g19_.mono C _ _ _ _ | exact g3_.mono C _ _ _ _ | exact LeO.refl _ | exact LeO.none _ | refine LeO.ite ?_ ?_ | refine LeO.bind ?_ (fun _ => ?_))
theorem g2_.mono (C : Cmp) : ∀ a0 a1 a2 k, LeO (g2_.f C k a0 a1 a2) (g2_.f C (k + 1) a0 a1 a2) := by
  intro a0 a1 a2 k
  have ih0 := g2_.mono_l C k
  unfold g2_.f
  repeat' (with_reducible first | exact ih0 _ _ _ _ _ | exact g19_.mono C _ _ _ _ | exact g3_.mono C _ _ _ _ | exact LeO.refl _ | exact LeO.none _ | refine LeO.ite ?_ ?_ | refine LeO.bind ?_ (fun _ => ?_))
set_option maxHeartbeats 8000000 in
set_option maxRecDepth 100000 in
theorem g2_.calls (C : Cmp) (k : Nat) (P0_ : Nat → Prop) (u9000_ : Value) (l0 : List Int) (gc1_0 : Nat) (gc1_1 : Nat) (gc1_2 : Nat) (A1_0 : Option Addr) (c1_0 : Nat) (l1_0 : List Int) (A1_2 : Option Addr) (c1_2 : Nat) (l1_2 : List (S31)) (r : List Int) (w0 w : World) (hB : Below w0.heap.size w0 w) (ho0 : Kd.R (Kd.int .i64) 3 w w0.heap.size P0_ u9000_ l0) (hr1_0 : ∀ W_, Kept w W_ (fun k_ => P0_ k_) → Kd.C (Kd.int .i64) W_ A1_0 l1_0.length l1_0) (hc1_0 : l1_0.length ≤ c1_0) (hr1_2 : ∀ W_, Kept w W_ (fun k_ => P0_ k_) → Kd.C k31 W_ A1_2 l1_2.length l1_2) (hc1_2 : l1_2.length ≤ c1_2) (hcap1_0 : ∀ W_, Kept w W_ (fun k_ => P0_ k_) → W_.heap[gc1_0]? = some (.cells #[.slice A1_0 l1_0.length c1_0] 23 (0, 0))) (hcap1_1 : ∀ W_, Kept w W_ (fun k_ => P0_ k_) → W_.heap[gc1_1]? = some (.cells #[.func (.func C.F) #[] #[]] 65 (0, 0))) (hcap1_2 : ∀ W_, Kept w W_ (fun k_ => P0_ k_) → W_.heap[gc1_2]? = some (.cells #[.slice A1_2 l1_2.length c1_2] 22 (0, 0))) (h : g2_.f C k l0 l1_0 l1_2 = some r) :
 Calls Tryd.prog 53 #[u9000_, .func (.func 54) #[] #[.pointer (some ⟨gc1_0, 0, none⟩), .pointer (some ⟨gc1_1, 0, none⟩), .pointer (some ⟨gc1_2, 0, none⟩)]] w fun e w' => ∃ v0_ : Value, e = .returned (v0_) ∧ Kd.R (Kd.int .i64) 3 w' w0.heap.size (fun k_ => (P0_ k_ ∨ w.heap.size ≤ k_)) v0_ r ∧ Below w0.heap.size w0 w' ∧ Kept w w' (fun k_ => P0_ k_) := by
 have hu3 := Tryd.underlying3
 have HO0 := Aside0.mk (show Kd.R (Kd.int .i64) 3 w w0.heap.size (fun k_ => (P0_ k_ ∨ w.heap.size ≤ k_)) u9000_ l0 from Kd.R_mono ho0 (fun k_ hk => (.inl hk)))
 have HR1_0 := Aside0.mk hr1_0
 have HC1_0 := Aside0.mk hc1_0
 clear hr1_0 hc1_0
 have HR1_2 := Aside0.mk hr1_2
 have HC1_2 := Aside0.mk hc1_2
 clear hr1_2 hc1_2
 have HCP1_0 := Aside0.mk hcap1_0
 clear hcap1_0
 have HCP1_1 := Aside0.mk hcap1_1
 clear hcap1_1
 have HCP1_2 := Aside0.mk hcap1_2
 clear hcap1_2
 have HK := Aside0.mk (Kept.refl w (fun k_ => P0_ k_))
 have HW0 := Aside0.mk hB.size
 have HB := Aside0.mk hB
 clear hB
 have H : ((g3_.f C k l0 l1_0 l1_2).bind fun t492 => (if t492 = (-1) then (some l0) else (g2_.l0 C k l0 t492 (wrap64 (t492 + 1)) l1_0 l1_2))) = some r := h
 clear h
 replace H := Option.bind_eq_some_iff.mp H
 obtain ⟨t492, A30, H⟩ := H
 replace H : (if t492 = (-1) then (some l0) else (g2_.l0 C k l0 t492 (wrap64 (t492 + 1)) l1_0 l1_2)) = some r := H
 have A3 := Aside0.mk A30
 clear A30
 by_cases c4 : t492 = (-1)
 ·
  rw [if_pos c4] at H
  have c4b0 : (t492 == (-1)) = true := beq_iff_eq.mpr c4
  have c4b1 : (t492 != (-1)) = false := bne_eq_false_iff_eq.mpr c4
  clear c4
  obtain rfl := Option.some.inj H
  obtain ⟨Ao5, co5, eo5⟩ := Kd.R_slice HO0.out
  subst eo5
  go_enter Tryd.func53, Tryd.ntmps53
  go_wp2_with (first | ((with_reducible refine gate_callee (f := 69) rfl ?_); refine goesL_ (some 10) rfl rfl Tryd.func69 (by kernel_rfl) rfl #[.slice Ao5 l0.length co5, .func (.func 54) #[] #[.pointer (some ⟨gc1_0, 0, none⟩), .pointer (some ⟨gc1_1, 0, none⟩), .pointer (some ⟨gc1_2, 0, none⟩)]] rfl zM ?_; (with_reducible refine (g3_.calls C k _ _ l0 gc1_0 gc1_1 gc1_2 A1_0 c1_0 l1_0  A1_2 c1_2 l1_2 t492 _ ?side1 ?side2 ?side3 ?side4 ?side5 ?side6 ?side7 ?side8 ?side9 A3.out).mono ?_); (case side1 => repeat (first | exact (Kd.R_reads' HO0.out).2.2 | (with_reducible refine Kd.C_alloc ?_ _) | (with_reducible refine Kd.C_drewN ?_ _) | (with_reducible refine Kd.C_drew ?_))); (case side2 => exact (Kd.R_reads' HO0.out).2.1); (case side3 => exact Kd.C_kept_now HR1_0.out zH); (case side4 => exact HC1_0.out); (case side5 => exact Kd.C_kept_now HR1_2.out zH); (case side6 => exact HC1_2.out); (case side7 => exact HCP1_0.out _ zH); (case side8 => exact HCP1_1.out _ zH); (case side9 => exact HCP1_2.out _ zH); rintro e w6 ⟨rfl, hb⟩; refine ⟨_, rfl, ?_⟩; have n0_ := Aside0.mk (Kd.R_below (zO HO0) hb); have n1_ := Aside0.mk (Kept.below (S := (fun k_ => P0_ k_)) zH hb); have n2_ := Aside0.mk (below_step zB hb); clear HO0; clear HK; clear HB; have HO0 := n0_; have HK := n1_; have HB := n2_; clear n0_ n1_ n2_; (try clear hb); (try clear hb2); (try clear hk); (try clear hi)))
  go_ret
  exact ⟨_, zE, by (with_reducible repeat (first | apply Kd.R_alloc | apply Kd.R_drewN | apply Kd.R_drew)); exact HO0.out, zB, zH⟩
 rw [if_neg c4] at H
 have c4b0 : (t492 == (-1)) = false := beq_eq_false_iff_ne.mpr c4
 have c4b1 : (t492 != (-1)) = true := bne_iff_ne.mpr c4
 have H' := Aside0.mk H
 clear H
 obtain ⟨Ao7, co7, eo7⟩ := Kd.R_slice HO0.out
 subst eo7
 go_enter Tryd.func53, Tryd.ntmps53
 go_wp2_with (first | ((with_reducible refine gate_callee (f := 69) rfl ?_); refine goesL_ (some 10) rfl rfl Tryd.func69 (by kernel_rfl) rfl #[.slice Ao7 l0.length co7, .func (.func 54) #[] #[.pointer (some ⟨gc1_0, 0, none⟩), .pointer (some ⟨gc1_1, 0, none⟩), .pointer (some ⟨gc1_2, 0, none⟩)]] rfl zM ?_; (with_reducible refine (g3_.calls C k _ _ l0 gc1_0 gc1_1 gc1_2 A1_0 c1_0 l1_0  A1_2 c1_2 l1_2 t492 _ ?side1 ?side2 ?side3 ?side4 ?side5 ?side6 ?side7 ?side8 ?side9 A3.out).mono ?_); (case side1 => repeat (first | exact (Kd.R_reads' HO0.out).2.2 | (with_reducible refine Kd.C_alloc ?_ _) | (with_reducible refine Kd.C_drewN ?_ _) | (with_reducible refine Kd.C_drew ?_))); (case side2 => exact (Kd.R_reads' HO0.out).2.1); (case side3 => exact Kd.C_kept_now HR1_0.out zH); (case side4 => exact HC1_0.out); (case side5 => exact Kd.C_kept_now HR1_2.out zH); (case side6 => exact HC1_2.out); (case side7 => exact HCP1_0.out _ zH); (case side8 => exact HCP1_1.out _ zH); (case side9 => exact HCP1_2.out _ zH); rintro e w8 ⟨rfl, hb⟩; refine ⟨_, rfl, ?_⟩; have n0_ := Aside0.mk (Kd.R_below (zO HO0) hb); have n1_ := Aside0.mk (Kept.below (S := (fun k_ => P0_ k_)) zH hb); have n2_ := Aside0.mk (below_step zB hb); clear HO0; clear HK; clear HB; have HO0 := n0_; have HK := n1_; have HB := n2_; clear n0_ n1_ n2_; (try clear hb); (try clear hb2); (try clear hk); (try clear hi)))
 go_loopg [5, 6] k (fun kq v5 v6 w' => ∃ (x0_1 : List Int) (x5_1 : Int) (x6_1 : Int), v5 = .int .i64 x5_1 ∧ v6 = .int .i64 x6_1 ∧ Aside0 (g2_.l0 C kq x0_1 x5_1 x6_1 l1_0 l1_2 = some r) ∧ Aside0 (kq ≤ k) ∧ Aside0 (Kd.R (Kd.int .i64) 3 w' w0.heap.size (fun k_ => (P0_ k_ ∨ w.heap.size ≤ k_)) (.slice Ao7 l0.length co7) x0_1) ∧ Aside0 (Kept w w' (fun k_ => P0_ k_)) ∧ Aside0 (Below w0.heap.size w0 w'))
 case atStart => exact ⟨(l0), (t492), (wrap64 (t492 + 1)), zR, zR, H', ⟨Nat.le_refl _⟩, ⟨zO HO0⟩, ⟨zH⟩, ⟨zB⟩⟩
 clear H'
 try clear c1
 try clear p1
 try clear p2
 try clear c4
 try clear c4b0
 try clear c4b1
 try clear c5
 try clear c6
 try clear p6
 obtain ⟨x0_1, x5_1, x6_1, rfl, rfl, HA, HK1, HO_0, HK, HB⟩ := hrel
 have hl0_1 := (Kd.R_reads' HO_0.out).1
 rw [hl0_1] at HO_0
 (try simp only [hl0_1])
 rcases gk with _ | k1
 · exact absurd HA.out (by simp [g2_.l0])
 have H := HA.out
 clear HA
 simp only [g2_.l0] at H
 by_cases c9 : x6_1 < (x0_1.length : Int)
 rotate_left
 ·
  rw [if_neg c9] at H
  have c9b0 : decide (x6_1 < (x0_1.length : Int)) = false := decide_eq_false c9
  have c9b0h := c9b0
  (try simp only [hl0_1] at c9b0h)
  clear c9
  by_cases c20 : 0 ≤ x5_1
  rotate_left
  · rw [if_neg c20] at H; exact absurd H (by simp)
  rw [if_pos c20] at H
  have c20b0 := eq_true c20
  have c20b1 : decide (0 ≤ x5_1) = true := decide_eq_true c20
  clear c20
  by_cases c21 : x5_1 ≤ (x0_1.length : Int)
  rotate_left
  · rw [if_neg c21] at H; exact absurd H (by simp)
  rw [if_pos c21] at H
  have c21b0 := eq_true c21
  have c21b1 : decide (x5_1 ≤ (x0_1.length : Int)) = true := decide_eq_true c21
  have c21b1h := c21b1
  (try simp only [hl0_1] at c21b1h)
  clear c21
  obtain ⟨y496, hy496⟩ : ∃ y_ : List Int, y_ = (x0_1.drop (x5_1 : Int).toNat) := ⟨_, rfl⟩
  replace H : ((some (x0_1.take (x5_1 : Int).toNat ++ List.replicate (x0_1.length - (x5_1 : Int).toNat) 0 : List Int)).bind fun y500 => (if x5_1 ≤ (y500.length : Int) then (some (y500.take (x5_1 : Int).toNat)) else (none))) = some r := by first | (rw [hy496]; with_reducible exact H) | (have H2_ := (Option.bind_some _ _).symm.trans H; rw [hy496]; with_reducible exact H2_) | (have H2_ := (Option.bind_some _ _).symm.trans H; with_reducible exact H2_) | with_reducible exact H | (rw [hy496]; exact H) | exact H
  have Ny496 := Aside0.mk hy496
  clear hy496
  obtain ⟨y500, hy500⟩ : ∃ y_ : List Int, y_ = (x0_1.take (x5_1 : Int).toNat ++ List.replicate (x0_1.length - (x5_1 : Int).toNat) 0) := ⟨_, rfl⟩
  replace H : (if x5_1 ≤ (y500.length : Int) then (some (y500.take (x5_1 : Int).toNat)) else (none)) = some r := by first | (rw [hy500]; with_reducible exact H) | (have H2_ := (Option.bind_some _ _).symm.trans H; rw [hy500]; with_reducible exact H2_) | (have H2_ := (Option.bind_some _ _).symm.trans H; with_reducible exact H2_) | with_reducible exact H | (rw [hy500]; exact H) | exact H
  have Ny500 := Aside0.mk hy500
  clear hy500
  by_cases c22 : x5_1 ≤ (y500.length : Int)
  rotate_left
  · rw [if_neg c22] at H; exact absurd H (by simp)
  rw [if_pos c22] at H
  have c22b0 := eq_true c22
  have c22b1 : decide (x5_1 ≤ (y500.length : Int)) = true := decide_eq_true c22
  have c22b1h := c22b1
  (try simp only [hl0_1] at c22b1h)
  clear c22
  obtain ⟨y503, hy503⟩ : ∃ y_ : List Int, y_ = (y500.take (x5_1 : Int).toNat) := ⟨_, rfl⟩
  replace H : (some y503) = some r := by first | (rw [hy503]; with_reducible exact H) | (have H2_ := (Option.bind_some _ _).symm.trans H; rw [hy503]; with_reducible exact H2_) | (have H2_ := (Option.bind_some _ _).symm.trans H; with_reducible exact H2_) | with_reducible exact H | (rw [hy503]; exact H) | exact H
  have Ny503 := Aside0.mk hy503
  clear hy503
  obtain rfl := Option.some.inj H
  have q23 : (x5_1 : Int) ≤ ((x0_1.length : Int) : Int) := od
  obtain ⟨i023, hi023, _, hsz23, _⟩ := info_parts info3
  have hroom23 : x0_1.length ≤ co7 := (Kd.R_reads' HO_0.out).2.1
  have hC23 : Kd.C (Kd.int .i64) _ Ao7 x0_1.length x0_1 := (Kd.R_reads' HO_0.out).2.2
  have q023 : (0 : Int) ≤ (x5_1 : Int) := od
  have hcut23 := cut_from (P := Tryd.prog) 23 3 .i64 Tryd.underlying23 hi023 1 hsz23 Ao7 x0_1.length co7 x5_1 q023 q23
  have hr23 := Kd.C_drop (m := (x5_1 : Int).toNat) (c := co7) hC23 (by omega) hroom23
  obtain ⟨A23, hA23⟩ : ∃ A1, A1 = (if co7 = (x5_1 : Int).toNat then Ao7 else (Ao7 : Option Addr).map (·.add ((x5_1 : Int).toNat * 1))) := ⟨_, rfl⟩
  obtain ⟨c23, hc23⟩ : ∃ c1, c1 = co7 - (x5_1 : Int).toNat := ⟨_, rfl⟩
  have hy23 : y496.length = x0_1.length - (x5_1 : Int).toNat := (by rw [Ny496.out, List.length_drop] <;> omega)
  rw [show (x0_1).drop (x5_1 : Int).toNat = y496 from Ny496.out.symm] at hr23
  replace hr23 : Kd.C (Kd.int .i64) _ A23 y496.length y496 := (by rw [hA23]; exact hr23)
  rw [← hy23, ← hA23, ← hc23] at hcut23
  have HR499 := Aside0.mk hr23
  have HC499 := Aside0.mk (show y496.length ≤ c23 from by rw [hy23, hc23]; exact Nat.sub_le_sub_right hroom23 _)
  clear hr23 hC23 hroom23 hi023 hsz23 hc23
  have KY23 := Aside0.mk hy23
  have KA23 := Aside0.mk hA23
  clear hy23 hA23
  have KL23 := Aside0.mk (show (x5_1 : Int).toNat ≤ x0_1.length from by omega)
  replace q23 := eq_true q23
  go_wp2_with (first | ((with_reducible refine gate_builtin (b := .clear) (xs := #[.tmp 38]) rfl ?_); have hj_ : 0 ≤ (x5_1 : Int) := od; have hl_ : (x5_1 : Int) ≤ (x0_1.length : Int) := od; refine Kd.R_clear (Kd.int .i64) (w0 := w0) w0.heap.size rfl (.tmp 38) 23 3 (.int .i64 0) 0 rfl Tryd.underlying23 info3 rfl (by decide) (fun _ _ _ => rfl) (A0 := Ao7) (n := x0_1.length) (c := co7) (k := (x5_1 : Int).toNat) rfl ?hA ?hm (zO HO_0) ?hk zB (below_size zB) ?_; (case hA => exact KA23.out); (case hm => have ha_ := KY23.out; omega); (case hk => omega); intro w24 ho hb hg; clear hl_; (try clear hj_); rw [← Ny500.out] at ho; have hn_ : x0_1.length = y500.length := (Kd.R_reads' ho).1; rw [hn_] at ho ⊢; clear hn_; have n0_ := Aside0.mk (ho); have n1_ := Aside0.mk (hb); have n2_ := Aside0.mk (Kept.of_grown (S := (fun k_ => P0_ k_)) hg zH (fun k_ e_ => (HO_0.out.1 k_ e_))); clear HO_0; clear HB; clear HK; have HO_0 := n0_; have HB := n1_; have HK := n2_; clear n0_ n1_ n2_; clear ho hb hg; have q26 : (x5_1 : Int) ≤ ((y500.length : Int) : Int) := od; obtain ⟨i026, hi026, _, hsz26, _⟩ := info_parts info3; have hcut26 := cut_to (P := Tryd.prog) 23 3 .i64 Tryd.underlying23 hi026 Ao7 y500.length co7 x5_1 (od) q26 (Kd.R_reads' HO_0.out).2.1; have hr26 := Kd.R_take (m := (x5_1 : Int).toNat) HO_0.out (by omega); have hy26 : y503.length = (x5_1 : Int).toNat := (by rw [Ny503.out, List.length_take]; omega); rw [← Ny503.out] at hr26; rw [← hy26] at hr26 hcut26; clear hy26 hi026 hsz26 HO_0; have HO505 := Aside0.mk hr26; clear hr26; replace q26 := eq_true q26))
  go_ret
  exact ⟨_, zE, by (with_reducible repeat (first | apply Kd.R_alloc | apply Kd.R_drewN | apply Kd.R_drew)); exact HO505.out, zB, zH⟩
 rw [if_pos c9] at H
 have c9b0 : decide (x6_1 < (x0_1.length : Int)) = true := decide_eq_true c9
 have c9b0h := c9b0
 (try simp only [hl0_1] at c9b0h)
 clear c9
 by_cases c10 : 0 ≤ x6_1
 rotate_left
 · rw [if_neg c10] at H; exact absurd H (by simp)
 rw [if_pos c10] at H
 have c10b0 : decide (0 ≤ x6_1) = true := decide_eq_true c10
 clear c10
 replace H := Option.bind_eq_some_iff.mp H
 obtain ⟨t494, A110, H⟩ := H
 replace H : (if t494 = true then (g2_.l0 C k1 x0_1 x5_1 (wrap64 (x6_1 + 1)) l1_0 l1_2) else (if 0 ≤ x5_1 then (if x5_1 < (x0_1.length : Int) then (g2_.l0 C k1 (x0_1.set (x5_1 : Int).toNat (rd x0_1 x6_1)) (wrap64 (x5_1 + 1)) (wrap64 (x6_1 + 1)) l1_0 l1_2) else (none)) else (none))) = some r := H
 have A11 := Aside0.mk A110
 clear A110
 by_cases c12 : t494 = true
 ·
  subst c12
  have H1 : (g2_.l0 C k1 x0_1 x5_1 (wrap64 (x6_1 + 1)) l1_0 l1_2) = some r := by rw [if_pos rfl] at H; exact H
  clear H
  have H := H1
  clear H1
  have H' := Aside0.mk H
  clear H
  have p493 : 0 ≤ (x6_1 : Int) := od
  have q493 : x6_1 < (x0_1.length : Int) := od
  obtain ⟨ad493, e493, hx493_0⟩ := Kd.at_int (Kd.R_reads' HO_0.out).2.2 x6_1 p493 q493
  cases e493
  replace p493 := eq_true p493
  replace q493 := eq_true q493
  go_wp2_with (first | (go_at_call 54; (with_reducible refine (g19_.calls C k1 (rd x0_1 x6_1) gc1_0 A1_0 c1_0 l1_0 gc1_1 gc1_2 A1_2 c1_2 l1_2 true _ ?side1 ?side2 ?side3 ?side4 ?side5 ?side6 ?side7 A11.out).mono ?_); (case side1 => exact Kd.C_kept_now HR1_0.out zH); (case side2 => exact HC1_0.out); (case side3 => exact HCP1_0.out _ zH); (case side4 => exact HCP1_1.out _ zH); (case side5 => exact Kd.C_kept_now HR1_2.out zH); (case side6 => exact HC1_2.out); (case side7 => exact HCP1_2.out _ zH); rintro e w13 ⟨rfl, hb⟩; have n0_ := Aside0.mk (Kd.R_below (zO HO_0) hb); have n1_ := Aside0.mk (Kept.below (S := (fun k_ => P0_ k_)) zH hb); have n2_ := Aside0.mk (below_step zB hb); clear HO_0; clear HK; clear HB; have HO_0 := n0_; have HK := n1_; have HB := n2_; clear n0_ n1_ n2_; (try clear hb); (try clear hb2); (try clear hk); (try clear hi)))
  (try simp only [← hl0_1])
  go_roundg k1
  case measure => have := HK1.out; omega
  case rel => exact ⟨(x0_1), (x5_1), (wrap64 (x6_1 + 1)), zR, zR, H', ⟨by have := HK1.out; omega⟩, ⟨by (try simp only [hl0_1]); (with_reducible repeat (first | apply Kd.R_alloc | apply Kd.R_drewN | apply Kd.R_drew)); exact HO_0.out⟩, ⟨zH⟩, ⟨zB⟩⟩
 replace c12 := Bool.eq_false_iff.mpr c12
 subst c12
 have H1 : (if 0 ≤ x5_1 then (if x5_1 < (x0_1.length : Int) then (g2_.l0 C k1 (x0_1.set (x5_1 : Int).toNat (rd x0_1 x6_1)) (wrap64 (x5_1 + 1)) (wrap64 (x6_1 + 1)) l1_0 l1_2) else (none)) else (none)) = some r := by rw [if_neg (show ¬ (false = true) by decide)] at H; exact H
 clear H
 have H := H1
 clear H1
 by_cases c14 : 0 ≤ x5_1
 rotate_left
 · rw [if_neg c14] at H; exact absurd H (by simp)
 rw [if_pos c14] at H
 have c14b0 : decide (0 ≤ x5_1) = true := decide_eq_true c14
 clear c14
 by_cases c15 : x5_1 < (x0_1.length : Int)
 rotate_left
 · rw [if_neg c15] at H; exact absurd H (by simp)
 rw [if_pos c15] at H
 have c15b0 : decide (x5_1 < (x0_1.length : Int)) = true := decide_eq_true c15
 have c15b0h := c15b0
 (try simp only [hl0_1] at c15b0h)
 clear c15
 obtain ⟨y495, hy495⟩ : ∃ y_ : List Int, y_ = (x0_1.set (x5_1 : Int).toNat (rd x0_1 x6_1)) := ⟨_, rfl⟩
 replace H : (g2_.l0 C k1 y495 (wrap64 (x5_1 + 1)) (wrap64 (x6_1 + 1)) l1_0 l1_2) = some r := by first | (rw [hy495]; with_reducible exact H) | (have H2_ := (Option.bind_some _ _).symm.trans H; rw [hy495]; with_reducible exact H2_) | (have H2_ := (Option.bind_some _ _).symm.trans H; with_reducible exact H2_) | with_reducible exact H | (rw [hy495]; exact H) | exact H
 have Ny495 := Aside0.mk hy495
 clear hy495
 have H' := Aside0.mk H
 clear H
 have p493 : 0 ≤ (x6_1 : Int) := od
 have q493 : x6_1 < (x0_1.length : Int) := od
 obtain ⟨ad493, e493, hx493_0⟩ := Kd.at_int (Kd.R_reads' HO_0.out).2.2 x6_1 p493 q493
 cases e493
 replace p493 := eq_true p493
 replace q493 := eq_true q493
 go_wp2_with (first | (go_at_call 54; (with_reducible refine (g19_.calls C k1 (rd x0_1 x6_1) gc1_0 A1_0 c1_0 l1_0 gc1_1 gc1_2 A1_2 c1_2 l1_2 false _ ?side1 ?side2 ?side3 ?side4 ?side5 ?side6 ?side7 A11.out).mono ?_); (case side1 => exact Kd.C_kept_now HR1_0.out zH); (case side2 => exact HC1_0.out); (case side3 => exact HCP1_0.out _ zH); (case side4 => exact HCP1_1.out _ zH); (case side5 => exact Kd.C_kept_now HR1_2.out zH); (case side6 => exact HC1_2.out); (case side7 => exact HCP1_2.out _ zH); rintro e w17 ⟨rfl, hb⟩; have n0_ := Aside0.mk (Kd.R_below (zO HO_0) hb); have n1_ := Aside0.mk (Kept.below (S := (fun k_ => P0_ k_)) zH hb); have n2_ := Aside0.mk (below_step zB hb); clear HO_0; clear HK; clear HB; have HO_0 := n0_; have HK := n1_; have HB := n2_; clear n0_ n1_ n2_; (try clear hb); (try clear hb2); (try clear hk); (try clear hi); have p16 : 0 ≤ (x5_1 : Int) := od; have q16 : (x5_1 : Int) < ((x0_1.length : Int) : Int) := od; obtain ⟨go16, co16, eo16, gb16, gl16, cl16, HG16⟩ := Kd.R_form HO_0.out (by omega); (first | cases eo16 | (injection eo16 with ea_ en_ ec_; (first | subst ea_ | (injection ea_ with ea_; subst ea_)); subst ec_; clear en_)); have GB16 := Aside0.mk gb16; have GG16 := Aside0.mk HG16; clear gb16 gl16 HG16; have HMgo16 := Aside0.mk (show (P0_ go16 ∨ w.heap.size ≤ go16) from (HO_0.out.1 _ rfl)); (first | simp only [add_plain] at hx493_0 | skip); obtain ⟨hx16_0, hf16_0⟩ := Kd.R_celln 0 HO_0.out (x5_1 : Int) p16 q16; replace p16 := eq_true p16; replace q16 := eq_true q16; obtain ⟨hy18_, hz18_⟩ := Kd.R_celln 0 HO_0.out (x5_1 : Int) (od) (od); have HP18 := Kd.R_putg HO_0.out (x5_1 : Int) (rd x0_1 x6_1)) | ((with_reducible refine gate_store (t := 3) (p := 33) rfl ?_); refine store_event (t := 3) (p := 33) (v := ?vo_w19) (w1 := (w17.setCell ⟨go16, (x5_1 : Int).toNat, none⟩ (.int .i64 (rd x0_1 x6_1)))) ?hg ?ho ?hn ?hr ?_; (case ho => rfl); (case hg => rfl); (case hn => rfl); (case hr => first | (go_simp; done) | (go_simp; rfl)); intro w19 hw; have hg : w17.grownBy w19 (some go16) := (by rw [hw]; exact HP18.2); have hp_ : Kd.R (Kd.int .i64) 3 w19 w0.heap.size (fun k_ => (P0_ k_ ∨ w.heap.size ≤ k_)) (.slice (some ⟨go16, 0, none⟩) x0_1.length co7) y495 := (by rw [hw, Ny495.out]; exact HP18.1); clear HP18; have n0_ := Aside0.mk (hp_); have n1_ := Aside0.mk ((by rw [hw]; exact below_set (HB.out) GB16.out : Below w0.heap.size w0 w19)); have n2_ := Aside0.mk (Kept.of_grown (S := (fun k_ => P0_ k_)) hg zH (fun k_ e_ => (HO_0.out.1 k_ e_))); clear HO_0; clear HB; clear HK; have HO_0 := n0_; have HB := n1_; have HK := n2_; clear n0_ n1_ n2_; clear hg hw hp_))
 (try simp only [← hl0_1])
 go_roundg k1
 case measure => have := HK1.out; omega
 case rel => exact ⟨(y495), (wrap64 (x5_1 + 1)), (wrap64 (x6_1 + 1)), zR, zR, H', ⟨by have := HK1.out; omega⟩, ⟨by (try simp only [hl0_1]); (with_reducible repeat (first | apply Kd.R_alloc | apply Kd.R_drewN | apply Kd.R_drew)); exact HO_0.out⟩, ⟨zH⟩, ⟨zB⟩⟩
end Go.Proofs.YtplcdbhklepkgaaDoor.BO
