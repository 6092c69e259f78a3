-- Made by gen.py, a program of this session's, over the kit's print.
import Derived.Test.YtplcdbhklepkgaaDoorVGroShort
import Derived.Test.YtplcdbhklepkgaaDoorVGroPGx0
import Derived.Test.YtplcdbhklepkgaaDoorVGroPGx1
import Derived.Test.YtplcdbhklepkgaaDoorVGroPGx5
namespace Go.Proofs.YtplcdbhklepkgaaDoor.PG
open Go.RowKit Go.Proofs.YtplcdbhklepkgaaDoorW.PrintWords Go.Proofs.YtplcdbhklepkgaaDoorW.PrintLast Go.Proofs.YtplcdbhklepkgaaDoorW.PrintMore Go.Proofs.YtplcdbhklepkgaaDoor.GenWords
attribute [local go_sem] max2_int min2_int max_two min_two max_three min_three max_four min_four   -- for this text's walks alone
set_option linter.unusedVariables false
set_option linter.unusedSimpArgs false

attribute [local go_sem high] eqA29
/-! ### g11_: function 17 -/
def g11_.f (k : Nat) (a0_0 : Int) (a0_1 : Int) (l0_2 : List Int) (a0_3 : Int) (a0_4 : Int) (l0_5 : List Int) (a1_0 : Int) (a1_1 : Int) (l1_2 : List Int) (a1_3 : Int) (a1_4 : Int) (l1_5 : List Int) : Option (Bool) := if (a0_0 == a1_0 && (a0_1 == a1_1)) = true then (if a0_3 = a1_3 then (if a0_4 = a1_4 then ((g9_.f k l0_2 l1_2).bind fun t267 => (if t267 = true then ((g9_.f k l0_5 l1_5).bind fun t268 => (some t268)) else (some false))) else (some false)) else (some false)) else (some false)
theorem g11_.mono : ∀ a0 a1 a2 a3 a4 a5 a6 a7 a8 a9 a10 a11 k, LeO (g11_.f k a0 a1 a2 a3 a4 a5 a6 a7 a8 a9 a10 a11) (g11_.f (k + 1) a0 a1 a2 a3 a4 a5 a6 a7 a8 a9 a10 a11) := by
  intro a0 a1 a2 a3 a4 a5 a6 a7 a8 a9 a10 a11 k
  unfold g11_.f
  repeat' (with_reducible first | exact g9_.mono _ _ _ | exact LeO.refl _ | exact LeO.none _ | refine LeO.ite ?_ ?_ | refine LeO.bind ?_ (fun _ => ?_))
set_option maxHeartbeats 8000000 in
set_option maxRecDepth 100000 in
theorem g11_.calls (k : Nat) (a0_0 : Int) (a0_1 : Int) (A0_2 : Option Addr) (c0_2 : Nat) (l0_2 : List Int) (a0_3 : Int) (a0_4 : Int) (A0_5 : Option Addr) (c0_5 : Nat) (l0_5 : List Int) (a1_0 : Int) (a1_1 : Int) (A1_2 : Option Addr) (c1_2 : Nat) (l1_2 : List Int) (a1_3 : Int) (a1_4 : Int) (A1_5 : Option Addr) (c1_5 : Nat) (l1_5 : List Int) (r : Bool) (w : World) (hr0_2 : Kd.C (Kd.int .i64) w A0_2 l0_2.length l0_2) (hc0_2 : l0_2.length ≤ c0_2) (hr0_5 : Kd.C (Kd.int .i64) w A0_5 l0_5.length l0_5) (hc0_5 : l0_5.length ≤ c0_5) (hr1_2 : Kd.C (Kd.int .i64) w A1_2 l1_2.length l1_2) (hc1_2 : l1_2.length ≤ c1_2) (hr1_5 : Kd.C (Kd.int .i64) w A1_5 l1_5.length l1_5) (hc1_5 : l1_5.length ≤ c1_5) (h : g11_.f k a0_0 a0_1 l0_2 a0_3 a0_4 l0_5 a1_0 a1_1 l1_2 a1_3 a1_4 l1_5 = some r) :
 Calls Tryd.prog 17 #[.agg #[.int .u32 a0_0, .int .i64 a0_1, .slice A0_2 l0_2.length c0_2, .int .i64 a0_3, .int .i64 a0_4, .slice A0_5 l0_5.length c0_5], .agg #[.int .u32 a1_0, .int .i64 a1_1, .slice A1_2 l1_2.length c1_2, .int .i64 a1_3, .int .i64 a1_4, .slice A1_5 l1_5.length c1_5]] w fun e w' => e = .returned (.bool r) ∧ Below w.heap.size w w' := by
 have hu31 := Tryd.underlying31
 have hu29 := Tryd.underlying29
 have hu3 := Tryd.underlying3
 have hu23 := Tryd.underlying23
 have HR0_2 := Aside0.mk hr0_2
 have HC0_2 := Aside0.mk hc0_2
 clear hr0_2 hc0_2
 have HR0_5 := Aside0.mk hr0_5
 have HC0_5 := Aside0.mk hc0_5
 clear hr0_5 hc0_5
 have HR1_2 := Aside0.mk hr1_2
 have HC1_2 := Aside0.mk hc1_2
 clear hr1_2 hc1_2
 have HR1_5 := Aside0.mk hr1_5
 have HC1_5 := Aside0.mk hc1_5
 clear hr1_5 hc1_5
 have HB := Aside0.mk (Below.refl w.heap.size w)
 have H : (if (a0_0 == a1_0 && (a0_1 == a1_1)) = true then (if a0_3 = a1_3 then (if a0_4 = a1_4 then ((g9_.f k l0_2 l1_2).bind fun t267 => (if t267 = true then ((g9_.f k l0_5 l1_5).bind fun t268 => (some t268)) else (some false))) else (some false)) else (some false)) else (some false)) = some r := h
 clear h
 by_cases c3 : (a0_0 == a1_0 && (a0_1 == a1_1)) = true
 rotate_left
 ·
  rw [if_neg c3] at H
  have c3b0 : (a0_0 == a1_0 && (a0_1 == a1_1)) = false := by simpa using c3
  (try (have c3b1 : decide (a0_0 = a1_0 && (a0_1 == a1_1)) = false := by simpa using c3))
  (try (have c3b2 : (a0_0 == a1_0 && (a0_1 == a1_1)) = false := by simpa using c3))
  (try (have c3b3 : ¬ (a0_0 = a1_0 && (a0_1 == a1_1)) := by simpa using c3))
  clear c3
  obtain rfl := Option.some.inj H
  go_enter Tryd.func17, Tryd.ntmps17
  go_wp2_with (first | ((with_reducible refine gate_dst (N := 2) rfl ?_); refine bx 2 (#[.int .u32 a0_0, .int .i64 a0_1, .slice A0_2 l0_2.length c0_2, .int .i64 a0_3, .int .i64 a0_4, .slice A0_5 l0_5.length c0_5]) 31 ?_; intro gb265 hg w29 hbox hb; have n0_ := Aside0.mk (below_step zB hb); have n1_ := Aside0.mk (hbox); have n2_ := Aside0.mk ((zG hg : w.heap.size ≤ gb265)); have n3_ := Aside0.mk ((zG hg : w.heap.size ≤ gb265)); clear HB; have HB := n0_; have BK265 := n1_; have GW265 := n2_; have GE265 := n3_; clear n0_ n1_ n2_ n3_; clear hb hbox hg) | ((with_reducible refine gate_dst (N := 3) rfl ?_); refine bx 3 (#[.int .u32 a1_0, .int .i64 a1_1, .slice A1_2 l1_2.length c1_2, .int .i64 a1_3, .int .i64 a1_4, .slice A1_5 l1_5.length c1_5]) 31 ?_; intro gb266 hg w30 hbox hb; have n0_ := Aside0.mk (blk_below (g := gb265) (o := .cells #[.int .u32 a0_0, .int .i64 a0_1, .slice A0_2 l0_2.length c0_2, .int .i64 a0_3, .int .i64 a0_4, .slice A0_5 l0_5.length c0_5] 31 (0, 0)) (zK BK265) hb); have n1_ := Aside0.mk (below_step zB hb); have n2_ := Aside0.mk (hbox); have n3_ := Aside0.mk ((zG hg : w.heap.size ≤ gb266)); have n4_ := Aside0.mk ((zG hg : w.heap.size ≤ gb266)); have n5_ := Aside0.mk ((by rw [hg]; exact Nat.ne_of_lt (blk_lt (g := gb265) (o := .cells #[.int .u32 a0_0, .int .i64 a0_1, .slice A0_2 l0_2.length c0_2, .int .i64 a0_3, .int .i64 a0_4, .slice A0_5 l0_5.length c0_5] 31 (0, 0)) (zK BK265)) : gb265 ≠ gb266)); have n6_ := Aside0.mk ((by rw [hg]; exact Nat.ne_of_gt (blk_lt (g := gb265) (o := .cells #[.int .u32 a0_0, .int .i64 a0_1, .slice A0_2 l0_2.length c0_2, .int .i64 a0_3, .int .i64 a0_4, .slice A0_5 l0_5.length c0_5] 31 (0, 0)) (zK BK265)) : gb266 ≠ gb265)); clear BK265; clear HB; have BK265 := n0_; have HB := n1_; have BK266 := n2_; have GW266 := n3_; have GE266 := n4_; have NB265_266 := n5_; have NB266_265 := n6_; clear n0_ n1_ n2_ n3_ n4_ n5_ n6_; clear hb hbox hg; have hnb31 := NB265_266.out; have hnc31 := NB266_265.out; have hcz32_0 : w30.cell? ⟨gb265, 0, none⟩ = some (.int .u32 a0_0) := zT BK265 0; have hcz32_1 : w30.cell? ⟨gb265, 1, none⟩ = some (.int .i64 a0_1) := zT BK265 1; have hcz32_2 : w30.cell? ⟨gb265, 2, none⟩ = some (.slice A0_2 l0_2.length c0_2) := zT BK265 2; have hcz32_3 : w30.cell? ⟨gb265, 3, none⟩ = some (.int .i64 a0_3) := zT BK265 3; have hcz32_4 : w30.cell? ⟨gb265, 4, none⟩ = some (.int .i64 a0_4) := zT BK265 4; have hcz32_5 : w30.cell? ⟨gb265, 5, none⟩ = some (.slice A0_5 l0_5.length c0_5) := zT BK265 5; have hfz32_0 := blk_frozen BK265.out 0; have hfz32_1 := blk_frozen BK265.out 1; have hfz32_2 := blk_frozen BK265.out 2; have hfz32_3 := blk_frozen BK265.out 3; have hfz32_4 := blk_frozen BK265.out 4; have hfz32_5 := blk_frozen BK265.out 5; have hcz33_0 : w30.cell? ⟨gb266, 0, none⟩ = some (.int .u32 a1_0) := zT BK266 0; have hcz33_1 : w30.cell? ⟨gb266, 1, none⟩ = some (.int .i64 a1_1) := zT BK266 1; have hcz33_2 : w30.cell? ⟨gb266, 2, none⟩ = some (.slice A1_2 l1_2.length c1_2) := zT BK266 2; have hcz33_3 : w30.cell? ⟨gb266, 3, none⟩ = some (.int .i64 a1_3) := zT BK266 3; have hcz33_4 : w30.cell? ⟨gb266, 4, none⟩ = some (.int .i64 a1_4) := zT BK266 4; have hcz33_5 : w30.cell? ⟨gb266, 5, none⟩ = some (.slice A1_5 l1_5.length c1_5) := zT BK266 5; have hfz33_0 := blk_frozen BK266.out 0; have hfz33_1 := blk_frozen BK266.out 1; have hfz33_2 := blk_frozen BK266.out 2; have hfz33_3 := blk_frozen BK266.out 3; have hfz33_4 := blk_frozen BK266.out 4; have hfz33_5 := blk_frozen BK266.out 5))
  go_ret
  exact ⟨zE, zB⟩
 rw [if_pos c3] at H
 have c3b0 : (a0_0 == a1_0 && (a0_1 == a1_1)) = true := c3
 (try (have c3b1 : decide (a0_0 = a1_0 && (a0_1 == a1_1)) = true := by simpa using c3))
 (try (have c3b2 : (a0_0 == a1_0 && (a0_1 == a1_1)) = true := by simpa using c3))
 clear c3
 by_cases c4 : a0_3 = a1_3
 rotate_left
 ·
  rw [if_neg c4] at H
  have c4b0 : (a0_3 == a1_3) = false := beq_eq_false_iff_ne.mpr c4
  have c4b1 : (a0_3 != a1_3) = true := bne_iff_ne.mpr c4
  obtain rfl := Option.some.inj H
  go_enter Tryd.func17, Tryd.ntmps17
  go_wp2_with (first | ((with_reducible refine gate_dst (N := 2) rfl ?_); refine bx 2 (#[.int .u32 a0_0, .int .i64 a0_1, .slice A0_2 l0_2.length c0_2, .int .i64 a0_3, .int .i64 a0_4, .slice A0_5 l0_5.length c0_5]) 31 ?_; intro gb265 hg w24 hbox hb; have n0_ := Aside0.mk (below_step zB hb); have n1_ := Aside0.mk (hbox); have n2_ := Aside0.mk ((zG hg : w.heap.size ≤ gb265)); have n3_ := Aside0.mk ((zG hg : w.heap.size ≤ gb265)); clear HB; have HB := n0_; have BK265 := n1_; have GW265 := n2_; have GE265 := n3_; clear n0_ n1_ n2_ n3_; clear hb hbox hg) | ((with_reducible refine gate_dst (N := 3) rfl ?_); refine bx 3 (#[.int .u32 a1_0, .int .i64 a1_1, .slice A1_2 l1_2.length c1_2, .int .i64 a1_3, .int .i64 a1_4, .slice A1_5 l1_5.length c1_5]) 31 ?_; intro gb266 hg w25 hbox hb; have n0_ := Aside0.mk (blk_below (g := gb265) (o := .cells #[.int .u32 a0_0, .int .i64 a0_1, .slice A0_2 l0_2.length c0_2, .int .i64 a0_3, .int .i64 a0_4, .slice A0_5 l0_5.length c0_5] 31 (0, 0)) (zK BK265) hb); have n1_ := Aside0.mk (below_step zB hb); have n2_ := Aside0.mk (hbox); have n3_ := Aside0.mk ((zG hg : w.heap.size ≤ gb266)); have n4_ := Aside0.mk ((zG hg : w.heap.size ≤ gb266)); have n5_ := Aside0.mk ((by rw [hg]; exact Nat.ne_of_lt (blk_lt (g := gb265) (o := .cells #[.int .u32 a0_0, .int .i64 a0_1, .slice A0_2 l0_2.length c0_2, .int .i64 a0_3, .int .i64 a0_4, .slice A0_5 l0_5.length c0_5] 31 (0, 0)) (zK BK265)) : gb265 ≠ gb266)); have n6_ := Aside0.mk ((by rw [hg]; exact Nat.ne_of_gt (blk_lt (g := gb265) (o := .cells #[.int .u32 a0_0, .int .i64 a0_1, .slice A0_2 l0_2.length c0_2, .int .i64 a0_3, .int .i64 a0_4, .slice A0_5 l0_5.length c0_5] 31 (0, 0)) (zK BK265)) : gb266 ≠ gb265)); clear BK265; clear HB; have BK265 := n0_; have HB := n1_; have BK266 := n2_; have GW266 := n3_; have GE266 := n4_; have NB265_266 := n5_; have NB266_265 := n6_; clear n0_ n1_ n2_ n3_ n4_ n5_ n6_; clear hb hbox hg; have hnb26 := NB265_266.out; have hnc26 := NB266_265.out; have hcz27_0 : w25.cell? ⟨gb265, 0, none⟩ = some (.int .u32 a0_0) := zT BK265 0; have hcz27_1 : w25.cell? ⟨gb265, 1, none⟩ = some (.int .i64 a0_1) := zT BK265 1; have hcz27_2 : w25.cell? ⟨gb265, 2, none⟩ = some (.slice A0_2 l0_2.length c0_2) := zT BK265 2; have hcz27_3 : w25.cell? ⟨gb265, 3, none⟩ = some (.int .i64 a0_3) := zT BK265 3; have hcz27_4 : w25.cell? ⟨gb265, 4, none⟩ = some (.int .i64 a0_4) := zT BK265 4; have hcz27_5 : w25.cell? ⟨gb265, 5, none⟩ = some (.slice A0_5 l0_5.length c0_5) := zT BK265 5; have hfz27_0 := blk_frozen BK265.out 0; have hfz27_1 := blk_frozen BK265.out 1; have hfz27_2 := blk_frozen BK265.out 2; have hfz27_3 := blk_frozen BK265.out 3; have hfz27_4 := blk_frozen BK265.out 4; have hfz27_5 := blk_frozen BK265.out 5; have hcz28_0 : w25.cell? ⟨gb266, 0, none⟩ = some (.int .u32 a1_0) := zT BK266 0; have hcz28_1 : w25.cell? ⟨gb266, 1, none⟩ = some (.int .i64 a1_1) := zT BK266 1; have hcz28_2 : w25.cell? ⟨gb266, 2, none⟩ = some (.slice A1_2 l1_2.length c1_2) := zT BK266 2; have hcz28_3 : w25.cell? ⟨gb266, 3, none⟩ = some (.int .i64 a1_3) := zT BK266 3; have hcz28_4 : w25.cell? ⟨gb266, 4, none⟩ = some (.int .i64 a1_4) := zT BK266 4; have hcz28_5 : w25.cell? ⟨gb266, 5, none⟩ = some (.slice A1_5 l1_5.length c1_5) := zT BK266 5; have hfz28_0 := blk_frozen BK266.out 0; have hfz28_1 := blk_frozen BK266.out 1; have hfz28_2 := blk_frozen BK266.out 2; have hfz28_3 := blk_frozen BK266.out 3; have hfz28_4 := blk_frozen BK266.out 4; have hfz28_5 := blk_frozen BK266.out 5))
  go_ret
  exact ⟨zE, zB⟩
 rw [if_pos c4] at H
 have c4b0 : (a0_3 == a1_3) = true := beq_iff_eq.mpr c4
 have c4b1 : (a0_3 != a1_3) = false := bne_eq_false_iff_eq.mpr c4
 clear c4
 by_cases c5 : a0_4 = a1_4
 rotate_left
 ·
  rw [if_neg c5] at H
  have c5b0 : (a0_4 == a1_4) = false := beq_eq_false_iff_ne.mpr c5
  have c5b1 : (a0_4 != a1_4) = true := bne_iff_ne.mpr c5
  obtain rfl := Option.some.inj H
  go_enter Tryd.func17, Tryd.ntmps17
  go_wp2_with (first | ((with_reducible refine gate_dst (N := 2) rfl ?_); refine bx 2 (#[.int .u32 a0_0, .int .i64 a0_1, .slice A0_2 l0_2.length c0_2, .int .i64 a0_3, .int .i64 a0_4, .slice A0_5 l0_5.length c0_5]) 31 ?_; intro gb265 hg w19 hbox hb; have n0_ := Aside0.mk (below_step zB hb); have n1_ := Aside0.mk (hbox); have n2_ := Aside0.mk ((zG hg : w.heap.size ≤ gb265)); have n3_ := Aside0.mk ((zG hg : w.heap.size ≤ gb265)); clear HB; have HB := n0_; have BK265 := n1_; have GW265 := n2_; have GE265 := n3_; clear n0_ n1_ n2_ n3_; clear hb hbox hg) | ((with_reducible refine gate_dst (N := 3) rfl ?_); refine bx 3 (#[.int .u32 a1_0, .int .i64 a1_1, .slice A1_2 l1_2.length c1_2, .int .i64 a1_3, .int .i64 a1_4, .slice A1_5 l1_5.length c1_5]) 31 ?_; intro gb266 hg w20 hbox hb; have n0_ := Aside0.mk (blk_below (g := gb265) (o := .cells #[.int .u32 a0_0, .int .i64 a0_1, .slice A0_2 l0_2.length c0_2, .int .i64 a0_3, .int .i64 a0_4, .slice A0_5 l0_5.length c0_5] 31 (0, 0)) (zK BK265) hb); have n1_ := Aside0.mk (below_step zB hb); have n2_ := Aside0.mk (hbox); have n3_ := Aside0.mk ((zG hg : w.heap.size ≤ gb266)); have n4_ := Aside0.mk ((zG hg : w.heap.size ≤ gb266)); have n5_ := Aside0.mk ((by rw [hg]; exact Nat.ne_of_lt (blk_lt (g := gb265) (o := .cells #[.int .u32 a0_0, .int .i64 a0_1, .slice A0_2 l0_2.length c0_2, .int .i64 a0_3, .int .i64 a0_4, .slice A0_5 l0_5.length c0_5] 31 (0, 0)) (zK BK265)) : gb265 ≠ gb266)); have n6_ := Aside0.mk ((by rw [hg]; exact Nat.ne_of_gt (blk_lt (g := gb265) (o := .cells #[.int .u32 a0_0, .int .i64 a0_1, .slice A0_2 l0_2.length c0_2, .int .i64 a0_3, .int .i64 a0_4, .slice A0_5 l0_5.length c0_5] 31 (0, 0)) (zK BK265)) : gb266 ≠ gb265)); clear BK265; clear HB; have BK265 := n0_; have HB := n1_; have BK266 := n2_; have GW266 := n3_; have GE266 := n4_; have NB265_266 := n5_; have NB266_265 := n6_; clear n0_ n1_ n2_ n3_ n4_ n5_ n6_; clear hb hbox hg; have hnb21 := NB265_266.out; have hnc21 := NB266_265.out; have hcz22_0 : w20.cell? ⟨gb265, 0, none⟩ = some (.int .u32 a0_0) := zT BK265 0; have hcz22_1 : w20.cell? ⟨gb265, 1, none⟩ = some (.int .i64 a0_1) := zT BK265 1; have hcz22_2 : w20.cell? ⟨gb265, 2, none⟩ = some (.slice A0_2 l0_2.length c0_2) := zT BK265 2; have hcz22_3 : w20.cell? ⟨gb265, 3, none⟩ = some (.int .i64 a0_3) := zT BK265 3; have hcz22_4 : w20.cell? ⟨gb265, 4, none⟩ = some (.int .i64 a0_4) := zT BK265 4; have hcz22_5 : w20.cell? ⟨gb265, 5, none⟩ = some (.slice A0_5 l0_5.length c0_5) := zT BK265 5; have hfz22_0 := blk_frozen BK265.out 0; have hfz22_1 := blk_frozen BK265.out 1; have hfz22_2 := blk_frozen BK265.out 2; have hfz22_3 := blk_frozen BK265.out 3; have hfz22_4 := blk_frozen BK265.out 4; have hfz22_5 := blk_frozen BK265.out 5; have hcz23_0 : w20.cell? ⟨gb266, 0, none⟩ = some (.int .u32 a1_0) := zT BK266 0; have hcz23_1 : w20.cell? ⟨gb266, 1, none⟩ = some (.int .i64 a1_1) := zT BK266 1; have hcz23_2 : w20.cell? ⟨gb266, 2, none⟩ = some (.slice A1_2 l1_2.length c1_2) := zT BK266 2; have hcz23_3 : w20.cell? ⟨gb266, 3, none⟩ = some (.int .i64 a1_3) := zT BK266 3; have hcz23_4 : w20.cell? ⟨gb266, 4, none⟩ = some (.int .i64 a1_4) := zT BK266 4; have hcz23_5 : w20.cell? ⟨gb266, 5, none⟩ = some (.slice A1_5 l1_5.length c1_5) := zT BK266 5; have hfz23_0 := blk_frozen BK266.out 0; have hfz23_1 := blk_frozen BK266.out 1; have hfz23_2 := blk_frozen BK266.out 2; have hfz23_3 := blk_frozen BK266.out 3; have hfz23_4 := blk_frozen BK266.out 4; have hfz23_5 := blk_frozen BK266.out 5))
  go_ret
  exact ⟨zE, zB⟩
 rw [if_pos c5] at H
 have c5b0 : (a0_4 == a1_4) = true := beq_iff_eq.mpr c5
 have c5b1 : (a0_4 != a1_4) = false := bne_eq_false_iff_eq.mpr c5
 clear c5
 replace H := Option.bind_eq_some_iff.mp H
 obtain ⟨t267, A60, H⟩ := H
 replace H : (if t267 = true then ((g9_.f k l0_5 l1_5).bind fun t268 => (some t268)) else (some false)) = some r := H
 have A6 := Aside0.mk A60
 clear A60
 by_cases c7 : t267 = true
 rotate_left
 ·
  replace c7 := Bool.eq_false_iff.mpr c7
  subst c7
  have H1 : (some false) = some r := by rw [if_neg (show ¬ (false = true) by decide)] at H; exact H
  clear H
  have H := H1
  clear H1
  obtain rfl := Option.some.inj H
  go_enter Tryd.func17, Tryd.ntmps17
  go_wp2_with (first | ((with_reducible refine gate_dst (N := 2) rfl ?_); refine bx 2 (#[.int .u32 a0_0, .int .i64 a0_1, .slice A0_2 l0_2.length c0_2, .int .i64 a0_3, .int .i64 a0_4, .slice A0_5 l0_5.length c0_5]) 31 ?_; intro gb265 hg w14 hbox hb; have n0_ := Aside0.mk (below_step zB hb); have n1_ := Aside0.mk (hbox); have n2_ := Aside0.mk ((zG hg : w.heap.size ≤ gb265)); have n3_ := Aside0.mk ((zG hg : w.heap.size ≤ gb265)); clear HB; have HB := n0_; have BK265 := n1_; have GW265 := n2_; have GE265 := n3_; clear n0_ n1_ n2_ n3_; clear hb hbox hg) | ((with_reducible refine gate_dst (N := 3) rfl ?_); refine bx 3 (#[.int .u32 a1_0, .int .i64 a1_1, .slice A1_2 l1_2.length c1_2, .int .i64 a1_3, .int .i64 a1_4, .slice A1_5 l1_5.length c1_5]) 31 ?_; intro gb266 hg w15 hbox hb; have n0_ := Aside0.mk (blk_below (g := gb265) (o := .cells #[.int .u32 a0_0, .int .i64 a0_1, .slice A0_2 l0_2.length c0_2, .int .i64 a0_3, .int .i64 a0_4, .slice A0_5 l0_5.length c0_5] 31 (0, 0)) (zK BK265) hb); have n1_ := Aside0.mk (below_step zB hb); have n2_ := Aside0.mk (hbox); have n3_ := Aside0.mk ((zG hg : w.heap.size ≤ gb266)); have n4_ := Aside0.mk ((zG hg : w.heap.size ≤ gb266)); have n5_ := Aside0.mk ((by rw [hg]; exact Nat.ne_of_lt (blk_lt (g := gb265) (o := .cells #[.int .u32 a0_0, .int .i64 a0_1, .slice A0_2 l0_2.length c0_2, .int .i64 a0_3, .int .i64 a0_4, .slice A0_5 l0_5.length c0_5] 31 (0, 0)) (zK BK265)) : gb265 ≠ gb266)); have n6_ := Aside0.mk ((by rw [hg]; exact Nat.ne_of_gt (blk_lt (g := gb265) (o := .cells #[.int .u32 a0_0, .int .i64 a0_1, .slice A0_2 l0_2.length c0_2, .int .i64 a0_3, .int .i64 a0_4, .slice A0_5 l0_5.length c0_5] 31 (0, 0)) (zK BK265)) : gb266 ≠ gb265)); clear BK265; clear HB; have BK265 := n0_; have HB := n1_; have BK266 := n2_; have GW266 := n3_; have GE266 := n4_; have NB265_266 := n5_; have NB266_265 := n6_; clear n0_ n1_ n2_ n3_ n4_ n5_ n6_; clear hb hbox hg; have hnb16 := NB265_266.out; have hnc16 := NB266_265.out; have hcz17_0 : w15.cell? ⟨gb265, 0, none⟩ = some (.int .u32 a0_0) := zT BK265 0; have hcz17_1 : w15.cell? ⟨gb265, 1, none⟩ = some (.int .i64 a0_1) := zT BK265 1; have hcz17_2 : w15.cell? ⟨gb265, 2, none⟩ = some (.slice A0_2 l0_2.length c0_2) := zT BK265 2; have hcz17_3 : w15.cell? ⟨gb265, 3, none⟩ = some (.int .i64 a0_3) := zT BK265 3; have hcz17_4 : w15.cell? ⟨gb265, 4, none⟩ = some (.int .i64 a0_4) := zT BK265 4; have hcz17_5 : w15.cell? ⟨gb265, 5, none⟩ = some (.slice A0_5 l0_5.length c0_5) := zT BK265 5; have hfz17_0 := blk_frozen BK265.out 0; have hfz17_1 := blk_frozen BK265.out 1; have hfz17_2 := blk_frozen BK265.out 2; have hfz17_3 := blk_frozen BK265.out 3; have hfz17_4 := blk_frozen BK265.out 4; have hfz17_5 := blk_frozen BK265.out 5; have hcz18_0 : w15.cell? ⟨gb266, 0, none⟩ = some (.int .u32 a1_0) := zT BK266 0; have hcz18_1 : w15.cell? ⟨gb266, 1, none⟩ = some (.int .i64 a1_1) := zT BK266 1; have hcz18_2 : w15.cell? ⟨gb266, 2, none⟩ = some (.slice A1_2 l1_2.length c1_2) := zT BK266 2; have hcz18_3 : w15.cell? ⟨gb266, 3, none⟩ = some (.int .i64 a1_3) := zT BK266 3; have hcz18_4 : w15.cell? ⟨gb266, 4, none⟩ = some (.int .i64 a1_4) := zT BK266 4; have hcz18_5 : w15.cell? ⟨gb266, 5, none⟩ = some (.slice A1_5 l1_5.length c1_5) := zT BK266 5; have hfz18_0 := blk_frozen BK266.out 0; have hfz18_1 := blk_frozen BK266.out 1; have hfz18_2 := blk_frozen BK266.out 2; have hfz18_3 := blk_frozen BK266.out 3; have hfz18_4 := blk_frozen BK266.out 4; have hfz18_5 := blk_frozen BK266.out 5) | (go_at_call 10; (with_reducible refine (g9_.calls k _ _ l0_2 _ _ l1_2 false _ ?side1 ?side2 ?side3 ?side4 A6.out).mono ?_); (case side1 => exact zC HR0_2 HB); (case side2 => exact HC0_2.out); (case side3 => exact zC HR1_2 HB); (case side4 => exact HC1_2.out); rintro e w' ⟨rfl, ⟨nd, rfl⟩⟩))
  go_ret
  exact ⟨zE, zB⟩
 subst c7
 have H1 : ((g9_.f k l0_5 l1_5).bind fun t268 => (some t268)) = some r := by rw [if_pos rfl] at H; exact H
 clear H
 have H := H1
 clear H1
 replace H := Option.bind_eq_some_iff.mp H
 obtain ⟨t268, A80, H⟩ := H
 replace H : (some t268) = some r := H
 have A8 := Aside0.mk A80
 clear A80
 obtain rfl := Option.some.inj H
 go_enter Tryd.func17, Tryd.ntmps17
 go_wp2_with (first | ((with_reducible refine gate_dst (N := 2) rfl ?_); refine bx 2 (#[.int .u32 a0_0, .int .i64 a0_1, .slice A0_2 l0_2.length c0_2, .int .i64 a0_3, .int .i64 a0_4, .slice A0_5 l0_5.length c0_5]) 31 ?_; intro gb265 hg w9 hbox hb; have n0_ := Aside0.mk (below_step zB hb); have n1_ := Aside0.mk (hbox); have n2_ := Aside0.mk ((zG hg : w.heap.size ≤ gb265)); have n3_ := Aside0.mk ((zG hg : w.heap.size ≤ gb265)); clear HB; have HB := n0_; have BK265 := n1_; have GW265 := n2_; have GE265 := n3_; clear n0_ n1_ n2_ n3_; clear hb hbox hg) | ((with_reducible refine gate_dst (N := 3) rfl ?_); refine bx 3 (#[.int .u32 a1_0, .int .i64 a1_1, .slice A1_2 l1_2.length c1_2, .int .i64 a1_3, .int .i64 a1_4, .slice A1_5 l1_5.length c1_5]) 31 ?_; intro gb266 hg w10 hbox hb; have n0_ := Aside0.mk (blk_below (g := gb265) (o := .cells #[.int .u32 a0_0, .int .i64 a0_1, .slice A0_2 l0_2.length c0_2, .int .i64 a0_3, .int .i64 a0_4, .slice A0_5 l0_5.length c0_5] 31 (0, 0)) (zK BK265) hb); have n1_ := Aside0.mk (below_step zB hb); have n2_ := Aside0.mk (hbox); have n3_ := Aside0.mk ((zG hg : w.heap.size ≤ gb266)); have n4_ := Aside0.mk ((zG hg : w.heap.size ≤ gb266)); have n5_ := Aside0.mk ((by rw [hg]; exact Nat.ne_of_lt (blk_lt (g := gb265) (o := .cells #[.int .u32 a0_0, .int .i64 a0_1, .slice A0_2 l0_2.length c0_2, .int .i64 a0_3, .int .i64 a0_4, .slice A0_5 l0_5.length c0_5] 31 (0, 0)) (zK BK265)) : gb265 ≠ gb266)); have n6_ := Aside0.mk ((by rw [hg]; exact Nat.ne_of_gt (blk_lt (g := gb265) (o := .cells #[.int .u32 a0_0, .int .i64 a0_1, .slice A0_2 l0_2.length c0_2, .int .i64 a0_3, .int .i64 a0_4, .slice A0_5 l0_5.length c0_5] 31 (0, 0)) (zK BK265)) : gb266 ≠ gb265)); clear BK265; clear HB; have BK265 := n0_; have HB := n1_; have BK266 := n2_; have GW266 := n3_; have GE266 := n4_; have NB265_266 := n5_; have NB266_265 := n6_; clear n0_ n1_ n2_ n3_ n4_ n5_ n6_; clear hb hbox hg; have hnb11 := NB265_266.out; have hnc11 := NB266_265.out; have hcz12_0 : w10.cell? ⟨gb265, 0, none⟩ = some (.int .u32 a0_0) := zT BK265 0; have hcz12_1 : w10.cell? ⟨gb265, 1, none⟩ = some (.int .i64 a0_1) := zT BK265 1; have hcz12_2 : w10.cell? ⟨gb265, 2, none⟩ = some (.slice A0_2 l0_2.length c0_2) := zT BK265 2; have hcz12_3 : w10.cell? ⟨gb265, 3, none⟩ = some (.int .i64 a0_3) := zT BK265 3; have hcz12_4 : w10.cell? ⟨gb265, 4, none⟩ = some (.int .i64 a0_4) := zT BK265 4; have hcz12_5 : w10.cell? ⟨gb265, 5, none⟩ = some (.slice A0_5 l0_5.length c0_5) := zT BK265 5; have hfz12_0 := blk_frozen BK265.out 0; have hfz12_1 := blk_frozen BK265.out 1; have hfz12_2 := blk_frozen BK265.out 2; have hfz12_3 := blk_frozen BK265.out 3; have hfz12_4 := blk_frozen BK265.out 4; have hfz12_5 := blk_frozen BK265.out 5; have hcz13_0 : w10.cell? ⟨gb266, 0, none⟩ = some (.int .u32 a1_0) := zT BK266 0; have hcz13_1 : w10.cell? ⟨gb266, 1, none⟩ = some (.int .i64 a1_1) := zT BK266 1; have hcz13_2 : w10.cell? ⟨gb266, 2, none⟩ = some (.slice A1_2 l1_2.length c1_2) := zT BK266 2; have hcz13_3 : w10.cell? ⟨gb266, 3, none⟩ = some (.int .i64 a1_3) := zT BK266 3; have hcz13_4 : w10.cell? ⟨gb266, 4, none⟩ = some (.int .i64 a1_4) := zT BK266 4; have hcz13_5 : w10.cell? ⟨gb266, 5, none⟩ = some (.slice A1_5 l1_5.length c1_5) := zT BK266 5; have hfz13_0 := blk_frozen BK266.out 0; have hfz13_1 := blk_frozen BK266.out 1; have hfz13_2 := blk_frozen BK266.out 2; have hfz13_3 := blk_frozen BK266.out 3; have hfz13_4 := blk_frozen BK266.out 4; have hfz13_5 := blk_frozen BK266.out 5) | (go_at_call 10; (with_reducible refine (g9_.calls k _ _ l0_2 _ _ l1_2 true _ ?side1 ?side2 ?side3 ?side4 A6.out).mono ?_); (case side1 => exact zC HR0_2 HB); (case side2 => exact HC0_2.out); (case side3 => exact zC HR1_2 HB); (case side4 => exact HC1_2.out); rintro e w' ⟨rfl, ⟨nd, rfl⟩⟩) | (go_at_call 10; (with_reducible refine (g9_.calls k _ _ l0_5 _ _ l1_5 t268 _ ?side1 ?side2 ?side3 ?side4 A8.out).mono ?_); (case side1 => repeat (first | exact (Kd.C_below HR0_5.out zB) | (with_reducible refine Kd.C_alloc ?_ _) | (with_reducible refine Kd.C_drewN ?_ _) | (with_reducible refine Kd.C_drew ?_))); (case side2 => exact HC0_5.out); (case side3 => repeat (first | exact (Kd.C_below HR1_5.out zB) | (with_reducible refine Kd.C_alloc ?_ _) | (with_reducible refine Kd.C_drewN ?_ _) | (with_reducible refine Kd.C_drew ?_))); (case side4 => exact HC1_5.out); rintro e w' ⟨rfl, ⟨nd, rfl⟩⟩))
 go_ret
 exact ⟨zE, zB⟩
/-! ### path_Check_1: function 44 -/
def path_Check_1.f (a0 : Int) : Option (Bool) := if a0 < 1 then (some true) else (some (decide (a0 > 65535)))
set_option maxHeartbeats 8000000 in
set_option maxRecDepth 100000 in
theorem path_Check_1.calls (a0 : Int) (r : Bool) (w : World) (h : path_Check_1.f a0 = some r) :
 Calls Tryd.prog 44 #[.int .i64 a0] w fun e w' => e = .returned (.bool r) ∧ Drawn0 w w' := by
 have H : (if a0 < 1 then (some true) else (some (decide (a0 > 65535)))) = some r := h
 clear h
 by_cases c2 : a0 < 1
 ·
  rw [if_pos c2] at H
  have c2b0 : decide (a0 < 1) = true := decide_eq_true c2
  clear c2
  obtain rfl := Option.some.inj H
  go_enter Tryd.func44, Tryd.ntmps44
  go_wp2
  go_ret
  exact ⟨zR, by repeat (first | exact Drawn0.refl _ | apply Drawn0.step)⟩
 rw [if_neg c2] at H
 have c2b0 : decide (a0 < 1) = false := decide_eq_false c2
 clear c2
 obtain rfl := Option.some.inj H
 go_enter Tryd.func44, Tryd.ntmps44
 go_wp2
 go_ret
 exact ⟨zR, by repeat (first | exact Drawn0.refl _ | apply Drawn0.step)⟩
/-! ### g2_: function 69 -/
def g2_.l0 : Nat → List Int → Int → Int → Option (Int)
  | 0, _, _, _ => none
  | k + 1, x0, x7, x8 => if x8 < x7 then (if 0 ≤ x8 then (if x8 < (x0.length : Int) then ((path_Check_1.f (rd x0 x8)).bind fun t323 => (if t323 = true then (some x8) else (g2_.l0 k x0 x7 (wrap64 (x8 + 1))))) else (none)) else (none)) else (some (-1))
def g2_.f (k : Nat) (l0 : List Int)  : Option (Int) := g2_.l0 k l0 (l0.length : Int) 0
theorem g2_.mono_l : ∀ k, (∀ y0 y1 y2, LeO (g2_.l0 k y0 y1 y2) (g2_.l0 (k + 1) y0 y1 y2))
  | 0 => fun _ _ _ r h => by simp [g2_.l0] at h
  | k + 1 => by
    have ih0 := g2_.mono_l k
    · intro y0 y1 y2
      unfold g2_.l0
      repeat' (with_reducible first | exact ih0 _ _ _ | exact LeO.refl _ | exact LeO.none _ | refine LeO.ite ?_ ?_ | refine LeO.bind ?_ (fun _ => ?_))
theorem g2_.mono : ∀ a0 k, LeO (g2_.f k a0) (g2_.f (k + 1) a0) := by
  intro a0 k
  have ih0 := g2_.mono_l k
  unfold g2_.f
  repeat' (with_reducible first | exact ih0 _ _ _ | exact LeO.refl _ | exact LeO.none _ | refine LeO.ite ?_ ?_ | refine LeO.bind ?_ (fun _ => ?_))
set_option maxHeartbeats 8000000 in
set_option maxRecDepth 100000 in
theorem g2_.calls (k : Nat) (A0 : Option Addr) (c0 : Nat) (l0 : List Int)  (r : Int) (w : World) (hr0 : Kd.C (Kd.int .i64) w A0 l0.length l0) (hc0 : l0.length ≤ c0) (h : g2_.f k l0 = some r) :
 Calls Tryd.prog 69 #[.slice A0 l0.length c0, .func (.func 44) #[] #[]] w fun e w' => e = .returned (.int .i64 r) ∧ Drawn0 w w' := by
 have hu3 := Tryd.underlying3
 have HR0 := Aside0.mk hr0
 have HC0 := Aside0.mk hc0
 clear hr0 hc0
 have H : (g2_.l0 k l0 (l0.length : Int) 0) = some r := h
 clear h
 have H' := Aside0.mk H
 clear H
 go_enter Tryd.func69, Tryd.ntmps69
 go_wp2
 go_loopg [8] k (fun kq v8 w' => ∃ (x8_1 : Int), v8 = .int .i64 x8_1 ∧ Aside0 (g2_.l0 kq l0 (l0.length : Int) x8_1 = some r) ∧ Aside0 (kq ≤ k) ∧ Drawn0 w w')
 case atStart => exact ⟨(0), zR, H', ⟨Nat.le_refl _⟩, by repeat (first | exact Drawn0.refl _ | apply Drawn0.step)⟩
 clear H'
 try clear p2
 obtain ⟨x8_1, rfl, HA, HK1, ⟨m1, rfl⟩⟩ := hrel
 rcases gk with _ | k1
 · exact absurd HA.out (by simp [g2_.l0])
 have H := HA.out
 clear HA
 simp only [g2_.l0] at H
 by_cases c3 : x8_1 < (l0.length : Int)
 rotate_left
 ·
  rw [if_neg c3] at H
  have c3b0 : decide (x8_1 < (l0.length : Int)) = false := decide_eq_false c3
  clear c3
  obtain rfl := Option.some.inj H
  go_wp2
  go_ret
  exact ⟨zR, by repeat (first | exact Drawn0.refl _ | apply Drawn0.step)⟩
 rw [if_pos c3] at H
 have c3b0 : decide (x8_1 < (l0.length : Int)) = true := decide_eq_true c3
 clear c3
 by_cases c4 : 0 ≤ x8_1
 rotate_left
 · rw [if_neg c4] at H; exact absurd H (by simp)
 rw [if_pos c4] at H
 have c4b0 : decide (0 ≤ x8_1) = true := decide_eq_true c4
 clear c4
 by_cases c5 : x8_1 < (l0.length : Int)
 rotate_left
 · rw [if_neg c5] at H; exact absurd H (by simp)
 rw [if_pos c5] at H
 have c5b0 : decide (x8_1 < (l0.length : Int)) = true := decide_eq_true c5
 clear c5
 replace H := Option.bind_eq_some_iff.mp H
 obtain ⟨t323, A60, H⟩ := H
 replace H : (if t323 = true then (some x8_1) else (g2_.l0 k1 l0 (l0.length : Int) (wrap64 (x8_1 + 1)))) = some r := H
 have A6 := Aside0.mk A60
 clear A60
 by_cases c7 : t323 = true
 ·
  subst c7
  have H1 : (some x8_1) = some r := by rw [if_pos rfl] at H; exact H
  clear H
  have H := H1
  clear H1
  obtain rfl := Option.some.inj H
  have p322 : 0 ≤ (x8_1 : Int) := od
  have q322 : x8_1 < (l0.length : Int) := od
  obtain ⟨ad322, e322, hx322_0⟩ := Kd.at_int HR0.out x8_1 p322 q322
  cases e322
  replace p322 := eq_true p322
  replace q322 := eq_true q322
  go_wp2_with (first | (go_at_call 44; (with_reducible refine (path_Check_1.calls (rd l0 x8_1) true _ A6.out).mono ?_); rintro e w' ⟨rfl, ⟨nd, rfl⟩⟩))
  go_ret
  exact ⟨zR, by repeat (first | exact Drawn0.refl _ | apply Drawn0.step)⟩
 replace c7 := Bool.eq_false_iff.mpr c7
 subst c7
 have H1 : (g2_.l0 k1 l0 (l0.length : Int) (wrap64 (x8_1 + 1))) = some r := by rw [if_neg (show ¬ (false = true) by decide)] at H; exact H
 clear H
 have H := H1
 clear H1
 have H' := Aside0.mk H
 clear H
 have p322 : 0 ≤ (x8_1 : Int) := od
 have q322 : x8_1 < (l0.length : Int) := od
 obtain ⟨ad322, e322, hx322_0⟩ := Kd.at_int HR0.out x8_1 p322 q322
 cases e322
 replace p322 := eq_true p322
 replace q322 := eq_true q322
 go_wp2_with (first | (go_at_call 44; (with_reducible refine (path_Check_1.calls (rd l0 x8_1) false _ A6.out).mono ?_); rintro e w' ⟨rfl, ⟨nd, rfl⟩⟩))
 go_roundg k1
 case measure => have := HK1.out; omega
 case rel => exact ⟨(wrap64 (x8_1 + 1)), zR, H', ⟨by have := HK1.out; omega⟩, by repeat (first | exact Drawn0.refl _ | apply Drawn0.step)⟩
/-! ### g3_: function 45 -/
def g3_.f (k : Nat) (l0 : List Int)  : Option (Bool) := (g2_.f k l0).bind fun t324 => (some (decide (t324 ≥ 0)))
theorem g3_.mono : ∀ a0 k, LeO (g3_.f k a0) (g3_.f (k + 1) a0) := by
  intro a0 k
  unfold g3_.f
  repeat' (with_reducible first | exact g2_.mono _ _ | exact LeO.refl _ | exact LeO.none _ | refine LeO.ite ?_ ?_ | refine LeO.bind ?_ (fun _ => ?_))
set_option maxHeartbeats 8000000 in
set_option maxRecDepth 100000 in
theorem g3_.calls (k : Nat) (A0 : Option Addr) (c0 : Nat) (l0 : List Int)  (r : Bool) (w : World) (hr0 : Kd.C (Kd.int .i64) w A0 l0.length l0) (hc0 : l0.length ≤ c0) (h : g3_.f k l0 = some r) :
 Calls Tryd.prog 45 #[.slice A0 l0.length c0, .func (.func 44) #[] #[]] w fun e w' => e = .returned (.bool r) ∧ Drawn0 w w' := by
 have HR0 := Aside0.mk hr0
 have HC0 := Aside0.mk hc0
 clear hr0 hc0
 have H : ((g2_.f k l0).bind fun t324 => (some (decide (t324 ≥ 0)))) = some r := h
 clear h
 replace H := Option.bind_eq_some_iff.mp H
 obtain ⟨t324, A30, H⟩ := H
 replace H : (some (decide (t324 ≥ 0))) = some r := H
 have A3 := Aside0.mk A30
 clear A30
 obtain rfl := Option.some.inj H
 go_enter Tryd.func45, Tryd.ntmps45
 go_wp2_with (first | ((with_reducible refine gate_callee (f := 69) rfl ?_); refine goesL_ (some 7) rfl rfl Tryd.func69 (by kernel_rfl) rfl #[.slice A0 l0.length c0, .func (.func 44) #[] #[]] rfl zM ?_; (with_reducible refine (g2_.calls k _ _ l0  t324 _ ?side1 ?side2 A3.out).mono ?_); (case side1 => repeat (first | exact HR0.out | (with_reducible refine Kd.C_alloc ?_ _) | (with_reducible refine Kd.C_drewN ?_ _) | (with_reducible refine Kd.C_drew ?_))); (case side2 => exact HC0.out); rintro e w' ⟨rfl, ⟨nd, rfl⟩⟩; refine ⟨_, rfl, ?_⟩))
 go_ret
 exact ⟨zR, by repeat (first | exact Drawn0.refl _ | apply Drawn0.step)⟩
end Go.Proofs.YtplcdbhklepkgaaDoor.PG
