-- Made by gen.py, a program of this session's, over the kit's print.
import Derived.Test.YtplcdbhklepkgaaDoorVAnyShort
import Derived.Test.YtplcdbhklepkgaaDoorVAnyBOx0
import Derived.Test.YtplcdbhklepkgaaDoorVAnyBOx2
import Derived.Test.YtplcdbhklepkgaaDoorVAnyBOx10
import Derived.Test.YtplcdbhklepkgaaDoorVAnyBOx12
namespace Go.Proofs.YtplcdbhklepkgaaDoor.BO
open Go.RowKit Go.Proofs.YtplcdbhklepkgaaDoorW.PrintWords Go.Proofs.YtplcdbhklepkgaaDoorW.PrintLast Go.Proofs.YtplcdbhklepkgaaDoorW.PrintMore Go.Proofs.YtplcdbhklepkgaaDoor.GenWords
attribute [local go_sem] max2_int min2_int max_two min_two max_three min_three max_four min_four   -- for this text's walks alone
set_option linter.unusedVariables false
set_option linter.unusedSimpArgs false

/-! ### g8_: function 15 -/
mutual
def g8_.j0 : Nat → Int → Int → List Int → Int → Int → List Int → Int → Int → Int → Int → Option (Int × Int × List Int × Int × Int × List Int)
  | 0, _, _, _, _, _, _, _, _, _, _ => none
  | k + 1, x640000, x640001, x640002, x640003, x640004, x640005, x642000, x642001, x642003, x642004 => (g28_.f x640002 6).bind fun t643 => (g8_.l0 k t643 (t643.length : Int) 0 x640000 x640001 x640002 x640003 x640004 x640005 x642000 x642001 ([] : List Int) x642003 x642004)
def g8_.l0 : Nat → List Int → Int → Int → Int → Int → List Int → Int → Int → List Int → Int → Int → List Int → Int → Int → Option (Int × Int × List Int × Int × Int × List Int)
  | 0, _, _, _, _, _, _, _, _, _, _, _, _, _, _ => none
  | k + 1, x25, x26, x27, x640000, x640001, x640002, x640003, x640004, x640005, x642000, x642001, x642002, x642003, x642004 => if x27 < x26 then (if 0 ≤ x27 then (if x27 < (x25.length : Int) then (if x642002.length < 17592186044416 then (g8_.l0 k x25 x26 (wrap64 (x27 + 1)) x640000 x640001 x640002 x640003 x640004 x640005 x642000 x642001 (x642002 ++ [wrap64 (1 + (Go.bits .and .i64 (rd x25 x27) 15))]) x642003 x642004) else (none)) else (none)) else (none)) else ((g28_.f x640005 4).bind fun t650 => (g8_.l1 k t650 (t650.length : Int) 0 x642000 x642001 x642002 x642003 x642004 ([] : List Int)))
def g8_.l1 : Nat → List Int → Int → Int → Int → Int → List Int → Int → Int → List Int → Option (Int × Int × List Int × Int × Int × List Int)
  | 0, _, _, _, _, _, _, _, _, _ => none
  | k + 1, x42, x43, x44, x642000, x642001, x642002, x642003, x642004, x642005 => if x44 < x43 then (if 0 ≤ x44 then (if x44 < (x42.length : Int) then (if x642005.length < 17592186044416 then (g8_.l1 k x42 x43 (wrap64 (x44 + 1)) x642000 x642001 x642002 x642003 x642004 (x642005 ++ [wrap64 (1 + (Go.bits .and .i64 (rd x42 x44) 15))])) else (none)) else (none)) else (none)) else ((g18_.f k x642005).bind fun t657 => ((g7_.f k t657).bind fun t658 => (some (x642000, x642001, x642002, x642003, x642004, t658))))
end
def g8_.f (k : Nat) (a0_0 : Int) (a0_1 : Int) (l0_2 : List Int) (a0_3 : Int) (a0_4 : Int) (l0_5 : List Int) : Option (Int × Int × List Int × Int × Int × List Int) := (addr_Check.f a0_0 a0_1).bind fun t642 => (if t642 = 0 then (g8_.j0 k a0_0 a0_1 l0_2 a0_3 a0_4 l0_5 a0_0 a0_1 (Go.bits .and .i64 a0_3 1023) (Go.bits .and .i64 a0_4 1023)) else (g8_.j0 k a0_0 a0_1 l0_2 a0_3 a0_4 l0_5 167772160 8 (Go.bits .and .i64 a0_3 1023) (Go.bits .and .i64 a0_4 1023)))
theorem g8_.mono_l : ∀ k, (∀ y0 y1 y2 y3 y4 y5 y6 y7 y8 y9, LeO (g8_.j0 k y0 y1 y2 y3 y4 y5 y6 y7 y8 y9) (g8_.j0 (k + 1) y0 y1 y2 y3 y4 y5 y6 y7 y8 y9)) ∧ (∀ y0 y1 y2 y3 y4 y5 y6 y7 y8 y9 y10 y11 y12 y13, LeO (g8_.l0 k y0 y1 y2 y3 y4 y5 y6 y7 y8 y9 y10 y11 y12 y13) (g8_.l0 (k + 1) y0 y1 y2 y3 y4 y5 y6 y7 y8 y9 y10 y11 y12 y13)) ∧ (∀ y0 y1 y2 y3 y4 y5 y6 y7 y8, LeO (g8_.l1 k y0 y1 y2 y3 y4 y5 y6 y7 y8) (g8_.l1 (k + 1) y0 y1 y2 y3 y4 y5 y6 y7 y8))
  | 0 => ⟨fun _ _ _ _ _ _ _ _ _ _ r h => by simp [g8_.j0] at h, fun _ _ _ _ _ _ _ _ _ _ _ _ _ _ r h => by simp [g8_.l0] at h, fun _ _ _ _ _ _ _ _ _ r h => by simp [g8_.l1] at h⟩
  | k + 1 => by
    obtain ⟨ih0, ih1, ih2⟩ := g8_.mono_l k
    refine ⟨?_, ?_, ?_⟩
    · intro y0 y1 y2 y3 y4 y5 y6 y7 y8 y9
      unfold g8_.j0
      repeat' (with_reducible first | exact ih0 _ _ _ _ _ _ _ _ _ _ | exact ih1 _ _ _ _ _ _ _ _ _ _ _ _ _ _ | exact ih2 _ _ _ _ _ _ _ _ _ | exact g7_.mono _ _ | exact g18_.mono _ _ | exact LeO.refl _ | exact LeO.none _ | refine LeO.ite ?_ ?_ | refine LeO.bind ?_ (fun _ => ?_))
    · intro y0 y1 y2 y3 y4 y5 y6 y7 y8 y9 y10 y11 y12 y13
      unfold g8_.l0
      repeat' (with_reducible first | exact ih0 _ _ _ _ _ _ _ _ _ _ | exact ih1 _ _ _ _ _ _ _ _ _ _ _ _ _ _ | exact ih2 _ _ _ _ _ _ _ _ _ | exact g7_.mono _ _ | exact g18_.mono _ _ | exact LeO.refl _ | exact LeO.none _ | refine LeO.ite ?_ ?_ | refine LeO.bind ?_ (fun _ => ?_))
    · intro y0 y1 y2 y3 y4 y5 y6 y7 y8
      unfold g8_.l1
      repeat' (with_reducible first | exact ih0 _ _ _ _ _ _ _ _ _ _ | exact ih1 _ _ _ _ _ _ _ _ _ _ _ _ _ _ | exact ih2 _ _ _ _ _ _ _ _ _ | exact g7_.mono _ _ | exact g18_.mono _ _ | exact LeO.refl _ | exact LeO.none _ | refine LeO.ite ?_ ?_ | refine LeO.bind ?_ (fun _ => ?_))
theorem g8_.mono : ∀ a0 a1 a2 a3 a4 a5 k, LeO (g8_.f k a0 a1 a2 a3 a4 a5) (g8_.f (k + 1) a0 a1 a2 a3 a4 a5) := by
  intro a0 a1 a2 a3 a4 a5 k
  obtain ⟨ih0, ih1, ih2⟩ := g8_.mono_l k
  unfold g8_.f
  repeat' (with_reducible first | exact ih0 _ _ _ _ _ _ _ _ _ _ | exact ih1 _ _ _ _ _ _ _ _ _ _ _ _ _ _ | exact ih2 _ _ _ _ _ _ _ _ _ | exact g7_.mono _ _ | exact g18_.mono _ _ | exact LeO.refl _ | exact LeO.none _ | refine LeO.ite ?_ ?_ | refine LeO.bind ?_ (fun _ => ?_))
set_option maxHeartbeats 8000000 in
set_option maxRecDepth 100000 in
theorem g8_.calls (k : Nat) (a0_0 : Int) (a0_1 : Int) (A0_2 : Option Addr) (c0_2 : Nat) (l0_2 : List Int) (a0_3 : Int) (a0_4 : Int) (A0_5 : Option Addr) (c0_5 : Nat) (l0_5 : List Int) (r1 : Int) (r2 : Int) (r3 : List Int) (r4 : Int) (r5 : Int) (r6 : List Int) (w : World) (hr0_2 : Kd.C (Kd.int .i64) w A0_2 l0_2.length l0_2) (hc0_2 : l0_2.length ≤ c0_2) (hr0_5 : Kd.C (Kd.int .i64) w A0_5 l0_5.length l0_5) (hc0_5 : l0_5.length ≤ c0_5) (hgl0_0 : w.cell? ⟨0, 0, none⟩ = some (.int .u32 167772160)) (hgl0_1 : w.cell? ⟨0, 1, none⟩ = some (.int .i64 8)) (h : g8_.f k a0_0 a0_1 l0_2 a0_3 a0_4 l0_5 = some (r1, r2, r3, r4, r5, r6)) :
 Calls Tryd.prog 15 #[.agg #[.int .u32 a0_0, .int .i64 a0_1, .slice A0_2 l0_2.length c0_2, .int .i64 a0_3, .int .i64 a0_4, .slice A0_5 l0_5.length c0_5]] w fun e w' => ∃ v2_ v5_ : Value, e = .returned (.agg #[.int .u32 r1, .int .i64 r2, v2_, .int .i64 r4, .int .i64 r5, v5_]) ∧ Kd.R (Kd.int .i64) 3 w' w.heap.size (fun k_ => some k_ ≠ (v5_ : Value).ownBlock) v2_ r3 ∧ Kd.R (Kd.int .i64) 3 w' w.heap.size (fun k_ => some k_ ≠ (v2_ : Value).ownBlock) v5_ r6 ∧ Below w.heap.size w w' := by
 have hu31 := Tryd.underlying31
 have hu29 := Tryd.underlying29
 have hu3 := Tryd.underlying3
 have hu23 := Tryd.underlying23
 have HR0_2 := Aside0.mk hr0_2
 have HC0_2 := Aside0.mk hc0_2
 clear hr0_2 hc0_2
 have HR0_5 := Aside0.mk hr0_5
 have HC0_5 := Aside0.mk hc0_5
 clear hr0_5 hc0_5
 have GL0_0 := Aside0.mk hgl0_0
 clear hgl0_0
 have GL0_1 := Aside0.mk hgl0_1
 clear hgl0_1
 have HB := Aside0.mk (Below.refl w.heap.size w)
 have H : ((addr_Check.f a0_0 a0_1).bind fun t642 => (if t642 = 0 then (g8_.j0 k a0_0 a0_1 l0_2 a0_3 a0_4 l0_5 a0_0 a0_1 (Go.bits .and .i64 a0_3 1023) (Go.bits .and .i64 a0_4 1023)) else (g8_.j0 k a0_0 a0_1 l0_2 a0_3 a0_4 l0_5 167772160 8 (Go.bits .and .i64 a0_3 1023) (Go.bits .and .i64 a0_4 1023)))) = some (r1, r2, r3, r4, r5, r6) := h
 clear h
 replace H := Option.bind_eq_some_iff.mp H
 obtain ⟨t642, A20, H⟩ := H
 replace H : (if t642 = 0 then (g8_.j0 k a0_0 a0_1 l0_2 a0_3 a0_4 l0_5 a0_0 a0_1 (Go.bits .and .i64 a0_3 1023) (Go.bits .and .i64 a0_4 1023)) else (g8_.j0 k a0_0 a0_1 l0_2 a0_3 a0_4 l0_5 167772160 8 (Go.bits .and .i64 a0_3 1023) (Go.bits .and .i64 a0_4 1023))) = some (r1, r2, r3, r4, r5, r6) := H
 have A2 := Aside0.mk A20
 clear A20
 have HC3 := Aside0.mk H
 clear H
 go_enter Tryd.func15, Tryd.ntmps15
 go_upto_if 20 with (first | ((with_reducible refine gate_dst (N := 1) rfl ?_); refine bx 1 (#[.int .u32 a0_0, .int .i64 a0_1, .slice A0_2 l0_2.length c0_2, .int .i64 a0_3, .int .i64 a0_4, .slice A0_5 l0_5.length c0_5]) 31 ?_; intro gb639 hg w4 hbox hb; have n0_ := Aside0.mk (below_step zB hb); have n1_ := Aside0.mk (hbox); have n2_ := Aside0.mk ((zG hg : w.heap.size ≤ gb639)); have n3_ := Aside0.mk ((zG hg : w.heap.size ≤ gb639)); clear HB; have HB := n0_; have BK639 := n1_; have GW639 := n2_; have GE639 := n3_; clear n0_ n1_ n2_ n3_; clear hb hbox hg) | ((with_reducible refine gate_dst (N := 2) rfl ?_); refine bx 2 (#[.int .u32 0, .int .i64 0, .slice none 0 0, .int .i64 0, .int .i64 0, .slice none 0 0]) 31 ?_; intro gb640 hg w5 hbox hb; have n0_ := Aside0.mk (blk_below (g := gb639) (o := .cells #[.int .u32 a0_0, .int .i64 a0_1, .slice A0_2 l0_2.length c0_2, .int .i64 a0_3, .int .i64 a0_4, .slice A0_5 l0_5.length c0_5] 31 (0, 0)) (zK BK639) hb); have n1_ := Aside0.mk (below_step zB hb); have n2_ := Aside0.mk (hbox); have n3_ := Aside0.mk ((zG hg : w.heap.size ≤ gb640)); have n4_ := Aside0.mk ((zG hg : w.heap.size ≤ gb640)); have n5_ := Aside0.mk ((by rw [hg]; exact Nat.ne_of_lt (blk_lt (g := gb639) (o := .cells #[.int .u32 a0_0, .int .i64 a0_1, .slice A0_2 l0_2.length c0_2, .int .i64 a0_3, .int .i64 a0_4, .slice A0_5 l0_5.length c0_5] 31 (0, 0)) (zK BK639)) : gb639 ≠ gb640)); have n6_ := Aside0.mk ((by rw [hg]; exact Nat.ne_of_gt (blk_lt (g := gb639) (o := .cells #[.int .u32 a0_0, .int .i64 a0_1, .slice A0_2 l0_2.length c0_2, .int .i64 a0_3, .int .i64 a0_4, .slice A0_5 l0_5.length c0_5] 31 (0, 0)) (zK BK639)) : gb640 ≠ gb639)); clear BK639; clear HB; have BK639 := n0_; have HB := n1_; have BK640 := n2_; have GW640 := n3_; have GE640 := n4_; have NB639_640 := n5_; have NB640_639 := n6_; clear n0_ n1_ n2_ n3_ n4_ n5_ n6_; clear hb hbox hg; have hnb6 := NB639_640.out; have hnc6 := NB640_639.out; have hcz7_0 : w5.cell? ⟨gb639, 0, none⟩ = some (.int .u32 a0_0) := zT BK639 0; have hcz7_1 : w5.cell? ⟨gb639, 1, none⟩ = some (.int .i64 a0_1) := zT BK639 1; have hcz7_2 : w5.cell? ⟨gb639, 2, none⟩ = some (.slice A0_2 l0_2.length c0_2) := zT BK639 2; have hcz7_3 : w5.cell? ⟨gb639, 3, none⟩ = some (.int .i64 a0_3) := zT BK639 3; have hcz7_4 : w5.cell? ⟨gb639, 4, none⟩ = some (.int .i64 a0_4) := zT BK639 4; have hcz7_5 : w5.cell? ⟨gb639, 5, none⟩ = some (.slice A0_5 l0_5.length c0_5) := zT BK639 5; have hfz7_0 := blk_frozen BK639.out 0; have hfz7_1 := blk_frozen BK639.out 1; have hfz7_2 := blk_frozen BK639.out 2; have hfz7_3 := blk_frozen BK639.out 3; have hfz7_4 := blk_frozen BK639.out 4; have hfz7_5 := blk_frozen BK639.out 5) | ((with_reducible refine gate_dst (N := 3) rfl ?_); refine bx 3 (#[.int .u32 0, .int .i64 0, .slice none 0 0, .int .i64 0, .int .i64 0, .slice none 0 0]) 31 ?_; intro gb641 hg w8 hbox hb; have n0_ := Aside0.mk (blk_below (g := gb639) (o := .cells #[.int .u32 a0_0, .int .i64 a0_1, .slice A0_2 l0_2.length c0_2, .int .i64 a0_3, .int .i64 a0_4, .slice A0_5 l0_5.length c0_5] 31 (0, 0)) (zK BK639) hb); have n1_ := Aside0.mk (blk_below (g := gb640) (o := .cells #[.int .u32 0, .int .i64 0, .slice none 0 0, .int .i64 0, .int .i64 0, .slice none 0 0] 31 (0, 0)) (zK BK640) hb); have n2_ := Aside0.mk (below_step zB hb); have n3_ := Aside0.mk (hbox); have n4_ := Aside0.mk ((zG hg : w.heap.size ≤ gb641)); have n5_ := Aside0.mk ((zG hg : w.heap.size ≤ gb641)); have n6_ := Aside0.mk ((by rw [hg]; exact Nat.ne_of_lt (blk_lt (g := gb639) (o := .cells #[.int .u32 a0_0, .int .i64 a0_1, .slice A0_2 l0_2.length c0_2, .int .i64 a0_3, .int .i64 a0_4, .slice A0_5 l0_5.length c0_5] 31 (0, 0)) (zK BK639)) : gb639 ≠ gb641)); have n7_ := Aside0.mk ((by rw [hg]; exact Nat.ne_of_gt (blk_lt (g := gb639) (o := .cells #[.int .u32 a0_0, .int .i64 a0_1, .slice A0_2 l0_2.length c0_2, .int .i64 a0_3, .int .i64 a0_4, .slice A0_5 l0_5.length c0_5] 31 (0, 0)) (zK BK639)) : gb641 ≠ gb639)); have n8_ := Aside0.mk ((by rw [hg]; exact Nat.ne_of_lt (blk_lt (g := gb640) (o := .cells #[.int .u32 0, .int .i64 0, .slice none 0 0, .int .i64 0, .int .i64 0, .slice none 0 0] 31 (0, 0)) (zK BK640)) : gb640 ≠ gb641)); have n9_ := Aside0.mk ((by rw [hg]; exact Nat.ne_of_gt (blk_lt (g := gb640) (o := .cells #[.int .u32 0, .int .i64 0, .slice none 0 0, .int .i64 0, .int .i64 0, .slice none 0 0] 31 (0, 0)) (zK BK640)) : gb641 ≠ gb640)); clear BK639; clear BK640; clear HB; have BK639 := n0_; have BK640 := n1_; have HB := n2_; have BK641 := n3_; have GW641 := n4_; have GE641 := n5_; have NB639_641 := n6_; have NB641_639 := n7_; have NB640_641 := n8_; have NB641_640 := n9_; clear n0_ n1_ n2_ n3_ n4_ n5_ n6_ n7_ n8_ n9_; clear hb hbox hg; have hnb9 := NB641_639.out; have hnc9 := NB639_641.out; have hnb10 := NB641_640.out; have hnc10 := NB640_641.out; have hcz11_0 : w8.cell? ⟨gb641, 0, none⟩ = some (.int .u32 0) := zT BK641 0; have hcz11_1 : w8.cell? ⟨gb641, 1, none⟩ = some (.int .i64 0) := zT BK641 1; have hcz11_2 : w8.cell? ⟨gb641, 2, none⟩ = some (.slice none 0 0) := zT BK641 2; have hcz11_3 : w8.cell? ⟨gb641, 3, none⟩ = some (.int .i64 0) := zT BK641 3; have hcz11_4 : w8.cell? ⟨gb641, 4, none⟩ = some (.int .i64 0) := zT BK641 4; have hcz11_5 : w8.cell? ⟨gb641, 5, none⟩ = some (.slice none 0 0) := zT BK641 5; have hfz11_0 := blk_frozen BK641.out 0; have hfz11_1 := blk_frozen BK641.out 1; have hfz11_2 := blk_frozen BK641.out 2; have hfz11_3 := blk_frozen BK641.out 3; have hfz11_4 := blk_frozen BK641.out 4; have hfz11_5 := blk_frozen BK641.out 5; have hcz12_0 : w8.cell? ⟨gb639, 0, none⟩ = some (.int .u32 a0_0) := zT BK639 0; have hcz12_1 : w8.cell? ⟨gb639, 1, none⟩ = some (.int .i64 a0_1) := zT BK639 1; have hcz12_2 : w8.cell? ⟨gb639, 2, none⟩ = some (.slice A0_2 l0_2.length c0_2) := zT BK639 2; have hcz12_3 : w8.cell? ⟨gb639, 3, none⟩ = some (.int .i64 a0_3) := zT BK639 3; have hcz12_4 : w8.cell? ⟨gb639, 4, none⟩ = some (.int .i64 a0_4) := zT BK639 4; have hcz12_5 : w8.cell? ⟨gb639, 5, none⟩ = some (.slice A0_5 l0_5.length c0_5) := zT BK639 5; have hfz12_0 := blk_frozen BK639.out 0; have hfz12_1 := blk_frozen BK639.out 1; have hfz12_2 := blk_frozen BK639.out 2; have hfz12_3 := blk_frozen BK639.out 3; have hfz12_4 := blk_frozen BK639.out 4; have hfz12_5 := blk_frozen BK639.out 5) | ((with_reducible refine gate_callee (f := 25) rfl ?_); refine goesL_ (some 19) rfl rfl Tryd.func25 (by kernel_rfl) rfl #[.agg #[.int .u32 a0_0, .int .i64 a0_1]] rfl zM ?_; (with_reducible refine (addr_Check.calls a0_0 a0_1 t642 _ A2.out).mono ?_); rintro e w13 ⟨rfl, hb⟩; refine ⟨_, rfl, ?_⟩; have n0_ := Aside0.mk (blk_below (g := gb639) (o := .cells #[.int .u32 a0_0, .int .i64 a0_1, .slice A0_2 l0_2.length c0_2, .int .i64 a0_3, .int .i64 a0_4, .slice A0_5 l0_5.length c0_5] 31 (0, 0)) (by (with_reducible repeat (first | refine blk_drewN ?_ _ | refine blk_drew ?_ | refine blk_alloc ?_ _)); refine blk_far ?_ NB639_641.out _; (with_reducible repeat (first | refine blk_drewN ?_ _ | refine blk_drew ?_ | refine blk_alloc ?_ _)); refine blk_far ?_ NB639_641.out _; (with_reducible repeat (first | refine blk_drewN ?_ _ | refine blk_drew ?_ | refine blk_alloc ?_ _)); refine blk_far ?_ NB639_641.out _; (with_reducible repeat (first | refine blk_drewN ?_ _ | refine blk_drew ?_ | refine blk_alloc ?_ _)); refine blk_far ?_ NB639_641.out _; (with_reducible repeat (first | refine blk_drewN ?_ _ | refine blk_drew ?_ | refine blk_alloc ?_ _)); refine blk_far ?_ NB639_641.out _; (with_reducible repeat (first | refine blk_drewN ?_ _ | refine blk_drew ?_ | refine blk_alloc ?_ _)); refine blk_far ?_ NB639_641.out _; (with_reducible repeat (first | refine blk_drewN ?_ _ | refine blk_drew ?_ | refine blk_alloc ?_ _)); exact BK639.out) hb); have n1_ := Aside0.mk (blk_below (g := gb640) (o := .cells #[.int .u32 0, .int .i64 0, .slice none 0 0, .int .i64 0, .int .i64 0, .slice none 0 0] 31 (0, 0)) (by (with_reducible repeat (first | refine blk_drewN ?_ _ | refine blk_drew ?_ | refine blk_alloc ?_ _)); refine blk_far ?_ NB640_641.out _; (with_reducible repeat (first | refine blk_drewN ?_ _ | refine blk_drew ?_ | refine blk_alloc ?_ _)); refine blk_far ?_ NB640_641.out _; (with_reducible repeat (first | refine blk_drewN ?_ _ | refine blk_drew ?_ | refine blk_alloc ?_ _)); refine blk_far ?_ NB640_641.out _; (with_reducible repeat (first | refine blk_drewN ?_ _ | refine blk_drew ?_ | refine blk_alloc ?_ _)); refine blk_far ?_ NB640_641.out _; (with_reducible repeat (first | refine blk_drewN ?_ _ | refine blk_drew ?_ | refine blk_alloc ?_ _)); refine blk_far ?_ NB640_641.out _; (with_reducible repeat (first | refine blk_drewN ?_ _ | refine blk_drew ?_ | refine blk_alloc ?_ _)); refine blk_far ?_ NB640_641.out _; (with_reducible repeat (first | refine blk_drewN ?_ _ | refine blk_drew ?_ | refine blk_alloc ?_ _)); exact BK640.out) hb); have n2_ := Aside0.mk (blk_below (g := gb641) (o := .cells #[.int .u32 a0_0, .int .i64 a0_1, .slice none 0 0, .int .i64 (Go.bits .and .i64 a0_3 1023), .int .i64 (Go.bits .and .i64 a0_4 1023), .slice none 0 0] 31 (0, 0)) (by (with_reducible repeat (first | refine blk_drewN ?_ _ | refine blk_drew ?_ | refine blk_alloc ?_ _)); refine blk_put (cs := #[.int .u32 a0_0, .int .i64 a0_1, .slice none 0 0, .int .i64 (Go.bits .and .i64 a0_3 1023), .int .i64 (Go.bits .and .i64 a0_4 1023), .slice none 0 0]) ?_ 5 _ rfl; (with_reducible repeat (first | refine blk_drewN ?_ _ | refine blk_drew ?_ | refine blk_alloc ?_ _)); refine blk_put (cs := #[.int .u32 a0_0, .int .i64 a0_1, .slice none 0 0, .int .i64 (Go.bits .and .i64 a0_3 1023), .int .i64 0, .slice none 0 0]) ?_ 4 _ rfl; (with_reducible repeat (first | refine blk_drewN ?_ _ | refine blk_drew ?_ | refine blk_alloc ?_ _)); refine blk_put (cs := #[.int .u32 a0_0, .int .i64 a0_1, .slice none 0 0, .int .i64 0, .int .i64 0, .slice none 0 0]) ?_ 3 _ rfl; (with_reducible repeat (first | refine blk_drewN ?_ _ | refine blk_drew ?_ | refine blk_alloc ?_ _)); refine blk_put (cs := #[.int .u32 a0_0, .int .i64 a0_1, .slice none 0 0, .int .i64 0, .int .i64 0, .slice none 0 0]) ?_ 2 _ rfl; (with_reducible repeat (first | refine blk_drewN ?_ _ | refine blk_drew ?_ | refine blk_alloc ?_ _)); refine blk_put (cs := #[.int .u32 a0_0, .int .i64 0, .slice none 0 0, .int .i64 0, .int .i64 0, .slice none 0 0]) ?_ 1 _ rfl; (with_reducible repeat (first | refine blk_drewN ?_ _ | refine blk_drew ?_ | refine blk_alloc ?_ _)); refine blk_put (cs := #[.int .u32 0, .int .i64 0, .slice none 0 0, .int .i64 0, .int .i64 0, .slice none 0 0]) ?_ 0 _ rfl; (with_reducible repeat (first | refine blk_drewN ?_ _ | refine blk_drew ?_ | refine blk_alloc ?_ _)); exact BK641.out) hb); have n3_ := Aside0.mk (below_step zB hb); clear BK639; clear BK640; clear BK641; clear HB; have BK639 := n0_; have BK640 := n1_; have BK641 := n2_; have HB := n3_; clear n0_ n1_ n2_ n3_; (try clear hb); (try clear hb2); (try clear hk); (try clear hi)))
 (try simp only [Act.put, List.setIfInBounds_toArray, List.set_cons_zero, List.set_cons_succ])
 go_cut [] (fun wc => ∃ (kq : Nat) (x642000_2 : Int) (x642001_2 : Int), Aside0 (g8_.j0 kq a0_0 a0_1 l0_2 a0_3 a0_4 l0_5 x642000_2 x642001_2 (Go.bits .and .i64 a0_3 1023) (Go.bits .and .i64 a0_4 1023) = some (r1, r2, r3, r4, r5, r6)) ∧ Aside0 (kq ≤ k) ∧ Aside0 (wc.heap[gb639]? = some (.cells #[.int .u32 a0_0, .int .i64 a0_1, (.slice A0_2 l0_2.length c0_2), .int .i64 a0_3, .int .i64 a0_4, (.slice A0_5 l0_5.length c0_5)] 31 (0, 0))) ∧ Aside0 (wc.heap[gb640]? = some (.cells #[.int .u32 0, .int .i64 0, (.slice none 0 0), .int .i64 0, .int .i64 0, (.slice none 0 0)] 31 (0, 0))) ∧ Aside0 (wc.heap[gb641]? = some (.cells #[.int .u32 x642000_2, .int .i64 x642001_2, (.slice none 0 0), .int .i64 (Go.bits .and .i64 a0_3 1023), .int .i64 (Go.bits .and .i64 a0_4 1023), (.slice none 0 0)] 31 (0, 0))) ∧ Aside0 (Below w.heap.size w wc))
 case first =>
  have H := HC3.out
  clear HC3
  by_cases c14 : t642 = 0
  ·
   rw [if_pos c14] at H
   have c14b0 : (t642 == 0) = true := beq_iff_eq.mpr c14
   have c14b1 : (t642 != 0) = false := bne_eq_false_iff_eq.mpr c14
   clear c14
   (first | rw [c14b0] | (simp only [i64_w, i32_w]; rw [c14b0]) | skip)
   have H' := Aside0.mk H
   clear H
   go_wp2
   go_meet
   case rel => exact ⟨_, (a0_0), (a0_1), H', ⟨by first | omega | exact Nat.le_refl _⟩, ⟨zK BK639⟩, ⟨zK BK640⟩, ⟨zK BK641⟩, ⟨zB⟩⟩
  rw [if_neg c14] at H
  have c14b0 : (t642 == 0) = false := beq_eq_false_iff_ne.mpr c14
  have c14b1 : (t642 != 0) = true := bne_iff_ne.mpr c14
  (first | rw [c14b0] | (simp only [i64_w, i32_w]; rw [c14b0]) | skip)
  have H' := Aside0.mk H
  clear H
  have hgl0_0 := zL HB GL0_0.out
  have hgl0_1 := zL HB GL0_1.out
  have hnb15 := NB641_639.out
  have hnc15 := NB639_641.out
  have hnb16 := NB641_640.out
  have hnc16 := NB640_641.out
  have hcz17_0 : w13.cell? ⟨gb641, 0, none⟩ = some (.int .u32 a0_0) := zT BK641 0
  have hcz17_1 : w13.cell? ⟨gb641, 1, none⟩ = some (.int .i64 a0_1) := zT BK641 1
  have hcz17_2 : w13.cell? ⟨gb641, 2, none⟩ = some (.slice none 0 0) := zT BK641 2
  have hcz17_3 : w13.cell? ⟨gb641, 3, none⟩ = some (.int .i64 (Go.bits .and .i64 a0_3 1023)) := zT BK641 3
  have hcz17_4 : w13.cell? ⟨gb641, 4, none⟩ = some (.int .i64 (Go.bits .and .i64 a0_4 1023)) := zT BK641 4
  have hcz17_5 : w13.cell? ⟨gb641, 5, none⟩ = some (.slice none 0 0) := zT BK641 5
  have hfz17_0 := blk_frozen BK641.out 0
  have hfz17_1 := blk_frozen BK641.out 1
  have hfz17_2 := blk_frozen BK641.out 2
  have hfz17_3 := blk_frozen BK641.out 3
  have hfz17_4 := blk_frozen BK641.out 4
  have hfz17_5 := blk_frozen BK641.out 5
  go_wp2
  go_meet
  case rel => exact ⟨_, (167772160), (8), H', ⟨by first | omega | exact Nat.le_refl _⟩, ⟨by (with_reducible repeat (first | refine blk_drewN ?_ _ | refine blk_drew ?_ | refine blk_alloc ?_ _)); refine blk_far ?_ NB639_641.out _; (with_reducible repeat (first | refine blk_drewN ?_ _ | refine blk_drew ?_ | refine blk_alloc ?_ _)); refine blk_far ?_ NB639_641.out _; (with_reducible repeat (first | refine blk_drewN ?_ _ | refine blk_drew ?_ | refine blk_alloc ?_ _)); exact BK639.out⟩, ⟨by (with_reducible repeat (first | refine blk_drewN ?_ _ | refine blk_drew ?_ | refine blk_alloc ?_ _)); refine blk_far ?_ NB640_641.out _; (with_reducible repeat (first | refine blk_drewN ?_ _ | refine blk_drew ?_ | refine blk_alloc ?_ _)); refine blk_far ?_ NB640_641.out _; (with_reducible repeat (first | refine blk_drewN ?_ _ | refine blk_drew ?_ | refine blk_alloc ?_ _)); exact BK640.out⟩, ⟨by (with_reducible repeat (first | refine blk_drewN ?_ _ | refine blk_drew ?_ | refine blk_alloc ?_ _)); refine blk_put (cs := #[.int .u32 167772160, .int .i64 a0_1, .slice none 0 0, .int .i64 (Go.bits .and .i64 a0_3 1023), .int .i64 (Go.bits .and .i64 a0_4 1023), .slice none 0 0]) ?_ 1 _ rfl; (with_reducible repeat (first | refine blk_drewN ?_ _ | refine blk_drew ?_ | refine blk_alloc ?_ _)); refine blk_put (cs := #[.int .u32 a0_0, .int .i64 a0_1, .slice none 0 0, .int .i64 (Go.bits .and .i64 a0_3 1023), .int .i64 (Go.bits .and .i64 a0_4 1023), .slice none 0 0]) ?_ 0 _ rfl; (with_reducible repeat (first | refine blk_drewN ?_ _ | refine blk_drew ?_ | refine blk_alloc ?_ _)); exact BK641.out⟩, ⟨zB⟩⟩
 clear HC3
 try clear c1
 try clear c2
 try clear p2
 try clear c6
 try clear c9
 try clear c10
 try clear c14
 try clear c14b0
 try clear c14b1
 try clear c15
 try clear c16
 try clear hcz11_0
 try clear hcz11_1
 try clear hcz11_2
 try clear hcz11_3
 try clear hcz11_4
 try clear hcz11_5
 try clear hcz12_0
 try clear hcz12_1
 try clear hcz12_2
 try clear hcz12_3
 try clear hcz12_4
 try clear hcz12_5
 try clear hcz17_0
 try clear hcz17_1
 try clear hcz17_2
 try clear hcz17_3
 try clear hcz17_4
 try clear hcz17_5
 try clear hcz7_0
 try clear hcz7_1
 try clear hcz7_2
 try clear hcz7_3
 try clear hcz7_4
 try clear hcz7_5
 try clear hfz11_0
 try clear hfz11_1
 try clear hfz11_2
 try clear hfz11_3
 try clear hfz11_4
 try clear hfz11_5
 try clear hfz12_0
 try clear hfz12_1
 try clear hfz12_2
 try clear hfz12_3
 try clear hfz12_4
 try clear hfz12_5
 try clear hfz17_0
 try clear hfz17_1
 try clear hfz17_2
 try clear hfz17_3
 try clear hfz17_4
 try clear hfz17_5
 try clear hfz7_0
 try clear hfz7_1
 try clear hfz7_2
 try clear hfz7_3
 try clear hfz7_4
 try clear hfz7_5
 obtain ⟨kq, x642000_2, x642001_2, HA, HJ2, BK639, BK640, BK641, HB⟩ := hcut
 rcases kq with _ | kj2
 · exact absurd HA.out (by simp [g8_.j0])
 have H := HA.out
 clear HA
 simp only [g8_.j0] at H
 replace H := Option.bind_eq_some_iff.mp H
 obtain ⟨t643, A180, H⟩ := H
 replace H : (g8_.l0 kj2 t643 (t643.length : Int) 0 a0_0 a0_1 l0_2 a0_3 a0_4 l0_5 x642000_2 x642001_2 ([] : List Int) (Go.bits .and .i64 a0_3 1023) (Go.bits .and .i64 a0_4 1023)) = some (r1, r2, r3, r4, r5, r6) := H
 have A18 := Aside0.mk A180
 clear A180
 have H' := Aside0.mk H
 clear H
 have hnb19 := NB639_640.out
 have hnc19 := NB640_639.out
 have hnb20 := NB639_641.out
 have hnc20 := NB641_639.out
 have hcz21_0 : wc.cell? ⟨gb639, 0, none⟩ = some (.int .u32 a0_0) := zT BK639 0
 have hcz21_1 : wc.cell? ⟨gb639, 1, none⟩ = some (.int .i64 a0_1) := zT BK639 1
 have hcz21_2 : wc.cell? ⟨gb639, 2, none⟩ = some (.slice A0_2 l0_2.length c0_2) := zT BK639 2
 have hcz21_3 : wc.cell? ⟨gb639, 3, none⟩ = some (.int .i64 a0_3) := zT BK639 3
 have hcz21_4 : wc.cell? ⟨gb639, 4, none⟩ = some (.int .i64 a0_4) := zT BK639 4
 have hcz21_5 : wc.cell? ⟨gb639, 5, none⟩ = some (.slice A0_5 l0_5.length c0_5) := zT BK639 5
 have hfz21_0 := blk_frozen BK639.out 0
 have hfz21_1 := blk_frozen BK639.out 1
 have hfz21_2 := blk_frozen BK639.out 2
 have hfz21_3 := blk_frozen BK639.out 3
 have hfz21_4 := blk_frozen BK639.out 4
 have hfz21_5 := blk_frozen BK639.out 5
 go_wp2_with (first | ((with_reducible refine gate_callee (f := 26) rfl ?_); refine goesL_ (some 25) rfl rfl Tryd.func26 (by kernel_rfl) rfl #[.slice A0_2 l0_2.length c0_2, .int .i64 6] rfl zM ?_; (with_reducible refine (g28_.calls (fun k_ => k_ < w.heap.size) _ _ l0_2 6 t643 _ ?side1 A18.out).mono ?_); (case side1 => exact Kd.V_mk HC0_2.out (Kd.F_below (Kd.C_F (Kd.heap_int .i64) HR0_2.out) zB)); rintro e w22 ⟨v644, rfl, ho0, hb⟩; refine ⟨_, rfl, ?_⟩; have n0_ := Aside0.mk (Kd.V_lower (Kd.V_mono (ok' := fun k_ => k_ ≠ gb639 ∧ k_ ≠ gb640 ∧ k_ ≠ gb641) ho0 (fun k_ hk_ => ⟨Or.elim hk_ (fun hs_ => fun e_ => Nat.not_le.2 hs_ (by rw [e_]; exact GW639.out)) (fun hn_ => (Kd.freshB (g := gb639) (o := .cells #[.int .u32 a0_0, .int .i64 a0_1, .slice A0_2 l0_2.length c0_2, .int .i64 a0_3, .int .i64 a0_4, .slice A0_5 l0_5.length c0_5] 31 (0, 0)) (zK BK639) k_ hn_)), Or.elim hk_ (fun hs_ => fun e_ => Nat.not_le.2 hs_ (by rw [e_]; exact GW640.out)) (fun hn_ => (Kd.freshB (g := gb640) (o := .cells #[.int .u32 0, .int .i64 0, .slice none 0 0, .int .i64 0, .int .i64 0, .slice none 0 0] 31 (0, 0)) (zK BK640) k_ hn_)), Or.elim hk_ (fun hs_ => fun e_ => Nat.not_le.2 hs_ (by rw [e_]; exact GW641.out)) (fun hn_ => (Kd.freshB (g := gb641) (o := .cells #[.int .u32 x642000_2, .int .i64 x642001_2, .slice none 0 0, .int .i64 (Go.bits .and .i64 a0_3 1023), .int .i64 (Go.bits .and .i64 a0_4 1023), .slice none 0 0] 31 (0, 0)) (zK BK641) k_ hn_))⟩)) (below_size zB)); have n1_ := Aside0.mk (blk_below (g := gb639) (o := .cells #[.int .u32 a0_0, .int .i64 a0_1, .slice A0_2 l0_2.length c0_2, .int .i64 a0_3, .int .i64 a0_4, .slice A0_5 l0_5.length c0_5] 31 (0, 0)) (zK BK639) hb); have n2_ := Aside0.mk (blk_below (g := gb640) (o := .cells #[.int .u32 0, .int .i64 0, .slice none 0 0, .int .i64 0, .int .i64 0, .slice none 0 0] 31 (0, 0)) (zK BK640) hb); have n3_ := Aside0.mk (blk_below (g := gb641) (o := .cells #[.int .u32 x642000_2, .int .i64 x642001_2, .slice none 0 0, .int .i64 (Go.bits .and .i64 a0_3 1023), .int .i64 (Go.bits .and .i64 a0_4 1023), .slice none 0 0] 31 (0, 0)) (zK BK641) hb); have n4_ := Aside0.mk (below_step zB hb); clear BK639; clear BK640; clear BK641; clear HB; have HO645 := n0_; have BK639 := n1_; have BK640 := n2_; have BK641 := n3_; have HB := n4_; clear n0_ n1_ n2_ n3_ n4_; (try clear hb); (try clear hb2); (try clear hk); (try clear hi); (try clear ho0); obtain ⟨Ao23, co23, eo23⟩ := Kd.V_slice HO645.out; subst eo23))
 go_loopg [27] kj2 (fun kq v27 w' => ∃ (x27_2 : Int) (x642002_2 : List Int) (u642002 : Value), v27 = .int .i64 x27_2 ∧ Aside0 (g8_.l0 kq t643 (t643.length : Int) x27_2 a0_0 a0_1 l0_2 a0_3 a0_4 l0_5 x642000_2 x642001_2 x642002_2 (Go.bits .and .i64 a0_3 1023) (Go.bits .and .i64 a0_4 1023) = some (r1, r2, r3, r4, r5, r6)) ∧ Aside0 (kq ≤ kj2) ∧ Aside0 (Kd.V (Kd.int .i64) 3 w' w.heap.size (fun k_ => some k_ ≠ (u642002 : Value).ownBlock ∧ k_ ≠ gb639 ∧ k_ ≠ gb640 ∧ k_ ≠ gb641) (.slice Ao23 t643.length co23) t643) ∧ Aside0 (Kd.R (Kd.int .i64) 3 w' w.heap.size (fun _ => True) u642002 x642002_2) ∧ Aside0 (w'.heap[gb639]? = some (.cells #[.int .u32 a0_0, .int .i64 a0_1, (.slice A0_2 l0_2.length c0_2), .int .i64 a0_3, .int .i64 a0_4, (.slice A0_5 l0_5.length c0_5)] 31 (0, 0))) ∧ Aside0 (w'.heap[gb640]? = some (.cells #[.int .u32 0, .int .i64 0, (.slice none 0 0), .int .i64 0, .int .i64 0, (.slice none 0 0)] 31 (0, 0))) ∧ Aside0 (w'.heap[gb641]? = some (.cells #[.int .u32 x642000_2, .int .i64 x642001_2, u642002, .int .i64 (Go.bits .and .i64 a0_3 1023), .int .i64 (Go.bits .and .i64 a0_4 1023), (.slice none 0 0)] 31 (0, 0))) ∧ Aside0 (Below w.heap.size w w'))
 case atStart => exact ⟨(0), (([] : List Int)), (.slice none 0 0), zR, H', ⟨Nat.le_refl _⟩, ⟨by (with_reducible repeat (first | apply Kd.V_alloc | apply Kd.V_drewN | apply Kd.V_drew)); exact Kd.V_mono HO645.out (fun _ hk => ⟨(by simp [Value.ownBlock]), ⟨hk.1, ⟨hk.2.1, hk.2.2⟩⟩⟩)⟩, ⟨by first | exact Kd.R_nil _ _ _ _ _ | exact Kd.N_nil _ _ _ _ _ | exact Kd.V_nil _ _ _ _ _ | exact Kd.Q_nil _ _ _ _ _ | exact Kd.S_nil _ _ _ _ _⟩, ⟨zK BK639⟩, ⟨zK BK640⟩, ⟨zK BK641⟩, ⟨zB⟩⟩
 clear H'
 try clear c1
 try clear c2
 try clear p2
 try clear c6
 try clear c9
 try clear c10
 try clear c14
 try clear c14b0
 try clear c14b1
 try clear c15
 try clear c16
 try clear c19
 try clear c20
 try clear hcz11_0
 try clear hcz11_1
 try clear hcz11_2
 try clear hcz11_3
 try clear hcz11_4
 try clear hcz11_5
 try clear hcz12_0
 try clear hcz12_1
 try clear hcz12_2
 try clear hcz12_3
 try clear hcz12_4
 try clear hcz12_5
 try clear hcz17_0
 try clear hcz17_1
 try clear hcz17_2
 try clear hcz17_3
 try clear hcz17_4
 try clear hcz17_5
 try clear hcz21_0
 try clear hcz21_1
 try clear hcz21_2
 try clear hcz21_3
 try clear hcz21_4
 try clear hcz21_5
 try clear hcz7_0
 try clear hcz7_1
 try clear hcz7_2
 try clear hcz7_3
 try clear hcz7_4
 try clear hcz7_5
 try clear hfz11_0
 try clear hfz11_1
 try clear hfz11_2
 try clear hfz11_3
 try clear hfz11_4
 try clear hfz11_5
 try clear hfz12_0
 try clear hfz12_1
 try clear hfz12_2
 try clear hfz12_3
 try clear hfz12_4
 try clear hfz12_5
 try clear hfz17_0
 try clear hfz17_1
 try clear hfz17_2
 try clear hfz17_3
 try clear hfz17_4
 try clear hfz17_5
 try clear hfz21_0
 try clear hfz21_1
 try clear hfz21_2
 try clear hfz21_3
 try clear hfz21_4
 try clear hfz21_5
 try clear hfz7_0
 try clear hfz7_1
 try clear hfz7_2
 try clear hfz7_3
 try clear hfz7_4
 try clear hfz7_5
 try clear p2
 obtain ⟨x27_2, x642002_2, u642002, rfl, HA, HK2, HO_25, HO_642002, BK639, BK640, BK641, HB⟩ := hrel
 rcases gk with _ | k2
 · exact absurd HA.out (by simp [g8_.l0])
 have H := HA.out
 clear HA
 simp only [g8_.l0] at H
 by_cases c24 : x27_2 < (t643.length : Int)
 ·
  rw [if_pos c24] at H
  have c24b0 : decide (x27_2 < (t643.length : Int)) = true := decide_eq_true c24
  clear c24
  by_cases c25 : 0 ≤ x27_2
  rotate_left
  · rw [if_neg c25] at H; exact absurd H (by simp)
  rw [if_pos c25] at H
  have c25b0 : decide (0 ≤ x27_2) = true := decide_eq_true c25
  clear c25
  by_cases c26 : x27_2 < (t643.length : Int)
  rotate_left
  · rw [if_neg c26] at H; exact absurd H (by simp)
  rw [if_pos c26] at H
  have c26b0 : decide (x27_2 < (t643.length : Int)) = true := decide_eq_true c26
  clear c26
  by_cases c27 : x642002_2.length < 17592186044416
  rotate_left
  · rw [if_neg c27] at H; exact absurd H (by simp)
  rw [if_pos c27] at H
  have LMc27 := Aside0.mk c27
  clear c27
  obtain ⟨y647, hy647⟩ : ∃ y_ : List Int, y_ = (x642002_2 ++ [wrap64 (1 + (Go.bits .and .i64 (rd t643 x27_2) 15))]) := ⟨_, rfl⟩
  replace H : (g8_.l0 k2 t643 (t643.length : Int) (wrap64 (x27_2 + 1)) a0_0 a0_1 l0_2 a0_3 a0_4 l0_5 x642000_2 x642001_2 y647 (Go.bits .and .i64 a0_3 1023) (Go.bits .and .i64 a0_4 1023)) = some (r1, r2, r3, r4, r5, r6) := by first | (rw [hy647]; with_reducible exact H) | (have H2_ := (Option.bind_some _ _).symm.trans H; rw [hy647]; with_reducible exact H2_) | (have H2_ := (Option.bind_some _ _).symm.trans H; with_reducible exact H2_) | with_reducible exact H | (rw [hy647]; exact H) | exact H
  have Ny647 := Aside0.mk hy647
  clear hy647
  have H' := Aside0.mk H
  clear H
  have p646 : 0 ≤ (x27_2 : Int) := od
  have q646 : x27_2 < (t643.length : Int) := od
  obtain ⟨ad646, e646, hx646_0⟩ := Kd.at_int (Kd.V_reads' HO_25.out).2.2 x27_2 p646 q646
  cases e646
  replace p646 := eq_true p646
  replace q646 := eq_true q646
  have hnb28 := NB641_639.out
  have hnc28 := NB639_641.out
  have hnb29 := NB641_640.out
  have hnc29 := NB640_641.out
  have hcz30_0 : wr.cell? ⟨gb641, 0, none⟩ = some (.int .u32 x642000_2) := zT BK641 0
  have hcz30_1 : wr.cell? ⟨gb641, 1, none⟩ = some (.int .i64 x642001_2) := zT BK641 1
  have hcz30_2 : wr.cell? ⟨gb641, 2, none⟩ = some (u642002) := zT BK641 2
  have hcz30_3 : wr.cell? ⟨gb641, 3, none⟩ = some (.int .i64 (Go.bits .and .i64 a0_3 1023)) := zT BK641 3
  have hcz30_4 : wr.cell? ⟨gb641, 4, none⟩ = some (.int .i64 (Go.bits .and .i64 a0_4 1023)) := zT BK641 4
  have hcz30_5 : wr.cell? ⟨gb641, 5, none⟩ = some (.slice none 0 0) := zT BK641 5
  have hfz30_0 := blk_frozen BK641.out 0
  have hfz30_1 := blk_frozen BK641.out 1
  have hfz30_2 := blk_frozen BK641.out 2
  have hfz30_3 := blk_frozen BK641.out 3
  have hfz30_4 := blk_frozen BK641.out 4
  have hfz30_5 := blk_frozen BK641.out 5
  go_wp2_with (first | ((with_reducible refine gate_builtin (b := .append) (xs := #[.tmp 32, .tmp 36]) rfl ?_); at_builtin; refine Kd.R_append (Kd.int .i64) (w0 := w) w.heap.size rfl (.tmp 32) (.tmp 36) 23 3 (.int .i64 0) 8 rfl Tryd.underlying23 info3 rfl (by decide) (by omega) u642002 x642002_2 (wrap64 (1 + (Go.bits .and .i64 (rd t643 x27_2) 15))) [.int .i64 (wrap64 (1 + (Go.bits .and .i64 (rd t643 x27_2) 15)))] (fun _ => True) (fun _ => False) rfl rfl ?aP (fun _ hk => hk.elim) ?aF ?aO ?aB ?aS ?aL ?_; (case aP => exact rfl); (case aB => exact zB); (case aF => exact (fun _ _ => trivial)); (case aO => exact (zO HO_642002)); (case aS => exact (below_size zB)); (case aL => have := LMc27.out; omega); intro v648 w31 ho hb hg hat; rw [← Ny647.out] at ho; have n0_ := Aside0.mk (Kd.V_afterv (ok := (fun k_ => k_ ≠ gb639 ∧ k_ ≠ gb640 ∧ k_ ≠ gb641)) (by (with_reducible repeat (first | apply Kd.V_alloc | apply Kd.V_drewN | apply Kd.V_drew)); exact Kd.V_mono HO_25.out (fun _ hk => ⟨⟨hk.2.1, ⟨hk.2.2.1, hk.2.2.2⟩⟩, hk.1⟩)) hg hat); have n1_ := Aside0.mk (blk_grown (g := gb639) (o := .cells #[.int .u32 a0_0, .int .i64 a0_1, .slice A0_2 l0_2.length c0_2, .int .i64 a0_3, .int .i64 a0_4, .slice A0_5 l0_5.length c0_5] 31 (0, 0)) (zK BK639) hg (Kd.R_ne HO_642002.out BK639.out (by decide))); have n2_ := Aside0.mk (blk_grown (g := gb640) (o := .cells #[.int .u32 0, .int .i64 0, .slice none 0 0, .int .i64 0, .int .i64 0, .slice none 0 0] 31 (0, 0)) (zK BK640) hg (Kd.R_ne HO_642002.out BK640.out (by decide))); have n3_ := Aside0.mk (blk_grown (g := gb641) (o := .cells #[.int .u32 x642000_2, .int .i64 x642001_2, u642002, .int .i64 (Go.bits .and .i64 a0_3 1023), .int .i64 (Go.bits .and .i64 a0_4 1023), .slice none 0 0] 31 (0, 0)) (zK BK641) hg (Kd.R_ne HO_642002.out BK641.out (by decide))); have n4_ := Aside0.mk (hb); have n5_ := Aside0.mk (ho); clear HO_25; clear BK639; clear BK640; clear BK641; clear HB; clear HO_642002; have HO_25 := n0_; have BK639 := n1_; have BK640 := n2_; have BK641 := n3_; have HB := n4_; have HO649 := n5_; clear n0_ n1_ n2_ n3_ n4_ n5_; clear ho hb hg hat; obtain ⟨Ao32, co32, eo32⟩ := Kd.R_slice HO649.out; subst eo32; have hcz33_0 : w31.cell? ⟨gb641, 0, none⟩ = some (.int .u32 x642000_2) := zT BK641 0; have hcz33_1 : w31.cell? ⟨gb641, 1, none⟩ = some (.int .i64 x642001_2) := zT BK641 1; have hcz33_2 : w31.cell? ⟨gb641, 2, none⟩ = some (u642002) := zT BK641 2; have hcz33_3 : w31.cell? ⟨gb641, 3, none⟩ = some (.int .i64 (Go.bits .and .i64 a0_3 1023)) := zT BK641 3; have hcz33_4 : w31.cell? ⟨gb641, 4, none⟩ = some (.int .i64 (Go.bits .and .i64 a0_4 1023)) := zT BK641 4; have hcz33_5 : w31.cell? ⟨gb641, 5, none⟩ = some (.slice none 0 0) := zT BK641 5; have hfz33_0 := blk_frozen BK641.out 0; have hfz33_1 := blk_frozen BK641.out 1; have hfz33_2 := blk_frozen BK641.out 2; have hfz33_3 := blk_frozen BK641.out 3; have hfz33_4 := blk_frozen BK641.out 4; have hfz33_5 := blk_frozen BK641.out 5))
  go_roundg k2
  case measure => have := HJ2.out; have := HK2.out; omega
  case rel => exact ⟨(wrap64 (x27_2 + 1)), (y647), (.slice Ao32 y647.length co32), zR, H', ⟨by have := HJ2.out; have := HK2.out; omega⟩, ⟨by (with_reducible repeat (first | apply Kd.V_alloc | apply Kd.V_drewN | apply Kd.V_drew)); exact Kd.V_mono (Kd.V_far (p := ⟨gb641, 2, none⟩) (Kd.V_mono HO_25.out (fun k_ hk => (⟨hk, hk.1.2.2⟩ : _ ∧ k_ ≠ gb641))) (fun _ hk => hk.2) (.slice Ao32 y647.length co32)) (fun _ hk => ⟨hk.1.2, ⟨hk.1.1.1, ⟨hk.1.1.2.1, hk.1.1.2.2⟩⟩⟩)⟩, ⟨by (with_reducible repeat (first | apply Kd.R_alloc | apply Kd.R_drewN | apply Kd.R_drew)); exact Kd.R_mono (Kd.R_far (p := ⟨gb641, 2, none⟩) (Kd.R_types HO649.out BK641.out (by decide)) (fun _ hk => hk.2) (.slice Ao32 y647.length co32)) (fun _ hk => trivial)⟩, ⟨by (with_reducible repeat (first | refine blk_drewN ?_ _ | refine blk_drew ?_ | refine blk_alloc ?_ _)); refine blk_far ?_ NB639_641.out _; (with_reducible repeat (first | refine blk_drewN ?_ _ | refine blk_drew ?_ | refine blk_alloc ?_ _)); exact BK639.out⟩, ⟨by (with_reducible repeat (first | refine blk_drewN ?_ _ | refine blk_drew ?_ | refine blk_alloc ?_ _)); refine blk_far ?_ NB640_641.out _; (with_reducible repeat (first | refine blk_drewN ?_ _ | refine blk_drew ?_ | refine blk_alloc ?_ _)); exact BK640.out⟩, ⟨by (with_reducible repeat (first | refine blk_drewN ?_ _ | refine blk_drew ?_ | refine blk_alloc ?_ _)); refine blk_put (cs := #[.int .u32 x642000_2, .int .i64 x642001_2, u642002, .int .i64 (Go.bits .and .i64 a0_3 1023), .int .i64 (Go.bits .and .i64 a0_4 1023), .slice none 0 0]) ?_ 2 _ rfl; (with_reducible repeat (first | refine blk_drewN ?_ _ | refine blk_drew ?_ | refine blk_alloc ?_ _)); exact BK641.out⟩, ⟨zB⟩⟩
 rw [if_neg c24] at H
 have c24b0 : decide (x27_2 < (t643.length : Int)) = false := decide_eq_false c24
 clear c24
 replace H := Option.bind_eq_some_iff.mp H
 obtain ⟨t650, A340, H⟩ := H
 replace H : (g8_.l1 k2 t650 (t650.length : Int) 0 x642000_2 x642001_2 x642002_2 (Go.bits .and .i64 a0_3 1023) (Go.bits .and .i64 a0_4 1023) ([] : List Int)) = some (r1, r2, r3, r4, r5, r6) := H
 have A34 := Aside0.mk A340
 clear A340
 have H' := Aside0.mk H
 clear H
 have hnb35 := NB639_640.out
 have hnc35 := NB640_639.out
 have hnb36 := NB639_641.out
 have hnc36 := NB641_639.out
 have hcz37_0 : wr.cell? ⟨gb639, 0, none⟩ = some (.int .u32 a0_0) := zT BK639 0
 have hcz37_1 : wr.cell? ⟨gb639, 1, none⟩ = some (.int .i64 a0_1) := zT BK639 1
 have hcz37_2 : wr.cell? ⟨gb639, 2, none⟩ = some (.slice A0_2 l0_2.length c0_2) := zT BK639 2
 have hcz37_3 : wr.cell? ⟨gb639, 3, none⟩ = some (.int .i64 a0_3) := zT BK639 3
 have hcz37_4 : wr.cell? ⟨gb639, 4, none⟩ = some (.int .i64 a0_4) := zT BK639 4
 have hcz37_5 : wr.cell? ⟨gb639, 5, none⟩ = some (.slice A0_5 l0_5.length c0_5) := zT BK639 5
 have hfz37_0 := blk_frozen BK639.out 0
 have hfz37_1 := blk_frozen BK639.out 1
 have hfz37_2 := blk_frozen BK639.out 2
 have hfz37_3 := blk_frozen BK639.out 3
 have hfz37_4 := blk_frozen BK639.out 4
 have hfz37_5 := blk_frozen BK639.out 5
 go_wp2_with (first | ((with_reducible refine gate_callee (f := 26) rfl ?_); refine goesL_ (some 42) rfl rfl Tryd.func26 (by kernel_rfl) rfl #[.slice A0_5 l0_5.length c0_5, .int .i64 4] rfl zM ?_; (with_reducible refine (g28_.calls (fun k_ => k_ < w.heap.size) _ _ l0_5 4 t650 _ ?side1 A34.out).mono ?_); (case side1 => exact Kd.V_mk HC0_5.out (Kd.F_below (Kd.C_F (Kd.heap_int .i64) HR0_5.out) zB)); rintro e w38 ⟨v651, rfl, ho0, hb⟩; refine ⟨_, rfl, ?_⟩; have n0_ := Aside0.mk (Kd.V_below (by (with_reducible repeat (first | apply Kd.V_alloc | apply Kd.V_drewN | apply Kd.V_drew)); exact HO_25.out) hb); have n1_ := Aside0.mk (Kd.R_below (zO HO_642002) hb); have n2_ := Aside0.mk (Kd.V_lower (Kd.V_mono (ok' := fun k_ => some k_ ≠ (u642002 : Value).ownBlock ∧ k_ ≠ gb639 ∧ k_ ≠ gb640 ∧ k_ ≠ gb641) ho0 (fun k_ hk_ => ⟨Or.elim hk_ (fun hs_ => fun e_ => Nat.not_le.2 hs_ (Kd.R_base HO_642002.out k_ e_.symm)) (fun hn_ => (Kd.fresh' (Kd.R_lt (zO HO_642002)) k_ hn_)), Or.elim hk_ (fun hs_ => fun e_ => Nat.not_le.2 hs_ (by rw [e_]; exact GW639.out)) (fun hn_ => (Kd.freshB (g := gb639) (o := .cells #[.int .u32 a0_0, .int .i64 a0_1, .slice A0_2 l0_2.length c0_2, .int .i64 a0_3, .int .i64 a0_4, .slice A0_5 l0_5.length c0_5] 31 (0, 0)) (zK BK639) k_ hn_)), Or.elim hk_ (fun hs_ => fun e_ => Nat.not_le.2 hs_ (by rw [e_]; exact GW640.out)) (fun hn_ => (Kd.freshB (g := gb640) (o := .cells #[.int .u32 0, .int .i64 0, .slice none 0 0, .int .i64 0, .int .i64 0, .slice none 0 0] 31 (0, 0)) (zK BK640) k_ hn_)), Or.elim hk_ (fun hs_ => fun e_ => Nat.not_le.2 hs_ (by rw [e_]; exact GW641.out)) (fun hn_ => (Kd.freshB (g := gb641) (o := .cells #[.int .u32 x642000_2, .int .i64 x642001_2, u642002, .int .i64 (Go.bits .and .i64 a0_3 1023), .int .i64 (Go.bits .and .i64 a0_4 1023), .slice none 0 0] 31 (0, 0)) (zK BK641) k_ hn_))⟩)) (below_size zB)); have n3_ := Aside0.mk (blk_below (g := gb639) (o := .cells #[.int .u32 a0_0, .int .i64 a0_1, .slice A0_2 l0_2.length c0_2, .int .i64 a0_3, .int .i64 a0_4, .slice A0_5 l0_5.length c0_5] 31 (0, 0)) (zK BK639) hb); have n4_ := Aside0.mk (blk_below (g := gb640) (o := .cells #[.int .u32 0, .int .i64 0, .slice none 0 0, .int .i64 0, .int .i64 0, .slice none 0 0] 31 (0, 0)) (zK BK640) hb); have n5_ := Aside0.mk (blk_below (g := gb641) (o := .cells #[.int .u32 x642000_2, .int .i64 x642001_2, u642002, .int .i64 (Go.bits .and .i64 a0_3 1023), .int .i64 (Go.bits .and .i64 a0_4 1023), .slice none 0 0] 31 (0, 0)) (zK BK641) hb); have n6_ := Aside0.mk (below_step zB hb); clear HO_25; clear HO_642002; clear BK639; clear BK640; clear BK641; clear HB; have HO_25 := n0_; have HO_642002 := n1_; have HO652 := n2_; have BK639 := n3_; have BK640 := n4_; have BK641 := n5_; have HB := n6_; clear n0_ n1_ n2_ n3_ n4_ n5_ n6_; (try clear hb); (try clear hb2); (try clear hk); (try clear hi); (try clear ho0); obtain ⟨Ao39, co39, eo39⟩ := Kd.V_slice HO652.out; subst eo39))
 go_loopg [44] k2 (fun kq v44 w' => ∃ (x44_3 : Int) (x642005_3 : List Int) (u642005 : Value), v44 = .int .i64 x44_3 ∧ Aside0 (g8_.l1 kq t650 (t650.length : Int) x44_3 x642000_2 x642001_2 x642002_2 (Go.bits .and .i64 a0_3 1023) (Go.bits .and .i64 a0_4 1023) x642005_3 = some (r1, r2, r3, r4, r5, r6)) ∧ Aside0 (kq ≤ k2) ∧ Aside0 (Kd.V (Kd.int .i64) 3 w' w.heap.size (fun k_ => some k_ ≠ (u642002 : Value).ownBlock ∧ some k_ ≠ (u642005 : Value).ownBlock ∧ k_ ≠ gb639 ∧ k_ ≠ gb640 ∧ k_ ≠ gb641) (.slice Ao39 t650.length co39) t650) ∧ Aside0 (Kd.R (Kd.int .i64) 3 w' w.heap.size (fun k_ => some k_ ≠ (u642005 : Value).ownBlock) u642002 x642002_2) ∧ Aside0 (Kd.R (Kd.int .i64) 3 w' w.heap.size (fun k_ => some k_ ≠ (u642002 : Value).ownBlock) u642005 x642005_3) ∧ Aside0 (w'.heap[gb639]? = some (.cells #[.int .u32 a0_0, .int .i64 a0_1, (.slice A0_2 l0_2.length c0_2), .int .i64 a0_3, .int .i64 a0_4, (.slice A0_5 l0_5.length c0_5)] 31 (0, 0))) ∧ Aside0 (w'.heap[gb640]? = some (.cells #[.int .u32 0, .int .i64 0, (.slice none 0 0), .int .i64 0, .int .i64 0, (.slice none 0 0)] 31 (0, 0))) ∧ Aside0 (w'.heap[gb641]? = some (.cells #[.int .u32 x642000_2, .int .i64 x642001_2, u642002, .int .i64 (Go.bits .and .i64 a0_3 1023), .int .i64 (Go.bits .and .i64 a0_4 1023), u642005] 31 (0, 0))) ∧ Aside0 (Below w.heap.size w w'))
 case atStart => exact ⟨(0), (([] : List Int)), (.slice none 0 0), zR, H', ⟨Nat.le_refl _⟩, ⟨by (with_reducible repeat (first | apply Kd.V_alloc | apply Kd.V_drewN | apply Kd.V_drew)); exact Kd.V_mono HO652.out (fun _ hk => ⟨hk.1, ⟨(by simp [Value.ownBlock]), ⟨hk.2.1, ⟨hk.2.2.1, hk.2.2.2⟩⟩⟩⟩)⟩, ⟨by (with_reducible repeat (first | apply Kd.R_alloc | apply Kd.R_drewN | apply Kd.R_drew)); exact Kd.R_mono HO_642002.out (fun _ hk => (by simp [Value.ownBlock]))⟩, ⟨by first | exact Kd.R_nil _ _ _ _ _ | exact Kd.N_nil _ _ _ _ _ | exact Kd.V_nil _ _ _ _ _ | exact Kd.Q_nil _ _ _ _ _ | exact Kd.S_nil _ _ _ _ _⟩, ⟨zK BK639⟩, ⟨zK BK640⟩, ⟨zK BK641⟩, ⟨zB⟩⟩
 clear H'
 try clear c1
 try clear c2
 try clear p2
 try clear c3
 try clear c6
 try clear p6
 try clear q6
 try clear hx6
 try clear c9
 try clear c10
 try clear c14
 try clear c14b0
 try clear c14b1
 try clear c15
 try clear c16
 try clear c19
 try clear c20
 try clear c24
 try clear c24b0
 try clear c25
 try clear c25b0
 try clear c26
 try clear c26b0
 try clear c27
 try clear c28
 try clear c29
 try clear c35
 try clear c36
 try clear hcz11_0
 try clear hcz11_1
 try clear hcz11_2
 try clear hcz11_3
 try clear hcz11_4
 try clear hcz11_5
 try clear hcz12_0
 try clear hcz12_1
 try clear hcz12_2
 try clear hcz12_3
 try clear hcz12_4
 try clear hcz12_5
 try clear hcz17_0
 try clear hcz17_1
 try clear hcz17_2
 try clear hcz17_3
 try clear hcz17_4
 try clear hcz17_5
 try clear hcz21_0
 try clear hcz21_1
 try clear hcz21_2
 try clear hcz21_3
 try clear hcz21_4
 try clear hcz21_5
 try clear hcz30_0
 try clear hcz30_1
 try clear hcz30_2
 try clear hcz30_3
 try clear hcz30_4
 try clear hcz30_5
 try clear hcz33_0
 try clear hcz33_1
 try clear hcz33_2
 try clear hcz33_3
 try clear hcz33_4
 try clear hcz33_5
 try clear hcz37_0
 try clear hcz37_1
 try clear hcz37_2
 try clear hcz37_3
 try clear hcz37_4
 try clear hcz37_5
 try clear hcz7_0
 try clear hcz7_1
 try clear hcz7_2
 try clear hcz7_3
 try clear hcz7_4
 try clear hcz7_5
 try clear hfz11_0
 try clear hfz11_1
 try clear hfz11_2
 try clear hfz11_3
 try clear hfz11_4
 try clear hfz11_5
 try clear hfz12_0
 try clear hfz12_1
 try clear hfz12_2
 try clear hfz12_3
 try clear hfz12_4
 try clear hfz12_5
 try clear hfz17_0
 try clear hfz17_1
 try clear hfz17_2
 try clear hfz17_3
 try clear hfz17_4
 try clear hfz17_5
 try clear hfz21_0
 try clear hfz21_1
 try clear hfz21_2
 try clear hfz21_3
 try clear hfz21_4
 try clear hfz21_5
 try clear hfz30_0
 try clear hfz30_1
 try clear hfz30_2
 try clear hfz30_3
 try clear hfz30_4
 try clear hfz30_5
 try clear hfz33_0
 try clear hfz33_1
 try clear hfz33_2
 try clear hfz33_3
 try clear hfz33_4
 try clear hfz33_5
 try clear hfz37_0
 try clear hfz37_1
 try clear hfz37_2
 try clear hfz37_3
 try clear hfz37_4
 try clear hfz37_5
 try clear hfz7_0
 try clear hfz7_1
 try clear hfz7_2
 try clear hfz7_3
 try clear hfz7_4
 try clear hfz7_5
 try clear hx646_0
 try clear p2
 try clear p646
 try clear q646
 obtain ⟨x44_3, x642005_3, u642005, rfl, HA, HK3, HO_42, HO_642002, HO_642005, BK639, BK640, BK641, HB⟩ := hrel
 rcases gk with _ | k3
 · exact absurd HA.out (by simp [g8_.l1])
 have H := HA.out
 clear HA
 simp only [g8_.l1] at H
 by_cases c40 : x44_3 < (t650.length : Int)
 rotate_left
 ·
  rw [if_neg c40] at H
  have c40b0 : decide (x44_3 < (t650.length : Int)) = false := decide_eq_false c40
  clear c40
  replace H := Option.bind_eq_some_iff.mp H
  obtain ⟨t657, A500, H⟩ := H
  replace H : ((g7_.f k3 t657).bind fun t658 => (some (x642000_2, x642001_2, x642002_2, (Go.bits .and .i64 a0_3 1023), (Go.bits .and .i64 a0_4 1023), t658))) = some (r1, r2, r3, r4, r5, r6) := H
  have A50 := Aside0.mk A500
  clear A500
  replace H := Option.bind_eq_some_iff.mp H
  obtain ⟨t658, A510, H⟩ := H
  replace H : (some (x642000_2, x642001_2, x642002_2, (Go.bits .and .i64 a0_3 1023), (Go.bits .and .i64 a0_4 1023), t658)) = some (r1, r2, r3, r4, r5, r6) := H
  have A51 := Aside0.mk A510
  clear A510
  simp only [Option.some.injEq, Prod.mk.injEq] at H
  obtain ⟨rfl, rfl, rfl, rfl, rfl, rfl⟩ := H
  have hnb52 := NB641_639.out
  have hnc52 := NB639_641.out
  have hnb53 := NB641_640.out
  have hnc53 := NB640_641.out
  have hcz54_0 : wr.cell? ⟨gb641, 0, none⟩ = some (.int .u32 x642000_2) := zT BK641 0
  have hcz54_1 : wr.cell? ⟨gb641, 1, none⟩ = some (.int .i64 x642001_2) := zT BK641 1
  have hcz54_2 : wr.cell? ⟨gb641, 2, none⟩ = some (u642002) := zT BK641 2
  have hcz54_3 : wr.cell? ⟨gb641, 3, none⟩ = some (.int .i64 (Go.bits .and .i64 a0_3 1023)) := zT BK641 3
  have hcz54_4 : wr.cell? ⟨gb641, 4, none⟩ = some (.int .i64 (Go.bits .and .i64 a0_4 1023)) := zT BK641 4
  have hcz54_5 : wr.cell? ⟨gb641, 5, none⟩ = some (u642005) := zT BK641 5
  have hfz54_0 := blk_frozen BK641.out 0
  have hfz54_1 := blk_frozen BK641.out 1
  have hfz54_2 := blk_frozen BK641.out 2
  have hfz54_3 := blk_frozen BK641.out 3
  have hfz54_4 := blk_frozen BK641.out 4
  have hfz54_5 := blk_frozen BK641.out 5
  obtain ⟨Ao55, co55, eo55⟩ := Kd.R_slice HO_642005.out
  subst eo55
  go_wp2_with (first | ((with_reducible refine gate_callee (f := 27) rfl ?_); refine goesL_ (some 59) rfl rfl Tryd.func27 (by kernel_rfl) rfl #[.slice Ao55 x642005_3.length co55] rfl zM ?_; (with_reducible refine (g18_.calls k3 (fun k_ => some k_ = (.slice Ao55 x642005_3.length co55 : Value).ownBlock) (.slice Ao55 x642005_3.length co55) x642005_3 t657 w _ ?side1 ?side2 A50.out).mono ?_); (case side1 => repeat (first | (with_reducible first | exact HB.out | apply below_alloc | apply pw_below_drewN | apply below_drew1 | refine below_set ?_ GE639.out | refine below_set ?_ GE640.out | refine below_set ?_ GE641.out) | exact HB.out)); (case side2 => exact Kd.R_tight rfl HO_642005.out); rintro e w56 ⟨rfl, hy0, hb, hkp⟩; refine ⟨_, rfl, ?_⟩; have n0_ := Aside0.mk (Kd.V_mono (ok' := fun k_ => some k_ ≠ (u642002 : Value).ownBlock ∧ some k_ ≠ (.slice Ao55 x642005_3.length co55 : Value).ownBlock ∧ k_ ≠ gb639 ∧ k_ ≠ gb640 ∧ k_ ≠ gb641) (Kd.V_keptB (HO_42.out) hkp (fun k_ hk_ hs_ => (hk_.2.1) hs_)) (fun k_ hk_ => ⟨hk_.1.1, hk_.1.2.1, hk_.1.2.2.1, hk_.1.2.2.2.1, hk_.1.2.2.2.2⟩)); have n1_ := Aside0.mk (Kd.R_mono (ok' := fun k_ => some k_ ≠ (.slice Ao55 x642005_3.length co55 : Value).ownBlock) (Kd.R_keptB (HO_642002.out) hkp (fun k_ hk_ hs_ => (hk_) hs_)) (fun k_ hk_ => hk_.1)); have n2_ := Aside0.mk (Kd.R_reok rfl hy0 (fun k_ e_ => HO_642005.out.1 k_ e_)); have n3_ := Aside0.mk (blk_kept (zK BK639) hkp (fun hs_ => (fun e_ => (Kd.R_ne HO_642005.out BK639.out (by decide)) e_) hs_)); have n4_ := Aside0.mk (blk_kept (zK BK640) hkp (fun hs_ => (fun e_ => (Kd.R_ne HO_642005.out BK640.out (by decide)) e_) hs_)); have n5_ := Aside0.mk (blk_kept (zK BK641) hkp (fun hs_ => (fun e_ => (Kd.R_ne HO_642005.out BK641.out (by decide)) e_) hs_)); have n6_ := Aside0.mk (hb); clear HO_42; clear HO_642002; clear HO_642005; clear BK639; clear BK640; clear BK641; clear HB; have HO_42 := n0_; have HO_642002 := n1_; have HO_642005 := n2_; have BK639 := n3_; have BK640 := n4_; have BK641 := n5_; have HB := n6_; clear n0_ n1_ n2_ n3_ n4_ n5_ n6_; (try clear hb); (try clear hkp); (try clear hy0); have hcz57_0 : w56.cell? ⟨gb641, 0, none⟩ = some (.int .u32 x642000_2) := zT BK641 0; have hcz57_1 : w56.cell? ⟨gb641, 1, none⟩ = some (.int .i64 x642001_2) := zT BK641 1; have hcz57_2 : w56.cell? ⟨gb641, 2, none⟩ = some (u642002) := zT BK641 2; have hcz57_3 : w56.cell? ⟨gb641, 3, none⟩ = some (.int .i64 (Go.bits .and .i64 a0_3 1023)) := zT BK641 3; have hcz57_4 : w56.cell? ⟨gb641, 4, none⟩ = some (.int .i64 (Go.bits .and .i64 a0_4 1023)) := zT BK641 4; have hcz57_5 : w56.cell? ⟨gb641, 5, none⟩ = some (.slice Ao55 x642005_3.length co55) := zT BK641 5; have hfz57_0 := blk_frozen BK641.out 0; have hfz57_1 := blk_frozen BK641.out 1; have hfz57_2 := blk_frozen BK641.out 2; have hfz57_3 := blk_frozen BK641.out 3; have hfz57_4 := blk_frozen BK641.out 4; have hfz57_5 := blk_frozen BK641.out 5) | ((with_reducible refine gate_callee (f := 28) rfl ?_); refine goesL_ (some 62) rfl rfl Tryd.func28 (by kernel_rfl) rfl #[.slice Ao55 x642005_3.length co55] rfl zM ?_; (with_reducible refine (g7_.calls k3 (fun k_ => some k_ = (.slice Ao55 x642005_3.length co55 : Value).ownBlock) (.slice Ao55 x642005_3.length co55) t657 t658 w _ ?side1 ?side2 A51.out).mono ?_); (case side1 => repeat (first | (with_reducible first | exact HB.out | apply below_alloc | apply pw_below_drewN | apply below_drew1 | refine below_set ?_ GE639.out | refine below_set ?_ GE640.out | refine below_set ?_ GE641.out) | exact HB.out)); (case side2 => exact Kd.R_tight rfl HO_642005.out); rintro e w58 ⟨v659, rfl, ho0, hb, hkp⟩; refine ⟨_, rfl, ?_⟩; have n0_ := Aside0.mk (Kd.V_mono (ok' := fun k_ => some k_ ≠ (u642002 : Value).ownBlock ∧ k_ ≠ gb639 ∧ k_ ≠ gb640 ∧ k_ ≠ gb641 ∧ some k_ ≠ (v659 : Value).ownBlock) (Kd.V_keptB (HO_42.out) hkp (fun k_ hk_ hs_ => (hk_.2.1) hs_)) (fun k_ hk_ => ⟨hk_.1.1, hk_.1.2.2.1, hk_.1.2.2.2.1, hk_.1.2.2.2.2, fun e_ => Or.elim (ho0.1 k_ e_.symm) (fun hs_ => hk_.2.1 hs_) (fun hn_ => Nat.not_le.2 hk_.2.2 hn_)⟩)); have n1_ := Aside0.mk (Kd.R_mono (ok' := fun k_ => some k_ ≠ (v659 : Value).ownBlock) (Kd.R_keptB (HO_642002.out) hkp (fun k_ hk_ hs_ => (hk_) hs_)) (fun k_ hk_ => fun e_ => Or.elim (ho0.1 k_ e_.symm) (fun hs_ => hk_.2.1 hs_) (fun hn_ => Nat.not_le.2 hk_.2.2 hn_))); have n2_ := Aside0.mk (blk_kept (zK BK639) hkp (fun hs_ => (fun e_ => (Kd.R_ne HO_642005.out BK639.out (by decide)) e_) hs_)); have n3_ := Aside0.mk (blk_kept (zK BK640) hkp (fun hs_ => (fun e_ => (Kd.R_ne HO_642005.out BK640.out (by decide)) e_) hs_)); have n4_ := Aside0.mk (blk_kept (zK BK641) hkp (fun hs_ => (fun e_ => (Kd.R_ne HO_642005.out BK641.out (by decide)) e_) hs_)); have n5_ := Aside0.mk (Kd.R_mono (ok' := fun k_ => some k_ ≠ (u642002 : Value).ownBlock) ho0 (fun k_ hk_ => Or.elim hk_ (fun hs_ => fun e_ => (((HO_642002.out).1 k_ e_.symm)) hs_) (fun hn_ => (Kd.fresh' (Kd.R_lt (zO HO_642002)) k_ hn_)))); have n6_ := Aside0.mk (hb); clear HO_42; clear HO_642002; clear BK639; clear BK640; clear BK641; clear HB; clear HO_642005; have HO_42 := n0_; have HO_642002 := n1_; have BK639 := n2_; have BK640 := n3_; have BK641 := n4_; have HO660 := n5_; have HB := n6_; clear n0_ n1_ n2_ n3_ n4_ n5_ n6_; (try clear hb); (try clear hkp); (try clear ho0); obtain ⟨Ao59, co59, eo59⟩ := Kd.R_slice HO660.out; subst eo59; have hcz60_0 : w58.cell? ⟨gb641, 0, none⟩ = some (.int .u32 x642000_2) := zT BK641 0; have hcz60_1 : w58.cell? ⟨gb641, 1, none⟩ = some (.int .i64 x642001_2) := zT BK641 1; have hcz60_2 : w58.cell? ⟨gb641, 2, none⟩ = some (u642002) := zT BK641 2; have hcz60_3 : w58.cell? ⟨gb641, 3, none⟩ = some (.int .i64 (Go.bits .and .i64 a0_3 1023)) := zT BK641 3; have hcz60_4 : w58.cell? ⟨gb641, 4, none⟩ = some (.int .i64 (Go.bits .and .i64 a0_4 1023)) := zT BK641 4; have hcz60_5 : w58.cell? ⟨gb641, 5, none⟩ = some (.slice Ao55 x642005_3.length co55) := zT BK641 5; have hfz60_0 := blk_frozen BK641.out 0; have hfz60_1 := blk_frozen BK641.out 1; have hfz60_2 := blk_frozen BK641.out 2; have hfz60_3 := blk_frozen BK641.out 3; have hfz60_4 := blk_frozen BK641.out 4; have hfz60_5 := blk_frozen BK641.out 5; have hnb61 := NB640_639.out; have hnc61 := NB639_640.out; have hcz62_0 : w58.cell? ⟨gb640, 0, none⟩ = some (.int .u32 0) := zT BK640 0; have hcz62_1 : w58.cell? ⟨gb640, 1, none⟩ = some (.int .i64 0) := zT BK640 1; have hcz62_2 : w58.cell? ⟨gb640, 2, none⟩ = some (.slice none 0 0) := zT BK640 2; have hcz62_3 : w58.cell? ⟨gb640, 3, none⟩ = some (.int .i64 0) := zT BK640 3; have hcz62_4 : w58.cell? ⟨gb640, 4, none⟩ = some (.int .i64 0) := zT BK640 4; have hcz62_5 : w58.cell? ⟨gb640, 5, none⟩ = some (.slice none 0 0) := zT BK640 5; have hfz62_0 := blk_frozen BK640.out 0; have hfz62_1 := blk_frozen BK640.out 1; have hfz62_2 := blk_frozen BK640.out 2; have hfz62_3 := blk_frozen BK640.out 3; have hfz62_4 := blk_frozen BK640.out 4; have hfz62_5 := blk_frozen BK640.out 5; obtain ⟨Ao63, co63, eo63⟩ := Kd.R_slice HO_642002.out; subst eo63))
  refine bodyPost_ret (results_cell_row rfl _ _ gb640 31 #[.int .u32 x642000_2, .int .i64 x642001_2, .slice Ao63 x642002_2.length co63, .int .i64 (Go.bits .and .i64 a0_3 1023), .int .i64 (Go.bits .and .i64 a0_4 1023), .slice Ao59 t658.length co59] (0, 0) _ rfl (by (with_reducible repeat (first | refine blk_drewN ?_ _ | refine blk_drew ?_ | refine blk_alloc ?_ _)); refine blk_put (cs := #[.int .u32 x642000_2, .int .i64 x642001_2, .slice Ao63 x642002_2.length co63, .int .i64 (Go.bits .and .i64 a0_3 1023), .int .i64 (Go.bits .and .i64 a0_4 1023), .slice none 0 0]) ?_ 5 _ rfl; (with_reducible repeat (first | refine blk_drewN ?_ _ | refine blk_drew ?_ | refine blk_alloc ?_ _)); refine blk_put (cs := #[.int .u32 x642000_2, .int .i64 x642001_2, .slice Ao63 x642002_2.length co63, .int .i64 (Go.bits .and .i64 a0_3 1023), .int .i64 0, .slice none 0 0]) ?_ 4 _ rfl; (with_reducible repeat (first | refine blk_drewN ?_ _ | refine blk_drew ?_ | refine blk_alloc ?_ _)); refine blk_put (cs := #[.int .u32 x642000_2, .int .i64 x642001_2, .slice Ao63 x642002_2.length co63, .int .i64 0, .int .i64 0, .slice none 0 0]) ?_ 3 _ rfl; (with_reducible repeat (first | refine blk_drewN ?_ _ | refine blk_drew ?_ | refine blk_alloc ?_ _)); refine blk_put (cs := #[.int .u32 x642000_2, .int .i64 x642001_2, .slice none 0 0, .int .i64 0, .int .i64 0, .slice none 0 0]) ?_ 2 _ rfl; (with_reducible repeat (first | refine blk_drewN ?_ _ | refine blk_drew ?_ | refine blk_alloc ?_ _)); refine blk_put (cs := #[.int .u32 x642000_2, .int .i64 0, .slice none 0 0, .int .i64 0, .int .i64 0, .slice none 0 0]) ?_ 1 _ rfl; (with_reducible repeat (first | refine blk_drewN ?_ _ | refine blk_drew ?_ | refine blk_alloc ?_ _)); refine blk_put (cs := #[.int .u32 0, .int .i64 0, .slice none 0 0, .int .i64 0, .int .i64 0, .slice none 0 0]) ?_ 0 _ rfl; (with_reducible repeat (first | refine blk_drewN ?_ _ | refine blk_drew ?_ | refine blk_alloc ?_ _)); refine blk_far ?_ NB640_641.out _; (with_reducible repeat (first | refine blk_drewN ?_ _ | refine blk_drew ?_ | refine blk_alloc ?_ _)); exact BK640.out) Tryd.underlying31 rfl (by kernel_rfl)) rfl ?_
  exact ⟨_, _, zE, by (with_reducible repeat (first | apply Kd.R_alloc | apply Kd.R_drewN | apply Kd.R_drew)); exact Kd.R_mono (Kd.R_far (p := ⟨gb640, 5, none⟩) (Kd.R_far (p := ⟨gb640, 4, none⟩) (Kd.R_far (p := ⟨gb640, 3, none⟩) (Kd.R_far (p := ⟨gb640, 2, none⟩) (Kd.R_far (p := ⟨gb640, 1, none⟩) (Kd.R_far (p := ⟨gb640, 0, none⟩) (Kd.R_far (p := ⟨gb641, 5, none⟩) (Kd.R_types (Kd.R_types HO_642002.out BK641.out (by decide)) BK640.out (by decide)) (fun _ hk => hk.1.2) (.slice Ao59 t658.length co59)) (fun _ hk => hk.2) (.int .u32 x642000_2)) (fun _ hk => hk.2) (.int .i64 x642001_2)) (fun _ hk => hk.2) (.slice Ao63 x642002_2.length co63)) (fun _ hk => hk.2) (.int .i64 (Go.bits .and .i64 a0_3 1023))) (fun _ hk => hk.2) (.int .i64 (Go.bits .and .i64 a0_4 1023))) (fun _ hk => hk.2) (.slice Ao59 t658.length co59)) (fun _ hk => hk.1.1), by (with_reducible repeat (first | apply Kd.R_alloc | apply Kd.R_drewN | apply Kd.R_drew)); exact Kd.R_mono (Kd.R_far (p := ⟨gb640, 5, none⟩) (Kd.R_far (p := ⟨gb640, 4, none⟩) (Kd.R_far (p := ⟨gb640, 3, none⟩) (Kd.R_far (p := ⟨gb640, 2, none⟩) (Kd.R_far (p := ⟨gb640, 1, none⟩) (Kd.R_far (p := ⟨gb640, 0, none⟩) (Kd.R_far (p := ⟨gb641, 5, none⟩) (Kd.R_types (Kd.R_types HO660.out BK641.out (by decide)) BK640.out (by decide)) (fun _ hk => hk.1.2) (.slice Ao59 t658.length co59)) (fun _ hk => hk.2) (.int .u32 x642000_2)) (fun _ hk => hk.2) (.int .i64 x642001_2)) (fun _ hk => hk.2) (.slice Ao63 x642002_2.length co63)) (fun _ hk => hk.2) (.int .i64 (Go.bits .and .i64 a0_3 1023))) (fun _ hk => hk.2) (.int .i64 (Go.bits .and .i64 a0_4 1023))) (fun _ hk => hk.2) (.slice Ao59 t658.length co59)) (fun _ hk => hk.1.1), zB⟩
 rw [if_pos c40] at H
 have c40b0 : decide (x44_3 < (t650.length : Int)) = true := decide_eq_true c40
 clear c40
 by_cases c41 : 0 ≤ x44_3
 rotate_left
 · rw [if_neg c41] at H; exact absurd H (by simp)
 rw [if_pos c41] at H
 have c41b0 : decide (0 ≤ x44_3) = true := decide_eq_true c41
 clear c41
 by_cases c42 : x44_3 < (t650.length : Int)
 rotate_left
 · rw [if_neg c42] at H; exact absurd H (by simp)
 rw [if_pos c42] at H
 have c42b0 : decide (x44_3 < (t650.length : Int)) = true := decide_eq_true c42
 clear c42
 by_cases c43 : x642005_3.length < 17592186044416
 rotate_left
 · rw [if_neg c43] at H; exact absurd H (by simp)
 rw [if_pos c43] at H
 have LMc43 := Aside0.mk c43
 clear c43
 obtain ⟨y654, hy654⟩ : ∃ y_ : List Int, y_ = (x642005_3 ++ [wrap64 (1 + (Go.bits .and .i64 (rd t650 x44_3) 15))]) := ⟨_, rfl⟩
 replace H : (g8_.l1 k3 t650 (t650.length : Int) (wrap64 (x44_3 + 1)) x642000_2 x642001_2 x642002_2 (Go.bits .and .i64 a0_3 1023) (Go.bits .and .i64 a0_4 1023) y654) = some (r1, r2, r3, r4, r5, r6) := by first | (rw [hy654]; with_reducible exact H) | (have H2_ := (Option.bind_some _ _).symm.trans H; rw [hy654]; with_reducible exact H2_) | (have H2_ := (Option.bind_some _ _).symm.trans H; with_reducible exact H2_) | with_reducible exact H | (rw [hy654]; exact H) | exact H
 have Ny654 := Aside0.mk hy654
 clear hy654
 have H' := Aside0.mk H
 clear H
 have p653 : 0 ≤ (x44_3 : Int) := od
 have q653 : x44_3 < (t650.length : Int) := od
 obtain ⟨ad653, e653, hx653_0⟩ := Kd.at_int (Kd.V_reads' HO_42.out).2.2 x44_3 p653 q653
 cases e653
 replace p653 := eq_true p653
 replace q653 := eq_true q653
 have hnb44 := NB641_639.out
 have hnc44 := NB639_641.out
 have hnb45 := NB641_640.out
 have hnc45 := NB640_641.out
 have hcz46_0 : wr.cell? ⟨gb641, 0, none⟩ = some (.int .u32 x642000_2) := zT BK641 0
 have hcz46_1 : wr.cell? ⟨gb641, 1, none⟩ = some (.int .i64 x642001_2) := zT BK641 1
 have hcz46_2 : wr.cell? ⟨gb641, 2, none⟩ = some (u642002) := zT BK641 2
 have hcz46_3 : wr.cell? ⟨gb641, 3, none⟩ = some (.int .i64 (Go.bits .and .i64 a0_3 1023)) := zT BK641 3
 have hcz46_4 : wr.cell? ⟨gb641, 4, none⟩ = some (.int .i64 (Go.bits .and .i64 a0_4 1023)) := zT BK641 4
 have hcz46_5 : wr.cell? ⟨gb641, 5, none⟩ = some (u642005) := zT BK641 5
 have hfz46_0 := blk_frozen BK641.out 0
 have hfz46_1 := blk_frozen BK641.out 1
 have hfz46_2 := blk_frozen BK641.out 2
 have hfz46_3 := blk_frozen BK641.out 3
 have hfz46_4 := blk_frozen BK641.out 4
 have hfz46_5 := blk_frozen BK641.out 5
 go_wp2_with (first | ((with_reducible refine gate_builtin (b := .append) (xs := #[.tmp 49, .tmp 53]) rfl ?_); at_builtin; refine Kd.R_append (Kd.int .i64) (w0 := w) w.heap.size rfl (.tmp 49) (.tmp 53) 23 3 (.int .i64 0) 8 rfl Tryd.underlying23 info3 rfl (by decide) (by omega) u642005 x642005_3 (wrap64 (1 + (Go.bits .and .i64 (rd t650 x44_3) 15))) [.int .i64 (wrap64 (1 + (Go.bits .and .i64 (rd t650 x44_3) 15)))] (fun k_ => some k_ ≠ (u642002 : Value).ownBlock) (fun _ => False) rfl rfl ?aP (fun _ hk => hk.elim) ?aF ?aO ?aB ?aS ?aL ?_; (case aP => exact rfl); (case aB => exact zB); (case aF => exact (fun k_ hk => Kd.fresh' (Kd.R_lt (zO HO_642002)) k_ hk)); (case aO => exact (zO HO_642005)); (case aS => exact (below_size zB)); (case aL => have := LMc43.out; omega); intro v655 w47 ho hb hg hat; rw [← Ny654.out] at ho; have n0_ := Aside0.mk (Kd.V_afterv (ok := (fun k_ => some k_ ≠ (u642002 : Value).ownBlock ∧ k_ ≠ gb639 ∧ k_ ≠ gb640 ∧ k_ ≠ gb641)) (by (with_reducible repeat (first | apply Kd.V_alloc | apply Kd.V_drewN | apply Kd.V_drew)); exact Kd.V_mono HO_42.out (fun _ hk => ⟨⟨hk.1, ⟨hk.2.2.1, ⟨hk.2.2.2.1, hk.2.2.2.2⟩⟩⟩, hk.2.1⟩)) hg hat); have n1_ := Aside0.mk (Kd.R_after (ok := (fun _ => True)) (by (with_reducible repeat (first | apply Kd.R_alloc | apply Kd.R_drewN | apply Kd.R_drew)); exact Kd.R_mono HO_642002.out (fun _ hk => ⟨trivial, hk⟩)) hg hat); have n2_ := Aside0.mk (blk_grown (g := gb639) (o := .cells #[.int .u32 a0_0, .int .i64 a0_1, .slice A0_2 l0_2.length c0_2, .int .i64 a0_3, .int .i64 a0_4, .slice A0_5 l0_5.length c0_5] 31 (0, 0)) (zK BK639) hg (Kd.R_ne HO_642005.out BK639.out (by decide))); have n3_ := Aside0.mk (blk_grown (g := gb640) (o := .cells #[.int .u32 0, .int .i64 0, .slice none 0 0, .int .i64 0, .int .i64 0, .slice none 0 0] 31 (0, 0)) (zK BK640) hg (Kd.R_ne HO_642005.out BK640.out (by decide))); have n4_ := Aside0.mk (blk_grown (g := gb641) (o := .cells #[.int .u32 x642000_2, .int .i64 x642001_2, u642002, .int .i64 (Go.bits .and .i64 a0_3 1023), .int .i64 (Go.bits .and .i64 a0_4 1023), u642005] 31 (0, 0)) (zK BK641) hg (Kd.R_ne HO_642005.out BK641.out (by decide))); have n5_ := Aside0.mk (hb); have n6_ := Aside0.mk (ho); clear HO_42; clear HO_642002; clear BK639; clear BK640; clear BK641; clear HB; clear HO_642005; have HO_42 := n0_; have HO_642002 := n1_; have BK639 := n2_; have BK640 := n3_; have BK641 := n4_; have HB := n5_; have HO656 := n6_; clear n0_ n1_ n2_ n3_ n4_ n5_ n6_; clear ho hb hg hat; obtain ⟨Ao48, co48, eo48⟩ := Kd.R_slice HO656.out; subst eo48; have hcz49_0 : w47.cell? ⟨gb641, 0, none⟩ = some (.int .u32 x642000_2) := zT BK641 0; have hcz49_1 : w47.cell? ⟨gb641, 1, none⟩ = some (.int .i64 x642001_2) := zT BK641 1; have hcz49_2 : w47.cell? ⟨gb641, 2, none⟩ = some (u642002) := zT BK641 2; have hcz49_3 : w47.cell? ⟨gb641, 3, none⟩ = some (.int .i64 (Go.bits .and .i64 a0_3 1023)) := zT BK641 3; have hcz49_4 : w47.cell? ⟨gb641, 4, none⟩ = some (.int .i64 (Go.bits .and .i64 a0_4 1023)) := zT BK641 4; have hcz49_5 : w47.cell? ⟨gb641, 5, none⟩ = some (u642005) := zT BK641 5; have hfz49_0 := blk_frozen BK641.out 0; have hfz49_1 := blk_frozen BK641.out 1; have hfz49_2 := blk_frozen BK641.out 2; have hfz49_3 := blk_frozen BK641.out 3; have hfz49_4 := blk_frozen BK641.out 4; have hfz49_5 := blk_frozen BK641.out 5))
 go_roundg k3
 case measure => have := HJ2.out; have := HK2.out; have := HK3.out; omega
 case rel => exact ⟨(wrap64 (x44_3 + 1)), (y654), (.slice Ao48 y654.length co48), zR, H', ⟨by have := HJ2.out; have := HK2.out; have := HK3.out; omega⟩, ⟨by (with_reducible repeat (first | apply Kd.V_alloc | apply Kd.V_drewN | apply Kd.V_drew)); exact Kd.V_mono (Kd.V_far (p := ⟨gb641, 5, none⟩) (Kd.V_mono HO_42.out (fun k_ hk => (⟨hk, hk.1.2.2.2⟩ : _ ∧ k_ ≠ gb641))) (fun _ hk => hk.2) (.slice Ao48 y654.length co48)) (fun _ hk => ⟨hk.1.1.1, ⟨hk.1.2, ⟨hk.1.1.2.1, ⟨hk.1.1.2.2.1, hk.1.1.2.2.2⟩⟩⟩⟩)⟩, ⟨by (with_reducible repeat (first | apply Kd.R_alloc | apply Kd.R_drewN | apply Kd.R_drew)); exact Kd.R_mono (Kd.R_far (p := ⟨gb641, 5, none⟩) (Kd.R_types HO_642002.out BK641.out (by decide)) (fun _ hk => hk.2) (.slice Ao48 y654.length co48)) (fun _ hk => hk.1.2)⟩, ⟨by (with_reducible repeat (first | apply Kd.R_alloc | apply Kd.R_drewN | apply Kd.R_drew)); exact Kd.R_mono (Kd.R_far (p := ⟨gb641, 5, none⟩) (Kd.R_types HO656.out BK641.out (by decide)) (fun _ hk => hk.2) (.slice Ao48 y654.length co48)) (fun _ hk => hk.1)⟩, ⟨by (with_reducible repeat (first | refine blk_drewN ?_ _ | refine blk_drew ?_ | refine blk_alloc ?_ _)); refine blk_far ?_ NB639_641.out _; (with_reducible repeat (first | refine blk_drewN ?_ _ | refine blk_drew ?_ | refine blk_alloc ?_ _)); exact BK639.out⟩, ⟨by (with_reducible repeat (first | refine blk_drewN ?_ _ | refine blk_drew ?_ | refine blk_alloc ?_ _)); refine blk_far ?_ NB640_641.out _; (with_reducible repeat (first | refine blk_drewN ?_ _ | refine blk_drew ?_ | refine blk_alloc ?_ _)); exact BK640.out⟩, ⟨by (with_reducible repeat (first | refine blk_drewN ?_ _ | refine blk_drew ?_ | refine blk_alloc ?_ _)); refine blk_put (cs := #[.int .u32 x642000_2, .int .i64 x642001_2, u642002, .int .i64 (Go.bits .and .i64 a0_3 1023), .int .i64 (Go.bits .and .i64 a0_4 1023), u642005]) ?_ 5 _ rfl; (with_reducible repeat (first | refine blk_drewN ?_ _ | refine blk_drew ?_ | refine blk_alloc ?_ _)); exact BK641.out⟩, ⟨zB⟩⟩
/-! ### g9_: function 7 -/
def g9_.l0 : Nat → List (S31) → List (S31) → Int → Int → Option ((List (S31)))
  | 0, _, _, _, _ => none
  | k + 1, x5, x10, x11, x12 => if x12 < x11 then (if 0 ≤ x12 then (if x12 < (x10.length : Int) then ((g8_.f k ((rd_T31 x10 x12).f0.f0) ((rd_T31 x10 x12).f0.f1) ((rd_T31 x10 x12).f1) ((rd_T31 x10 x12).f2) ((rd_T31 x10 x12).f3) ((rd_T31 x10 x12).f4)).bind fun bt666 => (if x5.length < 1759218604441 then (g9_.l0 k (x5 ++ [(⟨(⟨167772160, 8⟩ : S29), bt666.2.2.1, Go.bits .and .i64 bt666.2.2.2.1 1, Go.bits .and .i64 bt666.2.2.2.2.1 3, bt666.2.2.2.2.2⟩ : S31)]) x10 x11 (wrap64 (x12 + 1))) else (none))) else (none)) else (none)) else (some x5)
def g9_.f (k : Nat) (l0 : List (S31)) (a1 : Int) : Option ((List (S31))) := (g26_.f l0 a1).bind fun t661 => (g9_.l0 k ([] : List (S31)) t661 (t661.length : Int) 0)
theorem g9_.mono_l : ∀ k, (∀ y0 y1 y2 y3, LeO (g9_.l0 k y0 y1 y2 y3) (g9_.l0 (k + 1) y0 y1 y2 y3))
  | 0 => fun _ _ _ _ r h => by simp [g9_.l0] at h
  | k + 1 => by
    have ih0 := g9_.mono_l k
    · intro y0 y1 y2 y3
      unfold g9_.l0
      repeat' (with_reducible first | exact ih0 _ _ _ _ | exact g8_.mono _ _ _ _ _ _ _ | exact LeO.refl _ | exact LeO.none _ | refine LeO.ite ?_ ?_ | refine LeO.bind ?_ (fun _ => ?_))
theorem g9_.mono : ∀ a0 a1 k, LeO (g9_.f k a0 a1) (g9_.f (k + 1) a0 a1) := by
  intro a0 a1 k
  have ih0 := g9_.mono_l k
  unfold g9_.f
  repeat' (with_reducible first | exact ih0 _ _ _ _ | exact g8_.mono _ _ _ _ _ _ _ | exact LeO.refl _ | exact LeO.none _ | refine LeO.ite ?_ ?_ | refine LeO.bind ?_ (fun _ => ?_))
set_option maxHeartbeats 8000000 in
set_option maxRecDepth 100000 in
theorem g9_.calls (k : Nat) (A0 : Option Addr) (c0 : Nat) (l0 : List (S31)) (a1 : Int) (r : List (S31)) (w : World) (hr0 : Kd.C k31 w A0 l0.length l0) (hc0 : l0.length ≤ c0) (hgl0_0 : w.cell? ⟨0, 0, none⟩ = some (.int .u32 167772160)) (hgl0_1 : w.cell? ⟨0, 1, none⟩ = some (.int .i64 8)) (h : g9_.f k l0 a1 = some r) :
 Calls Tryd.prog 7 #[.slice A0 l0.length c0, .int .i64 a1] w fun e w' => ∃ v0_ : Value, e = .returned (v0_) ∧ Kd.S k31 31 w' w.heap.size (fun _ => True) v0_ r ∧ Below w.heap.size w w' := by
 have hu31 := Tryd.underlying31
 have hu29 := Tryd.underlying29
 have hu3 := Tryd.underlying3
 have HR0 := Aside0.mk hr0
 have HC0 := Aside0.mk hc0
 clear hr0 hc0
 have GL0_0 := Aside0.mk hgl0_0
 clear hgl0_0
 have GL0_1 := Aside0.mk hgl0_1
 clear hgl0_1
 have HB := Aside0.mk (Below.refl w.heap.size w)
 have H : ((g26_.f l0 a1).bind fun t661 => (g9_.l0 k ([] : List (S31)) t661 (t661.length : Int) 0)) = some r := h
 clear h
 replace H := Option.bind_eq_some_iff.mp H
 obtain ⟨t661, A30, H⟩ := H
 replace H : (g9_.l0 k ([] : List (S31)) t661 (t661.length : Int) 0) = some r := H
 have A3 := Aside0.mk A30
 clear A30
 have H' := Aside0.mk H
 clear H
 go_enter Tryd.func7, Tryd.ntmps7
 go_wp2_with (first | ((with_reducible refine gate_callee (f := 19) rfl ?_); refine goesL_ (some 10) rfl rfl Tryd.func19 (by kernel_rfl) rfl #[.slice A0 l0.length c0, .int .i64 a1] rfl zM ?_; (with_reducible refine (g26_.calls (fun k_ => k_ < w.heap.size) _ _ l0 a1 t661 _ ?side1 A3.out).mono ?_); (case side1 => exact Kd.V_mk HC0.out (Kd.F_below (Kd.C_F k31_heap HR0.out) zB)); rintro e w4 ⟨v662, rfl, ho0, hb⟩; refine ⟨_, rfl, ?_⟩; have n0_ := Aside0.mk (Kd.V_lower (Kd.V_mono (ok' := fun k_ => True) ho0 (fun k_ hk_ => trivial)) (below_size zB)); have n1_ := Aside0.mk (below_step zB hb); clear HB; have HO663 := n0_; have HB := n1_; clear n0_ n1_; (try clear hb); (try clear hb2); (try clear hk); (try clear hi); (try clear ho0); obtain ⟨Ao5, co5, eo5⟩ := Kd.V_slice HO663.out; subst eo5))
 go_loopg [5, 12] k (fun kq v5 v12 w' => ∃ (x5_1 : List (S31)) (x12_1 : Int), v12 = .int .i64 x12_1 ∧ Aside0 (g9_.l0 kq x5_1 t661 (t661.length : Int) x12_1 = some r) ∧ Aside0 (kq ≤ k) ∧ Aside0 (Kd.S k31 31 w' w.heap.size (fun _ => True) v5 x5_1) ∧ Aside0 (Kd.V k31 31 w' w.heap.size (fun k_ => some k_ ≠ (v5 : Value).ownBlock) (.slice Ao5 t661.length co5) t661) ∧ Aside0 (Below w.heap.size w w'))
 case atStart => exact ⟨(([] : List (S31))), (0), zR, H', ⟨Nat.le_refl _⟩, ⟨by first | exact Kd.S_nil _ _ _ _ _ | exact Kd.N_nil _ _ _ _ _ | exact Kd.V_nil _ _ _ _ _ | exact Kd.Q_nil _ _ _ _ _ | exact Kd.R_nil _ _ _ _ _⟩, ⟨by (with_reducible repeat (first | apply Kd.V_alloc | apply Kd.V_drewN | apply Kd.V_drew)); exact Kd.V_mono HO663.out (fun _ hk => (by simp [Value.ownBlock]))⟩, ⟨zB⟩⟩
 clear H'
 try clear c1
 try clear p2
 obtain ⟨x5_1, x12_1, rfl, HA, HK1, HO_5, HO_10, HB⟩ := hrel
 rcases gk with _ | k1
 · exact absurd HA.out (by simp [g9_.l0])
 have H := HA.out
 clear HA
 simp only [g9_.l0] at H
 by_cases c6 : x12_1 < (t661.length : Int)
 rotate_left
 ·
  rw [if_neg c6] at H
  have c6b0 : decide (x12_1 < (t661.length : Int)) = false := decide_eq_false c6
  clear c6
  obtain rfl := Option.some.inj H
  go_wp2
  go_ret
  exact ⟨_, zE, by (with_reducible repeat (first | apply Kd.S_alloc | apply Kd.S_drewN | apply Kd.S_drew)); exact HO_5.out, zB⟩
 rw [if_pos c6] at H
 have c6b0 : decide (x12_1 < (t661.length : Int)) = true := decide_eq_true c6
 clear c6
 by_cases c7 : 0 ≤ x12_1
 rotate_left
 · rw [if_neg c7] at H; exact absurd H (by simp)
 rw [if_pos c7] at H
 have c7b0 : decide (0 ≤ x12_1) = true := decide_eq_true c7
 clear c7
 by_cases c8 : x12_1 < (t661.length : Int)
 rotate_left
 · rw [if_neg c8] at H; exact absurd H (by simp)
 rw [if_pos c8] at H
 have c8b0 : decide (x12_1 < (t661.length : Int)) = true := decide_eq_true c8
 clear c8
 replace H := Option.bind_eq_some_iff.mp H
 obtain ⟨⟨t666, t667, t668, t671, t672, t673⟩, A90, H⟩ := H
 replace H : (if x5_1.length < 1759218604441 then (g9_.l0 k1 (x5_1 ++ [(⟨(⟨167772160, 8⟩ : S29), t668, Go.bits .and .i64 t671 1, Go.bits .and .i64 t672 3, t673⟩ : S31)]) t661 (t661.length : Int) (wrap64 (x12_1 + 1))) else (none)) = some r := H
 have A9 := Aside0.mk A90
 clear A90
 by_cases c10 : x5_1.length < 1759218604441
 rotate_left
 · rw [if_neg c10] at H; exact absurd H (by simp)
 rw [if_pos c10] at H
 have LMc10 := Aside0.mk c10
 clear c10
 obtain ⟨y676, hy676⟩ : ∃ y_ : List (S31), y_ = (x5_1 ++ [(⟨(⟨167772160, 8⟩ : S29), t668, Go.bits .and .i64 t671 1, Go.bits .and .i64 t672 3, t673⟩ : S31)]) := ⟨_, rfl⟩
 replace H : (g9_.l0 k1 y676 t661 (t661.length : Int) (wrap64 (x12_1 + 1))) = some r := by first | (rw [hy676]; with_reducible exact H) | (have H2_ := (Option.bind_some _ _).symm.trans H; rw [hy676]; with_reducible exact H2_) | (have H2_ := (Option.bind_some _ _).symm.trans H; with_reducible exact H2_) | with_reducible exact H | (rw [hy676]; exact H) | exact H
 have Ny676 := Aside0.mk hy676
 clear hy676
 have H' := Aside0.mk H
 clear H
 have p664 : 0 ≤ (x12_1 : Int) := od
 have q664 : x12_1 < (t661.length : Int) := od
 obtain ⟨ad664, A664_2, c664_2, A664_5, c664_5, e664, hx664_0, hx664_1, hx664_2, hx664_3, hx664_4, hx664_5, hl664_2, hi664_2, hl664_5, hi664_5⟩ := at_T31 (Kd.V_reads' HO_10.out).2.2 x12_1 p664 q664
 cases e664
 obtain ⟨ce664, hce664, hMe664, hcc664⟩ := Kd.V_get HO_10.out z31 x12_1 p664 (by first | exact q664 | exact od | (have e_ := (Kd.V_reads' HO_10.out).1; omega))
 obtain ⟨ua664_2, uc664_2, ua664_5, uc664_5, rfl, ul664_2, ge664_2, ul664_5, ge664_5⟩ := k31_openF hMe664
 have hv664_2 := hcc664 2 _ rfl
 rw [add_field _ _ 2 (by omega)] at hv664_2
 replace hv664_2 := Option.some.inj (hv664_2.symm.trans hx664_2)
 injection hv664_2 with hva_ hvn_ hvc_
 rw [hva_] at ge664_2
 rw [hvc_] at ul664_2
 have HL664_2 := Aside0.mk (show Kd.V (Kd.int .i64) 3 _ w.heap.size _ _ ((rd_T31 t661 x12_1).f1) from Kd.V_mk ul664_2 ge664_2)
 clear hva_ hvn_ hvc_ ge664_2 ul664_2
 have hv664_5 := hcc664 5 _ rfl
 rw [add_field _ _ 5 (by omega)] at hv664_5
 replace hv664_5 := Option.some.inj (hv664_5.symm.trans hx664_5)
 injection hv664_5 with hva_ hvn_ hvc_
 rw [hva_] at ge664_5
 rw [hvc_] at ul664_5
 have HL664_5 := Aside0.mk (show Kd.V (Kd.int .i64) 3 _ w.heap.size _ _ ((rd_T31 t661 x12_1).f4) from Kd.V_mk ul664_5 ge664_5)
 clear hva_ hvn_ hvc_ ge664_5 ul664_5
 clear hcc664 hce664
 have HR664_2 := Aside0.mk hi664_2
 have HC664_2 := Aside0.mk hl664_2
 clear hi664_2 hl664_2
 have HR664_5 := Aside0.mk hi664_5
 have HC664_5 := Aside0.mk hl664_5
 clear hi664_5 hl664_5
 replace p664 := eq_true p664
 replace q664 := eq_true q664
 go_wp2_with (first | ((with_reducible refine gate_dst (N := 7) rfl ?_); refine bx 7 (#[.int .u32 0, .int .i64 0, .slice none 0 0, .int .i64 0, .int .i64 0, .slice none 0 0]) 31 ?_; intro gb665 hg w11 hbox hb; have n0_ := Aside0.mk (Kd.S_below (Kd.S_elderB (zS HO_5) gb665 (Nat.le_of_eq hg.symm)) hb); have n1_ := Aside0.mk (Kd.V_below (Kd.V_elderB (by (with_reducible repeat (first | apply Kd.V_alloc | apply Kd.V_drewN | apply Kd.V_drew)); exact HO_10.out) gb665 (Nat.le_of_eq hg.symm)) hb); have n2_ := Aside0.mk (Kd.V_below (Kd.V_elderB (by (with_reducible repeat (first | apply Kd.V_alloc | apply Kd.V_drewN | apply Kd.V_drew)); exact HL664_2.out) gb665 (Nat.le_of_eq hg.symm)) hb); have n3_ := Aside0.mk (Kd.V_below (Kd.V_elderB (by (with_reducible repeat (first | apply Kd.V_alloc | apply Kd.V_drewN | apply Kd.V_drew)); exact HL664_5.out) gb665 (Nat.le_of_eq hg.symm)) hb); have n4_ := Aside0.mk (Kd.C_below (by repeat (first | (with_reducible exact HR664_2.out) | (with_reducible refine Kd.C_alloc ?_ _) | (with_reducible refine Kd.C_drewN ?_ _) | (with_reducible refine Kd.C_drew ?_) | exact HR664_2.out)) hb); have n5_ := Aside0.mk (Kd.C_below (by repeat (first | (with_reducible exact HR664_5.out) | (with_reducible refine Kd.C_alloc ?_ _) | (with_reducible refine Kd.C_drewN ?_ _) | (with_reducible refine Kd.C_drew ?_) | exact HR664_5.out)) hb); have n6_ := Aside0.mk (below_step zB hb); have n7_ := Aside0.mk (hbox); have n8_ := Aside0.mk ((zG hg : w.heap.size ≤ gb665)); have n9_ := Aside0.mk ((zG hg : w.heap.size ≤ gb665)); clear HO_5; clear HO_10; clear HL664_2; clear HL664_5; clear HR664_2; clear HR664_5; clear HB; have HO_5 := n0_; have HO_10 := n1_; have HL664_2 := n2_; have HL664_5 := n3_; have HR664_2 := n4_; have HR664_5 := n5_; have HB := n6_; have BK665 := n7_; have GW665 := n8_; have GE665 := n9_; clear n0_ n1_ n2_ n3_ n4_ n5_ n6_ n7_ n8_ n9_; clear hb hbox hg; have hcz12_0 : w11.cell? ⟨gb665, 0, none⟩ = some (.int .u32 0) := zT BK665 0; have hcz12_1 : w11.cell? ⟨gb665, 1, none⟩ = some (.int .i64 0) := zT BK665 1; have hcz12_2 : w11.cell? ⟨gb665, 2, none⟩ = some (.slice none 0 0) := zT BK665 2; have hcz12_3 : w11.cell? ⟨gb665, 3, none⟩ = some (.int .i64 0) := zT BK665 3; have hcz12_4 : w11.cell? ⟨gb665, 4, none⟩ = some (.int .i64 0) := zT BK665 4; have hcz12_5 : w11.cell? ⟨gb665, 5, none⟩ = some (.slice none 0 0) := zT BK665 5; have hfz12_0 := blk_frozen BK665.out 0; have hfz12_1 := blk_frozen BK665.out 1; have hfz12_2 := blk_frozen BK665.out 2; have hfz12_3 := blk_frozen BK665.out 3; have hfz12_4 := blk_frozen BK665.out 4; have hfz12_5 := blk_frozen BK665.out 5) | ((with_reducible refine gate_callee (f := 15) rfl ?_); refine goesL_ (some 17) rfl rfl Tryd.func15 (by kernel_rfl) rfl #[.agg #[.int .u32 ((rd_T31 t661 x12_1).f0.f0), .int .i64 ((rd_T31 t661 x12_1).f0.f1), .slice A664_2 ((rd_T31 t661 x12_1).f1).length c664_2, .int .i64 ((rd_T31 t661 x12_1).f2), .int .i64 ((rd_T31 t661 x12_1).f3), .slice A664_5 ((rd_T31 t661 x12_1).f4).length c664_5]] rfl zM ?_; (with_reducible refine (g8_.calls k1 ((rd_T31 t661 x12_1).f0.f0) ((rd_T31 t661 x12_1).f0.f1) _ _ ((rd_T31 t661 x12_1).f1) ((rd_T31 t661 x12_1).f2) ((rd_T31 t661 x12_1).f3) _ _ ((rd_T31 t661 x12_1).f4) t666 t667 t668 t671 t672 t673 _ ?side1 ?side2 ?side3 ?side4 ?side5 ?side6 A9.out).mono ?_); (case side1 => repeat (first | exact ((Kd.V_reads' (by (with_reducible repeat (first | apply Kd.V_alloc | apply Kd.V_drewN | apply Kd.V_drew)); exact (Kd.V_mono (Kd.V_far (p := ⟨gb665, 5, none⟩) (Kd.V_far (p := ⟨gb665, 4, none⟩) (Kd.V_far (p := ⟨gb665, 3, none⟩) (Kd.V_far (p := ⟨gb665, 2, none⟩) (Kd.V_far (p := ⟨gb665, 1, none⟩) (Kd.V_far (p := ⟨gb665, 0, none⟩) (Kd.V_mono HL664_2.out (fun k_ hk => (⟨hk, hk.2⟩ : _ ∧ k_ ≠ gb665))) (fun _ hk => hk.2) (.int .u32 ((rd_T31 t661 x12_1).f0.f0))) (fun _ hk => hk.2) (.int .i64 ((rd_T31 t661 x12_1).f0.f1))) (fun _ hk => hk.2) (.slice A664_2 ((rd_T31 t661 x12_1).f1).length c664_2)) (fun _ hk => hk.2) (.int .i64 ((rd_T31 t661 x12_1).f2))) (fun _ hk => hk.2) (.int .i64 ((rd_T31 t661 x12_1).f3))) (fun _ hk => hk.2) (.slice A664_5 ((rd_T31 t661 x12_1).f4).length c664_5)) (fun _ h_ => h_.1)))).2.2) | (with_reducible refine Kd.C_alloc ?_ _) | (with_reducible refine Kd.C_drewN ?_ _) | (with_reducible refine Kd.C_drew ?_))); (case side2 => exact HC664_2.out); (case side3 => repeat (first | exact ((Kd.V_reads' (by (with_reducible repeat (first | apply Kd.V_alloc | apply Kd.V_drewN | apply Kd.V_drew)); exact (Kd.V_mono (Kd.V_far (p := ⟨gb665, 5, none⟩) (Kd.V_far (p := ⟨gb665, 4, none⟩) (Kd.V_far (p := ⟨gb665, 3, none⟩) (Kd.V_far (p := ⟨gb665, 2, none⟩) (Kd.V_far (p := ⟨gb665, 1, none⟩) (Kd.V_far (p := ⟨gb665, 0, none⟩) (Kd.V_mono HL664_5.out (fun k_ hk => (⟨hk, hk.2⟩ : _ ∧ k_ ≠ gb665))) (fun _ hk => hk.2) (.int .u32 ((rd_T31 t661 x12_1).f0.f0))) (fun _ hk => hk.2) (.int .i64 ((rd_T31 t661 x12_1).f0.f1))) (fun _ hk => hk.2) (.slice A664_2 ((rd_T31 t661 x12_1).f1).length c664_2)) (fun _ hk => hk.2) (.int .i64 ((rd_T31 t661 x12_1).f2))) (fun _ hk => hk.2) (.int .i64 ((rd_T31 t661 x12_1).f3))) (fun _ hk => hk.2) (.slice A664_5 ((rd_T31 t661 x12_1).f4).length c664_5)) (fun _ h_ => h_.1)))).2.2) | (with_reducible refine Kd.C_alloc ?_ _) | (with_reducible refine Kd.C_drewN ?_ _) | (with_reducible refine Kd.C_drew ?_))); (case side4 => exact HC664_5.out); (case side5 => exact (Below.cell zB (World.block_lt_of_cell? w _ GL0_0.out)).trans GL0_0.out); (case side6 => exact (Below.cell zB (World.block_lt_of_cell? w _ GL0_1.out)).trans GL0_1.out); rintro e w13 ⟨v669, v674, rfl, ho0, ho1, hb⟩; refine ⟨_, rfl, ?_⟩; have n0_ := Aside0.mk (Kd.S_mono (Kd.S_told (Kd.S_told (Kd.S_old (by (with_reducible repeat (first | apply Kd.S_alloc | apply Kd.S_drewN | apply Kd.S_drew)); exact (Kd.S_mono (Kd.S_far (p := ⟨gb665, 5, none⟩) (Kd.S_far (p := ⟨gb665, 4, none⟩) (Kd.S_far (p := ⟨gb665, 3, none⟩) (Kd.S_far (p := ⟨gb665, 2, none⟩) (Kd.S_far (p := ⟨gb665, 1, none⟩) (Kd.S_far (p := ⟨gb665, 0, none⟩) (Kd.S_mono HO_5.out (fun k_ hk => (⟨hk, hk.2⟩ : _ ∧ k_ ≠ gb665))) (fun _ hk => hk.2) (.int .u32 ((rd_T31 t661 x12_1).f0.f0))) (fun _ hk => hk.2) (.int .i64 ((rd_T31 t661 x12_1).f0.f1))) (fun _ hk => hk.2) (.slice A664_2 ((rd_T31 t661 x12_1).f1).length c664_2)) (fun _ hk => hk.2) (.int .i64 ((rd_T31 t661 x12_1).f2))) (fun _ hk => hk.2) (.int .i64 ((rd_T31 t661 x12_1).f3))) (fun _ hk => hk.2) (.slice A664_5 ((rd_T31 t661 x12_1).f4).length c664_5)) (fun _ h_ => h_.1))) hb) (Kd.R_base ho0)) (Kd.R_base ho1)) (fun _ h_ => h_.1)); have n1_ := Aside0.mk (Kd.V_mono (Kd.V_told (Kd.V_told (Kd.V_old (by (with_reducible repeat (first | apply Kd.V_alloc | apply Kd.V_drewN | apply Kd.V_drew)); exact (Kd.V_mono (Kd.V_far (p := ⟨gb665, 5, none⟩) (Kd.V_far (p := ⟨gb665, 4, none⟩) (Kd.V_far (p := ⟨gb665, 3, none⟩) (Kd.V_far (p := ⟨gb665, 2, none⟩) (Kd.V_far (p := ⟨gb665, 1, none⟩) (Kd.V_far (p := ⟨gb665, 0, none⟩) (Kd.V_mono HO_10.out (fun k_ hk => (⟨hk, hk.2⟩ : _ ∧ k_ ≠ gb665))) (fun _ hk => hk.2) (.int .u32 ((rd_T31 t661 x12_1).f0.f0))) (fun _ hk => hk.2) (.int .i64 ((rd_T31 t661 x12_1).f0.f1))) (fun _ hk => hk.2) (.slice A664_2 ((rd_T31 t661 x12_1).f1).length c664_2)) (fun _ hk => hk.2) (.int .i64 ((rd_T31 t661 x12_1).f2))) (fun _ hk => hk.2) (.int .i64 ((rd_T31 t661 x12_1).f3))) (fun _ hk => hk.2) (.slice A664_5 ((rd_T31 t661 x12_1).f4).length c664_5)) (fun _ h_ => h_.1))) hb) (Kd.R_base ho0)) (Kd.R_base ho1)) (fun _ h_ => h_.1)); have n2_ := Aside0.mk (Kd.V_mono (Kd.V_told (Kd.V_told (Kd.V_old (by (with_reducible repeat (first | apply Kd.V_alloc | apply Kd.V_drewN | apply Kd.V_drew)); exact (Kd.V_mono (Kd.V_far (p := ⟨gb665, 5, none⟩) (Kd.V_far (p := ⟨gb665, 4, none⟩) (Kd.V_far (p := ⟨gb665, 3, none⟩) (Kd.V_far (p := ⟨gb665, 2, none⟩) (Kd.V_far (p := ⟨gb665, 1, none⟩) (Kd.V_far (p := ⟨gb665, 0, none⟩) (Kd.V_mono HL664_2.out (fun k_ hk => (⟨hk, hk.2⟩ : _ ∧ k_ ≠ gb665))) (fun _ hk => hk.2) (.int .u32 ((rd_T31 t661 x12_1).f0.f0))) (fun _ hk => hk.2) (.int .i64 ((rd_T31 t661 x12_1).f0.f1))) (fun _ hk => hk.2) (.slice A664_2 ((rd_T31 t661 x12_1).f1).length c664_2)) (fun _ hk => hk.2) (.int .i64 ((rd_T31 t661 x12_1).f2))) (fun _ hk => hk.2) (.int .i64 ((rd_T31 t661 x12_1).f3))) (fun _ hk => hk.2) (.slice A664_5 ((rd_T31 t661 x12_1).f4).length c664_5)) (fun _ h_ => h_.1))) hb) (Kd.R_base ho0)) (Kd.R_base ho1)) (fun _ h_ => h_.1)); have n3_ := Aside0.mk (Kd.V_mono (Kd.V_told (Kd.V_told (Kd.V_old (by (with_reducible repeat (first | apply Kd.V_alloc | apply Kd.V_drewN | apply Kd.V_drew)); exact (Kd.V_mono (Kd.V_far (p := ⟨gb665, 5, none⟩) (Kd.V_far (p := ⟨gb665, 4, none⟩) (Kd.V_far (p := ⟨gb665, 3, none⟩) (Kd.V_far (p := ⟨gb665, 2, none⟩) (Kd.V_far (p := ⟨gb665, 1, none⟩) (Kd.V_far (p := ⟨gb665, 0, none⟩) (Kd.V_mono HL664_5.out (fun k_ hk => (⟨hk, hk.2⟩ : _ ∧ k_ ≠ gb665))) (fun _ hk => hk.2) (.int .u32 ((rd_T31 t661 x12_1).f0.f0))) (fun _ hk => hk.2) (.int .i64 ((rd_T31 t661 x12_1).f0.f1))) (fun _ hk => hk.2) (.slice A664_2 ((rd_T31 t661 x12_1).f1).length c664_2)) (fun _ hk => hk.2) (.int .i64 ((rd_T31 t661 x12_1).f2))) (fun _ hk => hk.2) (.int .i64 ((rd_T31 t661 x12_1).f3))) (fun _ hk => hk.2) (.slice A664_5 ((rd_T31 t661 x12_1).f4).length c664_5)) (fun _ h_ => h_.1))) hb) (Kd.R_base ho0)) (Kd.R_base ho1)) (fun _ h_ => h_.1)); have n4_ := Aside0.mk (Kd.R_lower ho0 (below_size zB)); have n5_ := Aside0.mk (Kd.R_lower ho1 (below_size zB)); have n6_ := Aside0.mk (Kd.C_below ((Kd.V_reads' (by (with_reducible repeat (first | apply Kd.V_alloc | apply Kd.V_drewN | apply Kd.V_drew)); exact (Kd.V_mono (Kd.V_far (p := ⟨gb665, 5, none⟩) (Kd.V_far (p := ⟨gb665, 4, none⟩) (Kd.V_far (p := ⟨gb665, 3, none⟩) (Kd.V_far (p := ⟨gb665, 2, none⟩) (Kd.V_far (p := ⟨gb665, 1, none⟩) (Kd.V_far (p := ⟨gb665, 0, none⟩) (Kd.V_mono HL664_2.out (fun k_ hk => (⟨hk, hk.2⟩ : _ ∧ k_ ≠ gb665))) (fun _ hk => hk.2) (.int .u32 ((rd_T31 t661 x12_1).f0.f0))) (fun _ hk => hk.2) (.int .i64 ((rd_T31 t661 x12_1).f0.f1))) (fun _ hk => hk.2) (.slice A664_2 ((rd_T31 t661 x12_1).f1).length c664_2)) (fun _ hk => hk.2) (.int .i64 ((rd_T31 t661 x12_1).f2))) (fun _ hk => hk.2) (.int .i64 ((rd_T31 t661 x12_1).f3))) (fun _ hk => hk.2) (.slice A664_5 ((rd_T31 t661 x12_1).f4).length c664_5)) (fun _ h_ => h_.1)))).2.2) hb); have n7_ := Aside0.mk (Kd.C_below ((Kd.V_reads' (by (with_reducible repeat (first | apply Kd.V_alloc | apply Kd.V_drewN | apply Kd.V_drew)); exact (Kd.V_mono (Kd.V_far (p := ⟨gb665, 5, none⟩) (Kd.V_far (p := ⟨gb665, 4, none⟩) (Kd.V_far (p := ⟨gb665, 3, none⟩) (Kd.V_far (p := ⟨gb665, 2, none⟩) (Kd.V_far (p := ⟨gb665, 1, none⟩) (Kd.V_far (p := ⟨gb665, 0, none⟩) (Kd.V_mono HL664_5.out (fun k_ hk => (⟨hk, hk.2⟩ : _ ∧ k_ ≠ gb665))) (fun _ hk => hk.2) (.int .u32 ((rd_T31 t661 x12_1).f0.f0))) (fun _ hk => hk.2) (.int .i64 ((rd_T31 t661 x12_1).f0.f1))) (fun _ hk => hk.2) (.slice A664_2 ((rd_T31 t661 x12_1).f1).length c664_2)) (fun _ hk => hk.2) (.int .i64 ((rd_T31 t661 x12_1).f2))) (fun _ hk => hk.2) (.int .i64 ((rd_T31 t661 x12_1).f3))) (fun _ hk => hk.2) (.slice A664_5 ((rd_T31 t661 x12_1).f4).length c664_5)) (fun _ h_ => h_.1)))).2.2) hb); have n8_ := Aside0.mk (blk_below (g := gb665) (o := .cells #[.int .u32 ((rd_T31 t661 x12_1).f0.f0), .int .i64 ((rd_T31 t661 x12_1).f0.f1), .slice A664_2 ((rd_T31 t661 x12_1).f1).length c664_2, .int .i64 ((rd_T31 t661 x12_1).f2), .int .i64 ((rd_T31 t661 x12_1).f3), .slice A664_5 ((rd_T31 t661 x12_1).f4).length c664_5] 31 (0, 0)) (by (with_reducible repeat (first | refine blk_drewN ?_ _ | refine blk_drew ?_ | refine blk_alloc ?_ _)); refine blk_put (cs := #[.int .u32 ((rd_T31 t661 x12_1).f0.f0), .int .i64 ((rd_T31 t661 x12_1).f0.f1), .slice A664_2 ((rd_T31 t661 x12_1).f1).length c664_2, .int .i64 ((rd_T31 t661 x12_1).f2), .int .i64 ((rd_T31 t661 x12_1).f3), .slice none 0 0]) ?_ 5 _ rfl; (with_reducible repeat (first | refine blk_drewN ?_ _ | refine blk_drew ?_ | refine blk_alloc ?_ _)); refine blk_put (cs := #[.int .u32 ((rd_T31 t661 x12_1).f0.f0), .int .i64 ((rd_T31 t661 x12_1).f0.f1), .slice A664_2 ((rd_T31 t661 x12_1).f1).length c664_2, .int .i64 ((rd_T31 t661 x12_1).f2), .int .i64 0, .slice none 0 0]) ?_ 4 _ rfl; (with_reducible repeat (first | refine blk_drewN ?_ _ | refine blk_drew ?_ | refine blk_alloc ?_ _)); refine blk_put (cs := #[.int .u32 ((rd_T31 t661 x12_1).f0.f0), .int .i64 ((rd_T31 t661 x12_1).f0.f1), .slice A664_2 ((rd_T31 t661 x12_1).f1).length c664_2, .int .i64 0, .int .i64 0, .slice none 0 0]) ?_ 3 _ rfl; (with_reducible repeat (first | refine blk_drewN ?_ _ | refine blk_drew ?_ | refine blk_alloc ?_ _)); refine blk_put (cs := #[.int .u32 ((rd_T31 t661 x12_1).f0.f0), .int .i64 ((rd_T31 t661 x12_1).f0.f1), .slice none 0 0, .int .i64 0, .int .i64 0, .slice none 0 0]) ?_ 2 _ rfl; (with_reducible repeat (first | refine blk_drewN ?_ _ | refine blk_drew ?_ | refine blk_alloc ?_ _)); refine blk_put (cs := #[.int .u32 ((rd_T31 t661 x12_1).f0.f0), .int .i64 0, .slice none 0 0, .int .i64 0, .int .i64 0, .slice none 0 0]) ?_ 1 _ rfl; (with_reducible repeat (first | refine blk_drewN ?_ _ | refine blk_drew ?_ | refine blk_alloc ?_ _)); refine blk_put (cs := #[.int .u32 0, .int .i64 0, .slice none 0 0, .int .i64 0, .int .i64 0, .slice none 0 0]) ?_ 0 _ rfl; (with_reducible repeat (first | refine blk_drewN ?_ _ | refine blk_drew ?_ | refine blk_alloc ?_ _)); exact BK665.out) hb); have n9_ := Aside0.mk (below_step zB hb); clear HO_5; clear HO_10; clear HL664_2; clear HL664_5; clear HR664_2; clear HR664_5; clear BK665; clear HB; have HO_5 := n0_; have HO_10 := n1_; have HL664_2 := n2_; have HL664_5 := n3_; have HO670 := n4_; have HO675 := n5_; have HR664_2 := n6_; have HR664_5 := n7_; have BK665 := n8_; have HB := n9_; clear n0_ n1_ n2_ n3_ n4_ n5_ n6_ n7_ n8_ n9_; (try clear hb); (try clear hb2); (try clear hk); (try clear hi); (try clear ho0); (try clear ho1); have hcz14_0 : w13.cell? ⟨gb665, 0, none⟩ = some (.int .u32 ((rd_T31 t661 x12_1).f0.f0)) := zT BK665 0; have hcz14_1 : w13.cell? ⟨gb665, 1, none⟩ = some (.int .i64 ((rd_T31 t661 x12_1).f0.f1)) := zT BK665 1; have hcz14_2 : w13.cell? ⟨gb665, 2, none⟩ = some (.slice A664_2 ((rd_T31 t661 x12_1).f1).length c664_2) := zT BK665 2; have hcz14_3 : w13.cell? ⟨gb665, 3, none⟩ = some (.int .i64 ((rd_T31 t661 x12_1).f2)) := zT BK665 3; have hcz14_4 : w13.cell? ⟨gb665, 4, none⟩ = some (.int .i64 ((rd_T31 t661 x12_1).f3)) := zT BK665 4; have hcz14_5 : w13.cell? ⟨gb665, 5, none⟩ = some (.slice A664_5 ((rd_T31 t661 x12_1).f4).length c664_5) := zT BK665 5; have hfz14_0 := blk_frozen BK665.out 0; have hfz14_1 := blk_frozen BK665.out 1; have hfz14_2 := blk_frozen BK665.out 2; have hfz14_3 := blk_frozen BK665.out 3; have hfz14_4 := blk_frozen BK665.out 4; have hfz14_5 := blk_frozen BK665.out 5; obtain ⟨Ao15, co15, eo15⟩ := Kd.R_slice HO670.out; subst eo15; obtain ⟨Ao16, co16, eo16⟩ := Kd.R_slice HO675.out; subst eo16) | ((with_reducible refine gate_store (t := 31) (p := 7) rfl ?_); refine store_event (t := 31) (p := 7) (v := ?vo_w17) (w1 := ((((((w13.setCell ⟨gb665, 0, none⟩ (.int .u32 t666)).setCell ⟨gb665, 1, none⟩ (.int .i64 t667)).setCell ⟨gb665, 2, none⟩ (.slice Ao15 t668.length co15)).setCell ⟨gb665, 3, none⟩ (.int .i64 t671)).setCell ⟨gb665, 4, none⟩ (.int .i64 t672)).setCell ⟨gb665, 5, none⟩ (.slice Ao16 t673.length co16))) ?hg ?ho ?hn ?hr ?_; (case ho => rfl); (case hg => rfl); (case hn => rfl); (case hr => first | (go_simp; done) | (go_simp; rfl)); intro w17 hw; have n0_ : Aside0 (Kd.S k31 31 w17 w.heap.size (fun k_ => some k_ ≠ (.slice Ao15 t668.length co15 : Value).ownBlock ∧ some k_ ≠ (.slice Ao16 t673.length co16 : Value).ownBlock ∧ k_ ≠ gb665) u5 x5_1) := ⟨(by rw [hw]; exact (by (with_reducible repeat (first | apply Kd.S_alloc | apply Kd.S_drewN | apply Kd.S_drew)); exact Kd.S_mono (Kd.S_far (p := ⟨gb665, 5, none⟩) (Kd.S_far (p := ⟨gb665, 4, none⟩) (Kd.S_far (p := ⟨gb665, 3, none⟩) (Kd.S_far (p := ⟨gb665, 2, none⟩) (Kd.S_far (p := ⟨gb665, 1, none⟩) (Kd.S_far (p := ⟨gb665, 0, none⟩) (Kd.S_mono HO_5.out (fun k_ hk => (⟨hk, hk.1.1.2⟩ : _ ∧ k_ ≠ gb665))) (fun _ hk => hk.2) (.int .u32 t666)) (fun _ hk => hk.2) (.int .i64 t667)) (fun _ hk => hk.2) (.slice Ao15 t668.length co15)) (fun _ hk => hk.2) (.int .i64 t671)) (fun _ hk => hk.2) (.int .i64 t672)) (fun _ hk => hk.2) (.slice Ao16 t673.length co16)) (fun _ hk => ⟨hk.1.1.2, ⟨hk.1.2, hk.1.1.1.2⟩⟩)))⟩; have n1_ : Aside0 (Kd.V k31 31 w17 w.heap.size (fun k_ => some k_ ≠ (u5 : Value).ownBlock ∧ some k_ ≠ (.slice Ao15 t668.length co15 : Value).ownBlock ∧ some k_ ≠ (.slice Ao16 t673.length co16 : Value).ownBlock ∧ k_ ≠ gb665) (.slice (some ad664) t661.length co5) t661) := ⟨(by rw [hw]; exact (by (with_reducible repeat (first | apply Kd.V_alloc | apply Kd.V_drewN | apply Kd.V_drew)); exact Kd.V_mono (Kd.V_far (p := ⟨gb665, 5, none⟩) (Kd.V_far (p := ⟨gb665, 4, none⟩) (Kd.V_far (p := ⟨gb665, 3, none⟩) (Kd.V_far (p := ⟨gb665, 2, none⟩) (Kd.V_far (p := ⟨gb665, 1, none⟩) (Kd.V_far (p := ⟨gb665, 0, none⟩) (Kd.V_mono HO_10.out (fun k_ hk => (⟨hk, hk.1.1.2⟩ : _ ∧ k_ ≠ gb665))) (fun _ hk => hk.2) (.int .u32 t666)) (fun _ hk => hk.2) (.int .i64 t667)) (fun _ hk => hk.2) (.slice Ao15 t668.length co15)) (fun _ hk => hk.2) (.int .i64 t671)) (fun _ hk => hk.2) (.int .i64 t672)) (fun _ hk => hk.2) (.slice Ao16 t673.length co16)) (fun _ hk => ⟨hk.1.1.1.1, ⟨hk.1.1.2, ⟨hk.1.2, hk.1.1.1.2⟩⟩⟩)))⟩; have n2_ : Aside0 (Kd.V (Kd.int .i64) 3 w17 w.heap.size (fun k_ => some k_ ≠ (u5 : Value).ownBlock ∧ some k_ ≠ (.slice Ao15 t668.length co15 : Value).ownBlock ∧ some k_ ≠ (.slice Ao16 t673.length co16 : Value).ownBlock ∧ k_ ≠ gb665) (.slice A664_2 ((rd_T31 t661 x12_1).f1).length c664_2) ((rd_T31 t661 x12_1).f1)) := ⟨(by rw [hw]; exact (by (with_reducible repeat (first | apply Kd.V_alloc | apply Kd.V_drewN | apply Kd.V_drew)); exact Kd.V_mono (Kd.V_far (p := ⟨gb665, 5, none⟩) (Kd.V_far (p := ⟨gb665, 4, none⟩) (Kd.V_far (p := ⟨gb665, 3, none⟩) (Kd.V_far (p := ⟨gb665, 2, none⟩) (Kd.V_far (p := ⟨gb665, 1, none⟩) (Kd.V_far (p := ⟨gb665, 0, none⟩) (Kd.V_mono HL664_2.out (fun k_ hk => (⟨hk, hk.1.1.2⟩ : _ ∧ k_ ≠ gb665))) (fun _ hk => hk.2) (.int .u32 t666)) (fun _ hk => hk.2) (.int .i64 t667)) (fun _ hk => hk.2) (.slice Ao15 t668.length co15)) (fun _ hk => hk.2) (.int .i64 t671)) (fun _ hk => hk.2) (.int .i64 t672)) (fun _ hk => hk.2) (.slice Ao16 t673.length co16)) (fun _ hk => ⟨hk.1.1.1.1, ⟨hk.1.1.2, ⟨hk.1.2, hk.1.1.1.2⟩⟩⟩)))⟩; have n3_ : Aside0 (Kd.V (Kd.int .i64) 3 w17 w.heap.size (fun k_ => some k_ ≠ (u5 : Value).ownBlock ∧ some k_ ≠ (.slice Ao15 t668.length co15 : Value).ownBlock ∧ some k_ ≠ (.slice Ao16 t673.length co16 : Value).ownBlock ∧ k_ ≠ gb665) (.slice A664_5 ((rd_T31 t661 x12_1).f4).length c664_5) ((rd_T31 t661 x12_1).f4)) := ⟨(by rw [hw]; exact (by (with_reducible repeat (first | apply Kd.V_alloc | apply Kd.V_drewN | apply Kd.V_drew)); exact Kd.V_mono (Kd.V_far (p := ⟨gb665, 5, none⟩) (Kd.V_far (p := ⟨gb665, 4, none⟩) (Kd.V_far (p := ⟨gb665, 3, none⟩) (Kd.V_far (p := ⟨gb665, 2, none⟩) (Kd.V_far (p := ⟨gb665, 1, none⟩) (Kd.V_far (p := ⟨gb665, 0, none⟩) (Kd.V_mono HL664_5.out (fun k_ hk => (⟨hk, hk.1.1.2⟩ : _ ∧ k_ ≠ gb665))) (fun _ hk => hk.2) (.int .u32 t666)) (fun _ hk => hk.2) (.int .i64 t667)) (fun _ hk => hk.2) (.slice Ao15 t668.length co15)) (fun _ hk => hk.2) (.int .i64 t671)) (fun _ hk => hk.2) (.int .i64 t672)) (fun _ hk => hk.2) (.slice Ao16 t673.length co16)) (fun _ hk => ⟨hk.1.1.1.1, ⟨hk.1.1.2, ⟨hk.1.2, hk.1.1.1.2⟩⟩⟩)))⟩; have n4_ : Aside0 (Kd.R (Kd.int .i64) 3 w17 w.heap.size (fun k_ => some k_ ≠ (.slice Ao16 t673.length co16 : Value).ownBlock) (.slice Ao15 t668.length co15) t668) := ⟨(by rw [hw]; exact (by (with_reducible repeat (first | apply Kd.R_alloc | apply Kd.R_drewN | apply Kd.R_drew)); exact Kd.R_mono (Kd.R_far (p := ⟨gb665, 5, none⟩) (Kd.R_far (p := ⟨gb665, 4, none⟩) (Kd.R_far (p := ⟨gb665, 3, none⟩) (Kd.R_far (p := ⟨gb665, 2, none⟩) (Kd.R_far (p := ⟨gb665, 1, none⟩) (Kd.R_far (p := ⟨gb665, 0, none⟩) (Kd.R_types HO670.out BK665.out (by decide)) (fun _ hk => hk.2) (.int .u32 t666)) (fun _ hk => hk.2) (.int .i64 t667)) (fun _ hk => hk.2) (.slice Ao15 t668.length co15)) (fun _ hk => hk.2) (.int .i64 t671)) (fun _ hk => hk.2) (.int .i64 t672)) (fun _ hk => hk.2) (.slice Ao16 t673.length co16)) (fun _ hk => hk.1)))⟩; have n5_ : Aside0 (Kd.R (Kd.int .i64) 3 w17 w.heap.size (fun k_ => some k_ ≠ (.slice Ao15 t668.length co15 : Value).ownBlock) (.slice Ao16 t673.length co16) t673) := ⟨(by rw [hw]; exact (by (with_reducible repeat (first | apply Kd.R_alloc | apply Kd.R_drewN | apply Kd.R_drew)); exact Kd.R_mono (Kd.R_far (p := ⟨gb665, 5, none⟩) (Kd.R_far (p := ⟨gb665, 4, none⟩) (Kd.R_far (p := ⟨gb665, 3, none⟩) (Kd.R_far (p := ⟨gb665, 2, none⟩) (Kd.R_far (p := ⟨gb665, 1, none⟩) (Kd.R_far (p := ⟨gb665, 0, none⟩) (Kd.R_types HO675.out BK665.out (by decide)) (fun _ hk => hk.2) (.int .u32 t666)) (fun _ hk => hk.2) (.int .i64 t667)) (fun _ hk => hk.2) (.slice Ao15 t668.length co15)) (fun _ hk => hk.2) (.int .i64 t671)) (fun _ hk => hk.2) (.int .i64 t672)) (fun _ hk => hk.2) (.slice Ao16 t673.length co16)) (fun _ hk => hk.1)))⟩; have n6_ : Aside0 (w17.heap[gb665]? = some (.cells #[.int .u32 t666, .int .i64 t667, .slice Ao15 t668.length co15, .int .i64 t671, .int .i64 t672, .slice Ao16 t673.length co16] 31 (0, 0))) := ⟨(by rw [hw]; exact (by (with_reducible repeat (first | refine blk_drewN ?_ _ | refine blk_drew ?_ | refine blk_alloc ?_ _)); refine blk_put (cs := #[.int .u32 t666, .int .i64 t667, .slice Ao15 t668.length co15, .int .i64 t671, .int .i64 t672, .slice A664_5 ((rd_T31 t661 x12_1).f4).length c664_5]) ?_ 5 _ rfl; (with_reducible repeat (first | refine blk_drewN ?_ _ | refine blk_drew ?_ | refine blk_alloc ?_ _)); refine blk_put (cs := #[.int .u32 t666, .int .i64 t667, .slice Ao15 t668.length co15, .int .i64 t671, .int .i64 ((rd_T31 t661 x12_1).f3), .slice A664_5 ((rd_T31 t661 x12_1).f4).length c664_5]) ?_ 4 _ rfl; (with_reducible repeat (first | refine blk_drewN ?_ _ | refine blk_drew ?_ | refine blk_alloc ?_ _)); refine blk_put (cs := #[.int .u32 t666, .int .i64 t667, .slice Ao15 t668.length co15, .int .i64 ((rd_T31 t661 x12_1).f2), .int .i64 ((rd_T31 t661 x12_1).f3), .slice A664_5 ((rd_T31 t661 x12_1).f4).length c664_5]) ?_ 3 _ rfl; (with_reducible repeat (first | refine blk_drewN ?_ _ | refine blk_drew ?_ | refine blk_alloc ?_ _)); refine blk_put (cs := #[.int .u32 t666, .int .i64 t667, .slice A664_2 ((rd_T31 t661 x12_1).f1).length c664_2, .int .i64 ((rd_T31 t661 x12_1).f2), .int .i64 ((rd_T31 t661 x12_1).f3), .slice A664_5 ((rd_T31 t661 x12_1).f4).length c664_5]) ?_ 2 _ rfl; (with_reducible repeat (first | refine blk_drewN ?_ _ | refine blk_drew ?_ | refine blk_alloc ?_ _)); refine blk_put (cs := #[.int .u32 t666, .int .i64 ((rd_T31 t661 x12_1).f0.f1), .slice A664_2 ((rd_T31 t661 x12_1).f1).length c664_2, .int .i64 ((rd_T31 t661 x12_1).f2), .int .i64 ((rd_T31 t661 x12_1).f3), .slice A664_5 ((rd_T31 t661 x12_1).f4).length c664_5]) ?_ 1 _ rfl; (with_reducible repeat (first | refine blk_drewN ?_ _ | refine blk_drew ?_ | refine blk_alloc ?_ _)); refine blk_put (cs := #[.int .u32 ((rd_T31 t661 x12_1).f0.f0), .int .i64 ((rd_T31 t661 x12_1).f0.f1), .slice A664_2 ((rd_T31 t661 x12_1).f1).length c664_2, .int .i64 ((rd_T31 t661 x12_1).f2), .int .i64 ((rd_T31 t661 x12_1).f3), .slice A664_5 ((rd_T31 t661 x12_1).f4).length c664_5]) ?_ 0 _ rfl; (with_reducible repeat (first | refine blk_drewN ?_ _ | refine blk_drew ?_ | refine blk_alloc ?_ _)); exact BK665.out))⟩; have n7_ : Aside0 (Below w.heap.size w w17) := ⟨(by rw [hw]; exact zB)⟩; clear hw; clear HO_5; clear HO_10; clear HL664_2; clear HL664_5; clear HO670; clear HO675; clear BK665; clear HB; have HO_5 := n0_; have HO_10 := n1_; have HL664_2 := n2_; have HL664_5 := n3_; have HO670 := n4_; have HO675 := n5_; have BK665 := n6_; have HB := n7_; clear n0_ n1_ n2_ n3_ n4_ n5_ n6_ n7_; have hgl0_0 := zL HB GL0_0.out; have hgl0_1 := zL HB GL0_1.out; have hcz18_0 : w17.cell? ⟨gb665, 0, none⟩ = some (.int .u32 t666) := zT BK665 0; have hcz18_1 : w17.cell? ⟨gb665, 1, none⟩ = some (.int .i64 t667) := zT BK665 1; have hcz18_2 : w17.cell? ⟨gb665, 2, none⟩ = some (.slice Ao15 t668.length co15) := zT BK665 2; have hcz18_3 : w17.cell? ⟨gb665, 3, none⟩ = some (.int .i64 t671) := zT BK665 3; have hcz18_4 : w17.cell? ⟨gb665, 4, none⟩ = some (.int .i64 t672) := zT BK665 4; have hcz18_5 : w17.cell? ⟨gb665, 5, none⟩ = some (.slice Ao16 t673.length co16) := zT BK665 5; have hfz18_0 := blk_frozen BK665.out 0; have hfz18_1 := blk_frozen BK665.out 1; have hfz18_2 := blk_frozen BK665.out 2; have hfz18_3 := blk_frozen BK665.out 3; have hfz18_4 := blk_frozen BK665.out 4; have hfz18_5 := blk_frozen BK665.out 5) | ((with_reducible refine gate_store (t := 29) (p := 25) rfl ?_); refine store_event (t := 29) (p := 25) (v := ?vo_w19) (w1 := ((w17.setCell ⟨gb665, 0, none⟩ (.int .u32 167772160)).setCell ⟨gb665, 1, none⟩ (.int .i64 8))) ?hg ?ho ?hn ?hr ?_; (case ho => rfl); (case hg => rfl); (case hn => rfl); (case hr => first | (go_simp; done) | (go_simp; rfl)); intro w19 hw; have n0_ : Aside0 (Kd.S k31 31 w19 w.heap.size (fun k_ => some k_ ≠ (.slice Ao15 t668.length co15 : Value).ownBlock ∧ some k_ ≠ (.slice Ao16 t673.length co16 : Value).ownBlock ∧ k_ ≠ gb665) u5 x5_1) := ⟨(by rw [hw]; exact (by (with_reducible repeat (first | apply Kd.S_alloc | apply Kd.S_drewN | apply Kd.S_drew)); exact Kd.S_mono (Kd.S_far (p := ⟨gb665, 1, none⟩) (Kd.S_far (p := ⟨gb665, 0, none⟩) (Kd.S_mono HO_5.out (fun k_ hk => (⟨hk, hk.2.2⟩ : _ ∧ k_ ≠ gb665))) (fun _ hk => hk.2) (.int .u32 167772160)) (fun _ hk => hk.2) (.int .i64 8)) (fun _ hk => ⟨hk.1.1, ⟨hk.1.2.1, hk.1.2.2⟩⟩)))⟩; have n1_ : Aside0 (Kd.V k31 31 w19 w.heap.size (fun k_ => some k_ ≠ (u5 : Value).ownBlock ∧ some k_ ≠ (.slice Ao15 t668.length co15 : Value).ownBlock ∧ some k_ ≠ (.slice Ao16 t673.length co16 : Value).ownBlock ∧ k_ ≠ gb665) (.slice (some ad664) t661.length co5) t661) := ⟨(by rw [hw]; exact (by (with_reducible repeat (first | apply Kd.V_alloc | apply Kd.V_drewN | apply Kd.V_drew)); exact Kd.V_mono (Kd.V_far (p := ⟨gb665, 1, none⟩) (Kd.V_far (p := ⟨gb665, 0, none⟩) (Kd.V_mono HO_10.out (fun k_ hk => (⟨hk, hk.2.2.2⟩ : _ ∧ k_ ≠ gb665))) (fun _ hk => hk.2) (.int .u32 167772160)) (fun _ hk => hk.2) (.int .i64 8)) (fun _ hk => ⟨hk.1.1, ⟨hk.1.2.1, ⟨hk.1.2.2.1, hk.1.2.2.2⟩⟩⟩)))⟩; have n2_ : Aside0 (Kd.V (Kd.int .i64) 3 w19 w.heap.size (fun k_ => some k_ ≠ (u5 : Value).ownBlock ∧ some k_ ≠ (.slice Ao15 t668.length co15 : Value).ownBlock ∧ some k_ ≠ (.slice Ao16 t673.length co16 : Value).ownBlock ∧ k_ ≠ gb665) (.slice A664_2 ((rd_T31 t661 x12_1).f1).length c664_2) ((rd_T31 t661 x12_1).f1)) := ⟨(by rw [hw]; exact (by (with_reducible repeat (first | apply Kd.V_alloc | apply Kd.V_drewN | apply Kd.V_drew)); exact Kd.V_mono (Kd.V_far (p := ⟨gb665, 1, none⟩) (Kd.V_far (p := ⟨gb665, 0, none⟩) (Kd.V_mono HL664_2.out (fun k_ hk => (⟨hk, hk.2.2.2⟩ : _ ∧ k_ ≠ gb665))) (fun _ hk => hk.2) (.int .u32 167772160)) (fun _ hk => hk.2) (.int .i64 8)) (fun _ hk => ⟨hk.1.1, ⟨hk.1.2.1, ⟨hk.1.2.2.1, hk.1.2.2.2⟩⟩⟩)))⟩; have n3_ : Aside0 (Kd.V (Kd.int .i64) 3 w19 w.heap.size (fun k_ => some k_ ≠ (u5 : Value).ownBlock ∧ some k_ ≠ (.slice Ao15 t668.length co15 : Value).ownBlock ∧ some k_ ≠ (.slice Ao16 t673.length co16 : Value).ownBlock ∧ k_ ≠ gb665) (.slice A664_5 ((rd_T31 t661 x12_1).f4).length c664_5) ((rd_T31 t661 x12_1).f4)) := ⟨(by rw [hw]; exact (by (with_reducible repeat (first | apply Kd.V_alloc | apply Kd.V_drewN | apply Kd.V_drew)); exact Kd.V_mono (Kd.V_far (p := ⟨gb665, 1, none⟩) (Kd.V_far (p := ⟨gb665, 0, none⟩) (Kd.V_mono HL664_5.out (fun k_ hk => (⟨hk, hk.2.2.2⟩ : _ ∧ k_ ≠ gb665))) (fun _ hk => hk.2) (.int .u32 167772160)) (fun _ hk => hk.2) (.int .i64 8)) (fun _ hk => ⟨hk.1.1, ⟨hk.1.2.1, ⟨hk.1.2.2.1, hk.1.2.2.2⟩⟩⟩)))⟩; have n4_ : Aside0 (Kd.R (Kd.int .i64) 3 w19 w.heap.size (fun k_ => some k_ ≠ (.slice Ao16 t673.length co16 : Value).ownBlock) (.slice Ao15 t668.length co15) t668) := ⟨(by rw [hw]; exact (by (with_reducible repeat (first | apply Kd.R_alloc | apply Kd.R_drewN | apply Kd.R_drew)); exact Kd.R_mono (Kd.R_far (p := ⟨gb665, 1, none⟩) (Kd.R_far (p := ⟨gb665, 0, none⟩) (Kd.R_types HO670.out BK665.out (by decide)) (fun _ hk => hk.2) (.int .u32 167772160)) (fun _ hk => hk.2) (.int .i64 8)) (fun _ hk => hk.1)))⟩; have n5_ : Aside0 (Kd.R (Kd.int .i64) 3 w19 w.heap.size (fun k_ => some k_ ≠ (.slice Ao15 t668.length co15 : Value).ownBlock) (.slice Ao16 t673.length co16) t673) := ⟨(by rw [hw]; exact (by (with_reducible repeat (first | apply Kd.R_alloc | apply Kd.R_drewN | apply Kd.R_drew)); exact Kd.R_mono (Kd.R_far (p := ⟨gb665, 1, none⟩) (Kd.R_far (p := ⟨gb665, 0, none⟩) (Kd.R_types HO675.out BK665.out (by decide)) (fun _ hk => hk.2) (.int .u32 167772160)) (fun _ hk => hk.2) (.int .i64 8)) (fun _ hk => hk.1)))⟩; have n6_ : Aside0 (w19.heap[gb665]? = some (.cells #[.int .u32 167772160, .int .i64 8, .slice Ao15 t668.length co15, .int .i64 t671, .int .i64 t672, .slice Ao16 t673.length co16] 31 (0, 0))) := ⟨(by rw [hw]; exact (by (with_reducible repeat (first | refine blk_drewN ?_ _ | refine blk_drew ?_ | refine blk_alloc ?_ _)); refine blk_put (cs := #[.int .u32 167772160, .int .i64 t667, .slice Ao15 t668.length co15, .int .i64 t671, .int .i64 t672, .slice Ao16 t673.length co16]) ?_ 1 _ rfl; (with_reducible repeat (first | refine blk_drewN ?_ _ | refine blk_drew ?_ | refine blk_alloc ?_ _)); refine blk_put (cs := #[.int .u32 t666, .int .i64 t667, .slice Ao15 t668.length co15, .int .i64 t671, .int .i64 t672, .slice Ao16 t673.length co16]) ?_ 0 _ rfl; (with_reducible repeat (first | refine blk_drewN ?_ _ | refine blk_drew ?_ | refine blk_alloc ?_ _)); exact BK665.out))⟩; have n7_ : Aside0 (Below w.heap.size w w19) := ⟨(by rw [hw]; exact zB)⟩; clear hw; clear HO_5; clear HO_10; clear HL664_2; clear HL664_5; clear HO670; clear HO675; clear BK665; clear HB; have HO_5 := n0_; have HO_10 := n1_; have HL664_2 := n2_; have HL664_5 := n3_; have HO670 := n4_; have HO675 := n5_; have BK665 := n6_; have HB := n7_; clear n0_ n1_ n2_ n3_ n4_ n5_ n6_ n7_; have hcz20_0 : w19.cell? ⟨gb665, 0, none⟩ = some (.int .u32 167772160) := zT BK665 0; have hcz20_1 : w19.cell? ⟨gb665, 1, none⟩ = some (.int .i64 8) := zT BK665 1; have hcz20_2 : w19.cell? ⟨gb665, 2, none⟩ = some (.slice Ao15 t668.length co15) := zT BK665 2; have hcz20_3 : w19.cell? ⟨gb665, 3, none⟩ = some (.int .i64 t671) := zT BK665 3; have hcz20_4 : w19.cell? ⟨gb665, 4, none⟩ = some (.int .i64 t672) := zT BK665 4; have hcz20_5 : w19.cell? ⟨gb665, 5, none⟩ = some (.slice Ao16 t673.length co16) := zT BK665 5; have hfz20_0 := blk_frozen BK665.out 0; have hfz20_1 := blk_frozen BK665.out 1; have hfz20_2 := blk_frozen BK665.out 2; have hfz20_3 := blk_frozen BK665.out 3; have hfz20_4 := blk_frozen BK665.out 4; have hfz20_5 := blk_frozen BK665.out 5) | ((with_reducible refine gate_store (t := 3) (p := 26) rfl ?_); refine store_event (t := 3) (p := 26) (v := ?vo_w21) (w1 := (w19.setCell ⟨gb665, 3, none⟩ (.int .i64 (Go.bits .and .i64 t671 1)))) ?hg ?ho ?hn ?hr ?_; (case ho => rfl); (case hg => rfl); (case hn => rfl); (case hr => first | (go_simp; done) | (go_simp; rfl)); intro w21 hw; have n0_ : Aside0 (Kd.S k31 31 w21 w.heap.size (fun k_ => some k_ ≠ (.slice Ao15 t668.length co15 : Value).ownBlock ∧ some k_ ≠ (.slice Ao16 t673.length co16 : Value).ownBlock ∧ k_ ≠ gb665) u5 x5_1) := ⟨(by rw [hw]; exact (by (with_reducible repeat (first | apply Kd.S_alloc | apply Kd.S_drewN | apply Kd.S_drew)); exact Kd.S_mono (Kd.S_far (p := ⟨gb665, 3, none⟩) (Kd.S_mono HO_5.out (fun k_ hk => (⟨hk, hk.2.2⟩ : _ ∧ k_ ≠ gb665))) (fun _ hk => hk.2) (.int .i64 (Go.bits .and .i64 t671 1))) (fun _ hk => ⟨hk.1.1, ⟨hk.1.2.1, hk.1.2.2⟩⟩)))⟩; have n1_ : Aside0 (Kd.V k31 31 w21 w.heap.size (fun k_ => some k_ ≠ (u5 : Value).ownBlock ∧ some k_ ≠ (.slice Ao15 t668.length co15 : Value).ownBlock ∧ some k_ ≠ (.slice Ao16 t673.length co16 : Value).ownBlock ∧ k_ ≠ gb665) (.slice (some ad664) t661.length co5) t661) := ⟨(by rw [hw]; exact (by (with_reducible repeat (first | apply Kd.V_alloc | apply Kd.V_drewN | apply Kd.V_drew)); exact Kd.V_mono (Kd.V_far (p := ⟨gb665, 3, none⟩) (Kd.V_mono HO_10.out (fun k_ hk => (⟨hk, hk.2.2.2⟩ : _ ∧ k_ ≠ gb665))) (fun _ hk => hk.2) (.int .i64 (Go.bits .and .i64 t671 1))) (fun _ hk => ⟨hk.1.1, ⟨hk.1.2.1, ⟨hk.1.2.2.1, hk.1.2.2.2⟩⟩⟩)))⟩; have n2_ : Aside0 (Kd.V (Kd.int .i64) 3 w21 w.heap.size (fun k_ => some k_ ≠ (u5 : Value).ownBlock ∧ some k_ ≠ (.slice Ao15 t668.length co15 : Value).ownBlock ∧ some k_ ≠ (.slice Ao16 t673.length co16 : Value).ownBlock ∧ k_ ≠ gb665) (.slice A664_2 ((rd_T31 t661 x12_1).f1).length c664_2) ((rd_T31 t661 x12_1).f1)) := ⟨(by rw [hw]; exact (by (with_reducible repeat (first | apply Kd.V_alloc | apply Kd.V_drewN | apply Kd.V_drew)); exact Kd.V_mono (Kd.V_far (p := ⟨gb665, 3, none⟩) (Kd.V_mono HL664_2.out (fun k_ hk => (⟨hk, hk.2.2.2⟩ : _ ∧ k_ ≠ gb665))) (fun _ hk => hk.2) (.int .i64 (Go.bits .and .i64 t671 1))) (fun _ hk => ⟨hk.1.1, ⟨hk.1.2.1, ⟨hk.1.2.2.1, hk.1.2.2.2⟩⟩⟩)))⟩; have n3_ : Aside0 (Kd.V (Kd.int .i64) 3 w21 w.heap.size (fun k_ => some k_ ≠ (u5 : Value).ownBlock ∧ some k_ ≠ (.slice Ao15 t668.length co15 : Value).ownBlock ∧ some k_ ≠ (.slice Ao16 t673.length co16 : Value).ownBlock ∧ k_ ≠ gb665) (.slice A664_5 ((rd_T31 t661 x12_1).f4).length c664_5) ((rd_T31 t661 x12_1).f4)) := ⟨(by rw [hw]; exact (by (with_reducible repeat (first | apply Kd.V_alloc | apply Kd.V_drewN | apply Kd.V_drew)); exact Kd.V_mono (Kd.V_far (p := ⟨gb665, 3, none⟩) (Kd.V_mono HL664_5.out (fun k_ hk => (⟨hk, hk.2.2.2⟩ : _ ∧ k_ ≠ gb665))) (fun _ hk => hk.2) (.int .i64 (Go.bits .and .i64 t671 1))) (fun _ hk => ⟨hk.1.1, ⟨hk.1.2.1, ⟨hk.1.2.2.1, hk.1.2.2.2⟩⟩⟩)))⟩; have n4_ : Aside0 (Kd.R (Kd.int .i64) 3 w21 w.heap.size (fun k_ => some k_ ≠ (.slice Ao16 t673.length co16 : Value).ownBlock) (.slice Ao15 t668.length co15) t668) := ⟨(by rw [hw]; exact (by (with_reducible repeat (first | apply Kd.R_alloc | apply Kd.R_drewN | apply Kd.R_drew)); exact Kd.R_mono (Kd.R_far (p := ⟨gb665, 3, none⟩) (Kd.R_types HO670.out BK665.out (by decide)) (fun _ hk => hk.2) (.int .i64 (Go.bits .and .i64 t671 1))) (fun _ hk => hk.1)))⟩; have n5_ : Aside0 (Kd.R (Kd.int .i64) 3 w21 w.heap.size (fun k_ => some k_ ≠ (.slice Ao15 t668.length co15 : Value).ownBlock) (.slice Ao16 t673.length co16) t673) := ⟨(by rw [hw]; exact (by (with_reducible repeat (first | apply Kd.R_alloc | apply Kd.R_drewN | apply Kd.R_drew)); exact Kd.R_mono (Kd.R_far (p := ⟨gb665, 3, none⟩) (Kd.R_types HO675.out BK665.out (by decide)) (fun _ hk => hk.2) (.int .i64 (Go.bits .and .i64 t671 1))) (fun _ hk => hk.1)))⟩; have n6_ : Aside0 (w21.heap[gb665]? = some (.cells #[.int .u32 167772160, .int .i64 8, .slice Ao15 t668.length co15, .int .i64 (Go.bits .and .i64 t671 1), .int .i64 t672, .slice Ao16 t673.length co16] 31 (0, 0))) := ⟨(by rw [hw]; exact (by (with_reducible repeat (first | refine blk_drewN ?_ _ | refine blk_drew ?_ | refine blk_alloc ?_ _)); refine blk_put (cs := #[.int .u32 167772160, .int .i64 8, .slice Ao15 t668.length co15, .int .i64 t671, .int .i64 t672, .slice Ao16 t673.length co16]) ?_ 3 _ rfl; (with_reducible repeat (first | refine blk_drewN ?_ _ | refine blk_drew ?_ | refine blk_alloc ?_ _)); exact BK665.out))⟩; have n7_ : Aside0 (Below w.heap.size w w21) := ⟨(by rw [hw]; exact zB)⟩; clear hw; clear HO_5; clear HO_10; clear HL664_2; clear HL664_5; clear HO670; clear HO675; clear BK665; clear HB; have HO_5 := n0_; have HO_10 := n1_; have HL664_2 := n2_; have HL664_5 := n3_; have HO670 := n4_; have HO675 := n5_; have BK665 := n6_; have HB := n7_; clear n0_ n1_ n2_ n3_ n4_ n5_ n6_ n7_; have hcz22_0 : w21.cell? ⟨gb665, 0, none⟩ = some (.int .u32 167772160) := zT BK665 0; have hcz22_1 : w21.cell? ⟨gb665, 1, none⟩ = some (.int .i64 8) := zT BK665 1; have hcz22_2 : w21.cell? ⟨gb665, 2, none⟩ = some (.slice Ao15 t668.length co15) := zT BK665 2; have hcz22_3 : w21.cell? ⟨gb665, 3, none⟩ = some (.int .i64 (Go.bits .and .i64 t671 1)) := zT BK665 3; have hcz22_4 : w21.cell? ⟨gb665, 4, none⟩ = some (.int .i64 t672) := zT BK665 4; have hcz22_5 : w21.cell? ⟨gb665, 5, none⟩ = some (.slice Ao16 t673.length co16) := zT BK665 5; have hfz22_0 := blk_frozen BK665.out 0; have hfz22_1 := blk_frozen BK665.out 1; have hfz22_2 := blk_frozen BK665.out 2; have hfz22_3 := blk_frozen BK665.out 3; have hfz22_4 := blk_frozen BK665.out 4; have hfz22_5 := blk_frozen BK665.out 5) | ((with_reducible refine gate_store (t := 3) (p := 27) rfl ?_); refine store_event (t := 3) (p := 27) (v := ?vo_w23) (w1 := (w21.setCell ⟨gb665, 4, none⟩ (.int .i64 (Go.bits .and .i64 t672 3)))) ?hg ?ho ?hn ?hr ?_; (case ho => rfl); (case hg => rfl); (case hn => rfl); (case hr => first | (go_simp; done) | (go_simp; rfl)); intro w23 hw; have n0_ : Aside0 (Kd.S k31 31 w23 w.heap.size (fun k_ => some k_ ≠ (.slice Ao15 t668.length co15 : Value).ownBlock ∧ some k_ ≠ (.slice Ao16 t673.length co16 : Value).ownBlock ∧ k_ ≠ gb665) u5 x5_1) := ⟨(by rw [hw]; exact (by (with_reducible repeat (first | apply Kd.S_alloc | apply Kd.S_drewN | apply Kd.S_drew)); exact Kd.S_mono (Kd.S_far (p := ⟨gb665, 4, none⟩) (Kd.S_mono HO_5.out (fun k_ hk => (⟨hk, hk.2.2⟩ : _ ∧ k_ ≠ gb665))) (fun _ hk => hk.2) (.int .i64 (Go.bits .and .i64 t672 3))) (fun _ hk => ⟨hk.1.1, ⟨hk.1.2.1, hk.1.2.2⟩⟩)))⟩; have n1_ : Aside0 (Kd.V k31 31 w23 w.heap.size (fun k_ => some k_ ≠ (u5 : Value).ownBlock ∧ some k_ ≠ (.slice Ao15 t668.length co15 : Value).ownBlock ∧ some k_ ≠ (.slice Ao16 t673.length co16 : Value).ownBlock ∧ k_ ≠ gb665) (.slice (some ad664) t661.length co5) t661) := ⟨(by rw [hw]; exact (by (with_reducible repeat (first | apply Kd.V_alloc | apply Kd.V_drewN | apply Kd.V_drew)); exact Kd.V_mono (Kd.V_far (p := ⟨gb665, 4, none⟩) (Kd.V_mono HO_10.out (fun k_ hk => (⟨hk, hk.2.2.2⟩ : _ ∧ k_ ≠ gb665))) (fun _ hk => hk.2) (.int .i64 (Go.bits .and .i64 t672 3))) (fun _ hk => ⟨hk.1.1, ⟨hk.1.2.1, ⟨hk.1.2.2.1, hk.1.2.2.2⟩⟩⟩)))⟩; have n2_ : Aside0 (Kd.V (Kd.int .i64) 3 w23 w.heap.size (fun k_ => some k_ ≠ (u5 : Value).ownBlock ∧ some k_ ≠ (.slice Ao15 t668.length co15 : Value).ownBlock ∧ some k_ ≠ (.slice Ao16 t673.length co16 : Value).ownBlock ∧ k_ ≠ gb665) (.slice A664_2 ((rd_T31 t661 x12_1).f1).length c664_2) ((rd_T31 t661 x12_1).f1)) := ⟨(by rw [hw]; exact (by (with_reducible repeat (first | apply Kd.V_alloc | apply Kd.V_drewN | apply Kd.V_drew)); exact Kd.V_mono (Kd.V_far (p := ⟨gb665, 4, none⟩) (Kd.V_mono HL664_2.out (fun k_ hk => (⟨hk, hk.2.2.2⟩ : _ ∧ k_ ≠ gb665))) (fun _ hk => hk.2) (.int .i64 (Go.bits .and .i64 t672 3))) (fun _ hk => ⟨hk.1.1, ⟨hk.1.2.1, ⟨hk.1.2.2.1, hk.1.2.2.2⟩⟩⟩)))⟩; have n3_ : Aside0 (Kd.V (Kd.int .i64) 3 w23 w.heap.size (fun k_ => some k_ ≠ (u5 : Value).ownBlock ∧ some k_ ≠ (.slice Ao15 t668.length co15 : Value).ownBlock ∧ some k_ ≠ (.slice Ao16 t673.length co16 : Value).ownBlock ∧ k_ ≠ gb665) (.slice A664_5 ((rd_T31 t661 x12_1).f4).length c664_5) ((rd_T31 t661 x12_1).f4)) := ⟨(by rw [hw]; exact (by (with_reducible repeat (first | apply Kd.V_alloc | apply Kd.V_drewN | apply Kd.V_drew)); exact Kd.V_mono (Kd.V_far (p := ⟨gb665, 4, none⟩) (Kd.V_mono HL664_5.out (fun k_ hk => (⟨hk, hk.2.2.2⟩ : _ ∧ k_ ≠ gb665))) (fun _ hk => hk.2) (.int .i64 (Go.bits .and .i64 t672 3))) (fun _ hk => ⟨hk.1.1, ⟨hk.1.2.1, ⟨hk.1.2.2.1, hk.1.2.2.2⟩⟩⟩)))⟩; have n4_ : Aside0 (Kd.R (Kd.int .i64) 3 w23 w.heap.size (fun k_ => some k_ ≠ (.slice Ao16 t673.length co16 : Value).ownBlock) (.slice Ao15 t668.length co15) t668) := ⟨(by rw [hw]; exact (by (with_reducible repeat (first | apply Kd.R_alloc | apply Kd.R_drewN | apply Kd.R_drew)); exact Kd.R_mono (Kd.R_far (p := ⟨gb665, 4, none⟩) (Kd.R_types HO670.out BK665.out (by decide)) (fun _ hk => hk.2) (.int .i64 (Go.bits .and .i64 t672 3))) (fun _ hk => hk.1)))⟩; have n5_ : Aside0 (Kd.R (Kd.int .i64) 3 w23 w.heap.size (fun k_ => some k_ ≠ (.slice Ao15 t668.length co15 : Value).ownBlock) (.slice Ao16 t673.length co16) t673) := ⟨(by rw [hw]; exact (by (with_reducible repeat (first | apply Kd.R_alloc | apply Kd.R_drewN | apply Kd.R_drew)); exact Kd.R_mono (Kd.R_far (p := ⟨gb665, 4, none⟩) (Kd.R_types HO675.out BK665.out (by decide)) (fun _ hk => hk.2) (.int .i64 (Go.bits .and .i64 t672 3))) (fun _ hk => hk.1)))⟩; have n6_ : Aside0 (w23.heap[gb665]? = some (.cells #[.int .u32 167772160, .int .i64 8, .slice Ao15 t668.length co15, .int .i64 (Go.bits .and .i64 t671 1), .int .i64 (Go.bits .and .i64 t672 3), .slice Ao16 t673.length co16] 31 (0, 0))) := ⟨(by rw [hw]; exact (by (with_reducible repeat (first | refine blk_drewN ?_ _ | refine blk_drew ?_ | refine blk_alloc ?_ _)); refine blk_put (cs := #[.int .u32 167772160, .int .i64 8, .slice Ao15 t668.length co15, .int .i64 (Go.bits .and .i64 t671 1), .int .i64 t672, .slice Ao16 t673.length co16]) ?_ 4 _ rfl; (with_reducible repeat (first | refine blk_drewN ?_ _ | refine blk_drew ?_ | refine blk_alloc ?_ _)); exact BK665.out))⟩; have n7_ : Aside0 (Below w.heap.size w w23) := ⟨(by rw [hw]; exact zB)⟩; clear hw; clear HO_5; clear HO_10; clear HL664_2; clear HL664_5; clear HO670; clear HO675; clear BK665; clear HB; have HO_5 := n0_; have HO_10 := n1_; have HL664_2 := n2_; have HL664_5 := n3_; have HO670 := n4_; have HO675 := n5_; have BK665 := n6_; have HB := n7_; clear n0_ n1_ n2_ n3_ n4_ n5_ n6_ n7_; have hcz24_0 : w23.cell? ⟨gb665, 0, none⟩ = some (.int .u32 167772160) := zT BK665 0; have hcz24_1 : w23.cell? ⟨gb665, 1, none⟩ = some (.int .i64 8) := zT BK665 1; have hcz24_2 : w23.cell? ⟨gb665, 2, none⟩ = some (.slice Ao15 t668.length co15) := zT BK665 2; have hcz24_3 : w23.cell? ⟨gb665, 3, none⟩ = some (.int .i64 (Go.bits .and .i64 t671 1)) := zT BK665 3; have hcz24_4 : w23.cell? ⟨gb665, 4, none⟩ = some (.int .i64 (Go.bits .and .i64 t672 3)) := zT BK665 4; have hcz24_5 : w23.cell? ⟨gb665, 5, none⟩ = some (.slice Ao16 t673.length co16) := zT BK665 5; have hfz24_0 := blk_frozen BK665.out 0; have hfz24_1 := blk_frozen BK665.out 1; have hfz24_2 := blk_frozen BK665.out 2; have hfz24_3 := blk_frozen BK665.out 3; have hfz24_4 := blk_frozen BK665.out 4; have hfz24_5 := blk_frozen BK665.out 5) | ((with_reducible refine gate_builtin (b := .append) (xs := #[.tmp 28, .tmp 30]) rfl ?_); at_builtin; refine Kd.S_append k31 (w0 := w) w.heap.size rfl (.tmp 28) (.tmp 30) 22 31 (.agg #[(.int .u32 0), (.int .i64 0), (.slice none 0 0), (.int .i64 0), (.int .i64 0), (.slice none 0 0)]) 80 rfl Tryd.underlying22 info31 rfl (by decide) (by omega) u5 x5_1 (⟨(⟨167772160, 8⟩ : S29), t668, Go.bits .and .i64 t671 1, Go.bits .and .i64 t672 3, t673⟩ : S31) [.int .u32 167772160, .int .i64 8, .slice Ao15 t668.length co15, .int .i64 (Go.bits .and .i64 t671 1), .int .i64 (Go.bits .and .i64 t672 3), .slice Ao16 t673.length co16] (fun k_ => k_ ≠ gb665) (fun k_ => some k_ = (.slice Ao15 t668.length co15 : Value).ownBlock ∨ some k_ = (.slice Ao16 t673.length co16 : Value).ownBlock) rfl rfl ?aP (fun k_ hk_ => hk_.elim (fun h_ => ((Kd.R_mono (ok' := fun k_ => ((fun k_ => k_ ≠ gb665)) k_ ∧ some k_ ≠ (u5 : Value).ownBlock) (Kd.R_types (Kd.R_apart' (HO670.out) (Kd.S_typed HO_5.out) (by decide)) BK665.out (by decide)) (fun k_ hk => ⟨hk.2, hk.1.2⟩))).1 k_ h_.symm) (fun h_ => ((Kd.R_mono (ok' := fun k_ => ((fun k_ => k_ ≠ gb665)) k_ ∧ some k_ ≠ (u5 : Value).ownBlock) (Kd.R_types (Kd.R_apart' (HO675.out) (Kd.S_typed HO_5.out) (by decide)) BK665.out (by decide)) (fun k_ hk => ⟨hk.2, hk.1.2⟩))).1 k_ h_.symm)) ?aF ?aO ?aB ?aS ?aL ?_; (case aP => exact k31_mkM _ _ _ (⟨(⟨167772160, 8⟩ : S29), t668, Go.bits .and .i64 t671 1, Go.bits .and .i64 t672 3, t673⟩ : S31) (Kd.R_mono (Kd.R_tight rfl (Kd.R_mono (ok' := fun k_ => ((fun k_ => k_ ≠ gb665)) k_ ∧ some k_ ≠ (u5 : Value).ownBlock) (Kd.R_types (Kd.R_apart' (HO670.out) (Kd.S_typed HO_5.out) (by decide)) BK665.out (by decide)) (fun k_ hk => ⟨hk.2, hk.1.2⟩))) (fun _ h_ => Or.inl h_)) (Kd.R_mono (Kd.R_tight rfl (Kd.R_mono (ok' := fun k_ => ((fun k_ => k_ ≠ gb665)) k_ ∧ some k_ ≠ (u5 : Value).ownBlock) (Kd.R_types (Kd.R_apart' (HO675.out) (Kd.S_typed HO_5.out) (by decide)) BK665.out (by decide)) (fun k_ hk => ⟨hk.2, hk.1.2⟩))) (fun _ h_ => Or.inr (h_)))); (case aB => exact zB); (case aF => exact (fun k_ hk => Kd.freshB (g := gb665) (o := .cells #[.int .u32 167772160, .int .i64 8, .slice Ao15 t668.length co15, .int .i64 (Go.bits .and .i64 t671 1), .int .i64 (Go.bits .and .i64 t672 3), .slice Ao16 t673.length co16] 31 (0, 0)) (zK BK665) k_ hk)); (case aO => exact (by (with_reducible repeat (first | apply Kd.S_alloc | apply Kd.S_drewN | apply Kd.S_drew)); exact Kd.S_mono HO_5.out (fun k_ hk => ⟨hk.2.2, fun e_ => e_.elim (fun h_ => hk.1 h_) (fun h_ => hk.2.1 h_)⟩))); (case aS => exact (below_size zB)); (case aL => have := LMc10.out; omega); intro v677 w25 ho hb hg hat; rw [← Ny676.out] at ho; have n0_ := Aside0.mk (Kd.V_afterv (ok := (fun k_ => some k_ ≠ (.slice Ao15 t668.length co15 : Value).ownBlock ∧ some k_ ≠ (.slice Ao16 t673.length co16 : Value).ownBlock ∧ k_ ≠ gb665)) (by (with_reducible repeat (first | apply Kd.V_alloc | apply Kd.V_drewN | apply Kd.V_drew)); exact Kd.V_mono HO_10.out (fun _ hk => ⟨⟨hk.2.1, ⟨hk.2.2.1, hk.2.2.2⟩⟩, hk.1⟩)) hg hat); have n1_ := Aside0.mk (Kd.V_afterv (ok := (fun k_ => some k_ ≠ (.slice Ao15 t668.length co15 : Value).ownBlock ∧ some k_ ≠ (.slice Ao16 t673.length co16 : Value).ownBlock ∧ k_ ≠ gb665)) (by (with_reducible repeat (first | apply Kd.V_alloc | apply Kd.V_drewN | apply Kd.V_drew)); exact Kd.V_mono HL664_2.out (fun _ hk => ⟨⟨hk.2.1, ⟨hk.2.2.1, hk.2.2.2⟩⟩, hk.1⟩)) hg hat); have n2_ := Aside0.mk (Kd.V_afterv (ok := (fun k_ => some k_ ≠ (.slice Ao15 t668.length co15 : Value).ownBlock ∧ some k_ ≠ (.slice Ao16 t673.length co16 : Value).ownBlock ∧ k_ ≠ gb665)) (by (with_reducible repeat (first | apply Kd.V_alloc | apply Kd.V_drewN | apply Kd.V_drew)); exact Kd.V_mono HL664_5.out (fun _ hk => ⟨⟨hk.2.1, ⟨hk.2.2.1, hk.2.2.2⟩⟩, hk.1⟩)) hg hat); have n3_ := Aside0.mk (blk_grown (g := gb665) (o := .cells #[.int .u32 167772160, .int .i64 8, .slice Ao15 t668.length co15, .int .i64 (Go.bits .and .i64 t671 1), .int .i64 (Go.bits .and .i64 t672 3), .slice Ao16 t673.length co16] 31 (0, 0)) (zK BK665) hg (Kd.S_away HO_5.out (fun _ hk => hk.2.2))); have n4_ := Aside0.mk (hb); have n5_ := Aside0.mk (ho); clear HO_10; clear HL664_2; clear HL664_5; clear BK665; clear HB; clear HO_5; clear HO670; clear HO675; have HO_10 := n0_; have HL664_2 := n1_; have HL664_5 := n2_; have BK665 := n3_; have HB := n4_; have HO678 := n5_; clear n0_ n1_ n2_ n3_ n4_ n5_; clear ho hb hg hat))
 go_roundg k1
 case measure => have := HK1.out; omega
 case rel => exact ⟨(y676), (wrap64 (x12_1 + 1)), zR, H', ⟨by have := HK1.out; omega⟩, ⟨by (with_reducible repeat (first | apply Kd.S_alloc | apply Kd.S_drewN | apply Kd.S_drew)); exact Kd.S_mono HO678.out (fun _ hk => trivial)⟩, ⟨by (with_reducible repeat (first | apply Kd.V_alloc | apply Kd.V_drewN | apply Kd.V_drew)); exact Kd.V_mono HO_10.out (fun _ hk => hk.2)⟩, ⟨zB⟩⟩
/-! ### g27_: function 20 -/
def g27_.f (l0 : List (S31)) : Option ((List (S31))) := (some (([] : List (S31)) : List (S31))).bind fun y683 => (if y683.length + l0.length < 1759218604441 then (some (y683 ++ l0)) else (none))
set_option maxHeartbeats 8000000 in
set_option maxRecDepth 100000 in
theorem g27_.calls (P0_ : Nat → Prop) (A0 : Option Addr) (c0 : Nat) (l0 : List (S31)) (r : List (S31)) (w : World) (hs0 : Kd.V k31 31 w w.heap.size (fun k_ => P0_ k_) (.slice A0 l0.length c0) l0) (h : g27_.f l0 = some r) :
 Calls Tryd.prog 20 #[.slice A0 l0.length c0] w fun e w' => ∃ v0_ : Value, e = .returned (v0_) ∧ Kd.N k31 31 w' w.heap.size (fun k_ => (P0_ k_ ∨ w.heap.size ≤ k_)) v0_ r ∧ Below w.heap.size w w' := by
 have HO0 := Aside0.mk (show Kd.V k31 31 w w.heap.size (fun k_ => (P0_ k_ ∨ w.heap.size ≤ k_)) (.slice A0 l0.length c0) l0 from Kd.V_mono hs0 (fun k_ hk => .inl hk))
 have HB := Aside0.mk (Below.refl w.heap.size w)
 have H : ((some (([] : List (S31)) : List (S31))).bind fun y683 => (if y683.length + l0.length < 1759218604441 then (some (y683 ++ l0)) else (none))) = some r := h
 clear h
 cases A0 with
 | none =>
  have hl_ : l0 = [] := by
   obtain ⟨_, _, h3_⟩ := (Kd.V_reads' HO0.out).2.2
   rcases Nat.eq_zero_or_pos l0.length with h_ | h_
   · exact List.eq_nil_of_length_eq_zero h_
   · obtain ⟨_, e_, _⟩ := h3_ h_; cases e_
  subst hl_
  obtain rfl : r = [] := by
   simp only [Option.bind_some, List.length_nil, Nat.add_zero, List.append_nil] at H
   rw [if_pos (by omega)] at H
   exact (Option.some.inj H).symm
  go_enter Tryd.func20, Tryd.ntmps20
  have hnil_ := fun (w : World) => Lib.run_eql_slice_nil (P := Tryd.prog) w 22 31 none 0 c0 0 0 Tryd.underlying22
  go_wp2
  go_ret
  exact ⟨_, rfl, by first | exact Kd.R_nil _ _ _ _ _ | exact Kd.S_nil _ _ _ _ _ | exact Kd.N_nil _ _ _ _ _ | exact Kd.V_nil _ _ _ _ _, HB.out⟩
 | some adn_ =>
 have hnil_ := fun (w : World) => Lib.run_eql_slice_nil (P := Tryd.prog) w 22 31 (some adn_) l0.length c0 0 0 Tryd.underlying22
 obtain ⟨y683, hy683⟩ : ∃ y_ : List (S31), y_ = (([] : List (S31))) := ⟨_, rfl⟩
 replace H : (if y683.length + l0.length < 1759218604441 then (some (y683 ++ l0)) else (none)) = some r := by first | (rw [hy683]; with_reducible exact H) | (have H2_ := (Option.bind_some _ _).symm.trans H; rw [hy683]; with_reducible exact H2_) | (have H2_ := (Option.bind_some _ _).symm.trans H; with_reducible exact H2_) | with_reducible exact H | (rw [hy683]; exact H) | exact H
 have Ny683 := Aside0.mk hy683
 clear hy683
 by_cases c2 : y683.length + l0.length < 1759218604441
 rotate_left
 · rw [if_neg c2] at H; exact absurd H (by simp)
 rw [if_pos c2] at H
 have LMc2 := Aside0.mk c2
 clear c2
 obtain ⟨y686, hy686⟩ : ∃ y_ : List (S31), y_ = (y683 ++ l0) := ⟨_, rfl⟩
 replace H : (some y686) = some r := by first | (rw [hy686]; with_reducible exact H) | (have H2_ := (Option.bind_some _ _).symm.trans H; rw [hy686]; with_reducible exact H2_) | (have H2_ := (Option.bind_some _ _).symm.trans H; with_reducible exact H2_) | with_reducible exact H | (rw [hy686]; exact H) | exact H
 have Ny686 := Aside0.mk hy686
 clear hy686
 obtain rfl := Option.some.inj H
 go_enter Tryd.func20, Tryd.ntmps20
 go_wp2_with (first | ((with_reducible refine gate_dst (N := 5) rfl ?_); refine Kd.N_lit k31 _ 31 ?hg (N' := 5) ?hd (xs := ([] : List (S31))) (inner := []) (ok := (fun k_ => (P0_ k_ ∨ w.heap.size ≤ k_))) (okp := (fun k_ => (P0_ k_ ∨ w.heap.size ≤ k_))) ?hr ?hp (fun _ hk => hk) ((show ∀ k_, w.heap.size ≤ k_ → (fun k_ => (P0_ k_ ∨ w.heap.size ≤ k_)) k_ from fun k_ hk => (.inr (Nat.le_trans (below_size zB) hk))) _ (Nat.le_refl _)) (Below.refl _ _) (Nat.le_refl _) (by simp) ?_; (case hd => rfl); (case hg => rfl); (case hr => first | (go_simp; done) | (go_simp; rfl)); (case hp => exact (Reps.none _ _)); intro v684 w3 ho4 hb hg_ hnew_; clear hg_ hnew_; (first | rw [← Ny683.out] at ho4 | (simp only [Int.reduceToNat] at ho4; rw [← Ny683.out] at ho4)); have n0_ := Aside0.mk (Kd.V_elder' (by (with_reducible repeat (first | apply Kd.V_alloc | apply Kd.V_drewN | apply Kd.V_drew)); exact HO0.out) (Kd.N_base ho4) hb); have n1_ := Aside0.mk (Kd.N_lower ho4 (below_size zB)); have n2_ := Aside0.mk (below_step zB hb); clear HO0; clear HB; have HO0 := n0_; have HO685 := n1_; have HB := n2_; clear n0_ n1_ n2_; clear hb ho4) | ((with_reducible refine gate_builtin (b := .append) (xs := #[.tmp 5, .tmp 6]) rfl ?_); at_builtin; refine Kd.N_append_rows k31 (w0 := w) w.heap.size rfl (.tmp 5) (.tmp 6) 22 31 (.agg #[(.int .u32 0), (.int .i64 0), (.slice none 0 0), (.int .i64 0), (.int .i64 0), (.slice none 0 0)]) 80 rfl Tryd.underlying22 info31 rfl (by decide) (by omega) v684 y683 l0 _ _ _ (fun k_ => (P0_ k_ ∨ w.heap.size ≤ k_)) (fun k_ => ((fun k_ => (P0_ k_ ∨ w.heap.size ≤ k_))) k_ ∧ some k_ ≠ (v684 : Value).ownBlock) rfl rfl ?aO ?aR (fun _ hk => hk) ?aF ?aB ?aS ?aL ?_; (case aR => exact (by skip; exact Kd.V_F (Kd.V_mono (ok' := (fun k_ => ((fun k_ => (P0_ k_ ∨ w.heap.size ≤ k_))) k_ ∧ some k_ ≠ (v684 : Value).ownBlock)) (HO0.out) (fun k_ hk => ⟨hk.1, hk.2⟩)))); (case aB => exact zB); (case aF => exact (fun k_ hk => (.inr (Nat.le_trans (below_size zB) hk)))); (case aO => exact (by (with_reducible repeat (first | apply Kd.N_alloc | apply Kd.N_drewN | apply Kd.N_drew)); exact HO685.out)); (case aS => exact (below_size zB)); (case aL => have := LMc2.out; omega); intro v687 w5 ho hb hg hat; rw [← Ny686.out] at ho; have n0_ := Aside0.mk (Kd.V_afterv (ok := (fun k_ => (P0_ k_ ∨ w.heap.size ≤ k_))) (by (with_reducible repeat (first | apply Kd.V_alloc | apply Kd.V_drewN | apply Kd.V_drew)); exact HO0.out) hg hat); have n1_ := Aside0.mk (hb); have n2_ := Aside0.mk (ho); clear HO0; clear HB; clear HO685; have HO0 := n0_; have HB := n1_; have HO688 := n2_; clear n0_ n1_ n2_; clear ho hb hg hat))
 go_ret
 exact ⟨_, zE, by (with_reducible repeat (first | apply Kd.N_alloc | apply Kd.N_drewN | apply Kd.N_drew)); exact HO688.out, zB⟩
end Go.Proofs.YtplcdbhklepkgaaDoor.BO
