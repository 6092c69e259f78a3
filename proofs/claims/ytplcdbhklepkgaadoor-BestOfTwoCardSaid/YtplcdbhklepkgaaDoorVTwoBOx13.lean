-- Made by gen.py, a program of this session's, over the kit's print.
import Derived.Test.YtplcdbhklepkgaaDoorVTwoShort
import Derived.Test.YtplcdbhklepkgaaDoorVTwoBOx0
import Derived.Test.YtplcdbhklepkgaaDoorVTwoBOx2
import Derived.Test.YtplcdbhklepkgaaDoorVTwoBOx10
import Derived.Test.YtplcdbhklepkgaaDoorVTwoBOx12
namespace Go.Proofs.YtplcdbhklepkgaaDoor.BO
open Go.RowKit Go.Proofs.YtplcdbhklepkgaaDoorW.PrintWords Go.Proofs.YtplcdbhklepkgaaDoorW.PrintLast Go.Proofs.YtplcdbhklepkgaaDoorW.PrintMore Go.Proofs.YtplcdbhklepkgaaDoor.GenWords
attribute [local go_sem] max2_int min2_int max_two min_two max_three min_three max_four min_four   -- for this text's walks alone
set_option linter.unusedVariables false
set_option linter.unusedSimpArgs false

/-! ### g10_: function 15 -/
mutual
def g10_.j0 : Nat → Int → Int → List Int → Int → Int → List Int → Int → Int → Int → Int → Option (Int × Int × List Int × Int × Int × List Int)
  | 0, _, _, _, _, _, _, _, _, _, _ => none
  | k + 1, x642000, x642001, x642002, x642003, x642004, x642005, x644000, x644001, x644003, x644004 => (g28_.f x642002 6).bind fun t645 => (g10_.l0 k t645 (t645.length : Int) 0 x642000 x642001 x642002 x642003 x642004 x642005 x644000 x644001 ([] : List Int) x644003 x644004)
def g10_.l0 : Nat → List Int → Int → Int → Int → Int → List Int → Int → Int → List Int → Int → Int → List Int → Int → Int → Option (Int × Int × List Int × Int × Int × List Int)
  | 0, _, _, _, _, _, _, _, _, _, _, _, _, _, _ => none
  | k + 1, x25, x26, x27, x642000, x642001, x642002, x642003, x642004, x642005, x644000, x644001, x644002, x644003, x644004 => if x27 < x26 then (if 0 ≤ x27 then (if x27 < (x25.length : Int) then (if x644002.length < 17592186044416 then (g10_.l0 k x25 x26 (wrap64 (x27 + 1)) x642000 x642001 x642002 x642003 x642004 x642005 x644000 x644001 (x644002 ++ [wrap64 (1 + (Go.bits .and .i64 (rd x25 x27) 15))]) x644003 x644004) else (none)) else (none)) else (none)) else ((g28_.f x642005 4).bind fun t652 => (g10_.l1 k t652 (t652.length : Int) 0 x644000 x644001 x644002 x644003 x644004 ([] : List Int)))
def g10_.l1 : Nat → List Int → Int → Int → Int → Int → List Int → Int → Int → List Int → Option (Int × Int × List Int × Int × Int × List Int)
  | 0, _, _, _, _, _, _, _, _, _ => none
  | k + 1, x42, x43, x44, x644000, x644001, x644002, x644003, x644004, x644005 => if x44 < x43 then (if 0 ≤ x44 then (if x44 < (x42.length : Int) then (if x644005.length < 17592186044416 then (g10_.l1 k x42 x43 (wrap64 (x44 + 1)) x644000 x644001 x644002 x644003 x644004 (x644005 ++ [wrap64 (1 + (Go.bits .and .i64 (rd x42 x44) 15))])) else (none)) else (none)) else (none)) else ((g18_.f k x644005).bind fun t659 => ((g9_.f k t659).bind fun t660 => (some (x644000, x644001, x644002, x644003, x644004, t660))))
end
def g10_.f (k : Nat) (a0_0 : Int) (a0_1 : Int) (l0_2 : List Int) (a0_3 : Int) (a0_4 : Int) (l0_5 : List Int) : Option (Int × Int × List Int × Int × Int × List Int) := (addr_Check.f a0_0 a0_1).bind fun t644 => (if t644 = 0 then (g10_.j0 k a0_0 a0_1 l0_2 a0_3 a0_4 l0_5 a0_0 a0_1 (Go.bits .and .i64 a0_3 1023) (Go.bits .and .i64 a0_4 1023)) else (g10_.j0 k a0_0 a0_1 l0_2 a0_3 a0_4 l0_5 167772160 8 (Go.bits .and .i64 a0_3 1023) (Go.bits .and .i64 a0_4 1023)))
theorem g10_.mono_l : ∀ k, (∀ y0 y1 y2 y3 y4 y5 y6 y7 y8 y9, LeO (g10_.j0 k y0 y1 y2 y3 y4 y5 y6 y7 y8 y9) (g10_.j0 (k + 1) y0 y1 y2 y3 y4 y5 y6 y7 y8 y9)) ∧ (∀ y0 y1 y2 y3 y4 y5 y6 y7 y8 y9 y10 y11 y12 y13, LeO (g10_.l0 k y0 y1 y2 y3 y4 y5 y6 y7 y8 y9 y10 y11 y12 y13) (g10_.l0 (k + 1) y0 y1 y2 y3 y4 y5 y6 y7 y8 y9 y10 y11 y12 y13)) ∧ (∀ y0 y1 y2 y3 y4 y5 y6 y7 y8, LeO (g10_.l1 k y0 y1 y2 y3 y4 y5 y6 y7 y8) (g10_.l1 (k + 1) y0 y1 y2 y3 y4 y5 y6 y7 y8))
  | 0 => ⟨fun _ _ _ _ _ _ _ _ _ _ r h => by simp [g10_.j0] at h, fun _ _ _ _ _ _ _ _ _ _ _ _ _ _ r h => by simp [g10_.l0] at h, fun _ _ _ _ _ _ _ _ _ r h => by simp [g10_.l1] at h⟩
  | k + 1 => by
    obtain ⟨ih0, ih1, ih2⟩ := g10_.mono_l k
    refine ⟨?_, ?_, ?_⟩
    · intro y0 y1 y2 y3 y4 y5 y6 y7 y8 y9
      unfold g10_.j0
      repeat' (with_reducible first | exact ih0 _ _ _ _ _ _ _ _ _ _ | exact ih1 _ _ _ _ _ _ _ _ _ _ _ _ _ _ | exact ih2 _ _ _ _ _ _ _ _ _ | exact g9_.mono _ _ | exact g18_.mono _ _ | exact LeO.refl _ | exact LeO.none _ | refine LeO.ite ?_ ?_ | refine LeO.bind ?_ (fun _ => ?_))
    · intro y0 y1 y2 y3 y4 y5 y6 y7 y8 y9 y10 y11 y12 y13
      unfold g10_.l0
      repeat' (with_reducible first | exact ih0 _ _ _ _ _ _ _ _ _ _ | exact ih1 _ _ _ _ _ _ _ _ _ _ _ _ _ _ | exact ih2 _ _ _ _ _ _ _ _ _ | exact g9_.mono _ _ | exact g18_.mono _ _ | exact LeO.refl _ | exact LeO.none _ | refine LeO.ite ?_ ?_ | refine LeO.bind ?_ (fun _ => ?_))
    · intro y0 y1 y2 y3 y4 y5 y6 y7 y8
      unfold g10_.l1
      repeat' (with_reducible first | exact ih0 _ _ _ _ _ _ _ _ _ _ | exact ih1 _ _ _ _ _ _ _ _ _ _ _ _ _ _ | exact ih2 _ _ _ _ _ _ _ _ _ | exact g9_.mono _ _ | exact g18_.mono _ _ | exact LeO.refl _ | exact LeO.none _ | refine LeO.ite ?_ ?_ | refine LeO.bind ?_ (fun _ => ?_))
theorem g10_.mono : ∀ a0 a1 a2 a3 a4 a5 k, LeO (g10_.f k a0 a1 a2 a3 a4 a5) (g10_.f (k + 1) a0 a1 a2 a3 a4 a5) := by
  intro a0 a1 a2 a3 a4 a5 k
  obtain ⟨ih0, ih1, ih2⟩ := g10_.mono_l k
  unfold g10_.f
  repeat' (with_reducible first | exact ih0 _ _ _ _ _ _ _ _ _ _ | exact ih1 _ _ _ _ _ _ _ _ _ _ _ _ _ _ | exact ih2 _ _ _ _ _ _ _ _ _ | exact g9_.mono _ _ | exact g18_.mono _ _ | exact LeO.refl _ | exact LeO.none _ | refine LeO.ite ?_ ?_ | refine LeO.bind ?_ (fun _ => ?_))
set_option maxHeartbeats 8000000 in
set_option maxRecDepth 100000 in
theorem g10_.calls (k : Nat) (a0_0 : Int) (a0_1 : Int) (A0_2 : Option Addr) (c0_2 : Nat) (l0_2 : List Int) (a0_3 : Int) (a0_4 : Int) (A0_5 : Option Addr) (c0_5 : Nat) (l0_5 : List Int) (r1 : Int) (r2 : Int) (r3 : List Int) (r4 : Int) (r5 : Int) (r6 : List Int) (w : World) (hr0_2 : Kd.C (Kd.int .i64) w A0_2 l0_2.length l0_2) (hc0_2 : l0_2.length ≤ c0_2) (hr0_5 : Kd.C (Kd.int .i64) w A0_5 l0_5.length l0_5) (hc0_5 : l0_5.length ≤ c0_5) (hgl0_0 : w.cell? ⟨0, 0, none⟩ = some (.int .u32 167772160)) (hgl0_1 : w.cell? ⟨0, 1, none⟩ = some (.int .i64 8)) (h : g10_.f k a0_0 a0_1 l0_2 a0_3 a0_4 l0_5 = some (r1, r2, r3, r4, r5, r6)) :
 Calls Tryd.prog 15 #[.agg #[.int .u32 a0_0, .int .i64 a0_1, .slice A0_2 l0_2.length c0_2, .int .i64 a0_3, .int .i64 a0_4, .slice A0_5 l0_5.length c0_5]] w fun e w' => ∃ v2_ v5_ : Value, e = .returned (.agg #[.int .u32 r1, .int .i64 r2, v2_, .int .i64 r4, .int .i64 r5, v5_]) ∧ Kd.R (Kd.int .i64) 3 w' w.heap.size (fun k_ => some k_ ≠ (v5_ : Value).ownBlock) v2_ r3 ∧ Kd.R (Kd.int .i64) 3 w' w.heap.size (fun k_ => some k_ ≠ (v2_ : Value).ownBlock) v5_ r6 ∧ Below w.heap.size w w' := by
 have hu31 := Tryd.underlying31
 have hu29 := Tryd.underlying29
 have hu3 := Tryd.underlying3
 have hu23 := Tryd.underlying23
 have HR0_2 := Aside0.mk hr0_2
 have HC0_2 := Aside0.mk hc0_2
 clear hr0_2 hc0_2
 have HR0_5 := Aside0.mk hr0_5
 have HC0_5 := Aside0.mk hc0_5
 clear hr0_5 hc0_5
 have GL0_0 := Aside0.mk hgl0_0
 clear hgl0_0
 have GL0_1 := Aside0.mk hgl0_1
 clear hgl0_1
 have HB := Aside0.mk (Below.refl w.heap.size w)
 have H : ((addr_Check.f a0_0 a0_1).bind fun t644 => (if t644 = 0 then (g10_.j0 k a0_0 a0_1 l0_2 a0_3 a0_4 l0_5 a0_0 a0_1 (Go.bits .and .i64 a0_3 1023) (Go.bits .and .i64 a0_4 1023)) else (g10_.j0 k a0_0 a0_1 l0_2 a0_3 a0_4 l0_5 167772160 8 (Go.bits .and .i64 a0_3 1023) (Go.bits .and .i64 a0_4 1023)))) = some (r1, r2, r3, r4, r5, r6) := h
 clear h
 replace H := Option.bind_eq_some_iff.mp H
 obtain ⟨t644, A20, H⟩ := H
 replace H : (if t644 = 0 then (g10_.j0 k a0_0 a0_1 l0_2 a0_3 a0_4 l0_5 a0_0 a0_1 (Go.bits .and .i64 a0_3 1023) (Go.bits .and .i64 a0_4 1023)) else (g10_.j0 k a0_0 a0_1 l0_2 a0_3 a0_4 l0_5 167772160 8 (Go.bits .and .i64 a0_3 1023) (Go.bits .and .i64 a0_4 1023))) = some (r1, r2, r3, r4, r5, r6) := H
 have A2 := Aside0.mk A20
 clear A20
 have HC3 := Aside0.mk H
 clear H
 go_enter Tryd.func15, Tryd.ntmps15
 go_upto_if 20 with (first | ((with_reducible refine gate_dst (N := 1) rfl ?_); refine bx 1 (#[.int .u32 a0_0, .int .i64 a0_1, .slice A0_2 l0_2.length c0_2, .int .i64 a0_3, .int .i64 a0_4, .slice A0_5 l0_5.length c0_5]) 31 ?_; intro gb641 hg w4 hbox hb; have n0_ := Aside0.mk (below_step zB hb); have n1_ := Aside0.mk (hbox); have n2_ := Aside0.mk ((zG hg : w.heap.size ≤ gb641)); have n3_ := Aside0.mk ((zG hg : w.heap.size ≤ gb641)); clear HB; have HB := n0_; have BK641 := n1_; have GW641 := n2_; have GE641 := n3_; clear n0_ n1_ n2_ n3_; clear hb hbox hg) | ((with_reducible refine gate_dst (N := 2) rfl ?_); refine bx 2 (#[.int .u32 0, .int .i64 0, .slice none 0 0, .int .i64 0, .int .i64 0, .slice none 0 0]) 31 ?_; intro gb642 hg w5 hbox hb; have n0_ := Aside0.mk (blk_below (g := gb641) (o := .cells #[.int .u32 a0_0, .int .i64 a0_1, .slice A0_2 l0_2.length c0_2, .int .i64 a0_3, .int .i64 a0_4, .slice A0_5 l0_5.length c0_5] 31 (0, 0)) (zK BK641) hb); have n1_ := Aside0.mk (below_step zB hb); have n2_ := Aside0.mk (hbox); have n3_ := Aside0.mk ((zG hg : w.heap.size ≤ gb642)); have n4_ := Aside0.mk ((zG hg : w.heap.size ≤ gb642)); have n5_ := Aside0.mk ((by rw [hg]; exact Nat.ne_of_lt (blk_lt (g := gb641) (o := .cells #[.int .u32 a0_0, .int .i64 a0_1, .slice A0_2 l0_2.length c0_2, .int .i64 a0_3, .int .i64 a0_4, .slice A0_5 l0_5.length c0_5] 31 (0, 0)) (zK BK641)) : gb641 ≠ gb642)); have n6_ := Aside0.mk ((by rw [hg]; exact Nat.ne_of_gt (blk_lt (g := gb641) (o := .cells #[.int .u32 a0_0, .int .i64 a0_1, .slice A0_2 l0_2.length c0_2, .int .i64 a0_3, .int .i64 a0_4, .slice A0_5 l0_5.length c0_5] 31 (0, 0)) (zK BK641)) : gb642 ≠ gb641)); clear BK641; clear HB; have BK641 := n0_; have HB := n1_; have BK642 := n2_; have GW642 := n3_; have GE642 := n4_; have NB641_642 := n5_; have NB642_641 := n6_; clear n0_ n1_ n2_ n3_ n4_ n5_ n6_; clear hb hbox hg; have hnb6 := NB641_642.out; have hnc6 := NB642_641.out; have hcz7_0 : w5.cell? ⟨gb641, 0, none⟩ = some (.int .u32 a0_0) := zT BK641 0; have hcz7_1 : w5.cell? ⟨gb641, 1, none⟩ = some (.int .i64 a0_1) := zT BK641 1; have hcz7_2 : w5.cell? ⟨gb641, 2, none⟩ = some (.slice A0_2 l0_2.length c0_2) := zT BK641 2; have hcz7_3 : w5.cell? ⟨gb641, 3, none⟩ = some (.int .i64 a0_3) := zT BK641 3; have hcz7_4 : w5.cell? ⟨gb641, 4, none⟩ = some (.int .i64 a0_4) := zT BK641 4; have hcz7_5 : w5.cell? ⟨gb641, 5, none⟩ = some (.slice A0_5 l0_5.length c0_5) := zT BK641 5; have hfz7_0 := blk_frozen BK641.out 0; have hfz7_1 := blk_frozen BK641.out 1; have hfz7_2 := blk_frozen BK641.out 2; have hfz7_3 := blk_frozen BK641.out 3; have hfz7_4 := blk_frozen BK641.out 4; have hfz7_5 := blk_frozen BK641.out 5) | ((with_reducible refine gate_dst (N := 3) rfl ?_); refine bx 3 (#[.int .u32 0, .int .i64 0, .slice none 0 0, .int .i64 0, .int .i64 0, .slice none 0 0]) 31 ?_; intro gb643 hg w8 hbox hb; have n0_ := Aside0.mk (blk_below (g := gb641) (o := .cells #[.int .u32 a0_0, .int .i64 a0_1, .slice A0_2 l0_2.length c0_2, .int .i64 a0_3, .int .i64 a0_4, .slice A0_5 l0_5.length c0_5] 31 (0, 0)) (zK BK641) hb); have n1_ := Aside0.mk (blk_below (g := gb642) (o := .cells #[.int .u32 0, .int .i64 0, .slice none 0 0, .int .i64 0, .int .i64 0, .slice none 0 0] 31 (0, 0)) (zK BK642) hb); have n2_ := Aside0.mk (below_step zB hb); have n3_ := Aside0.mk (hbox); have n4_ := Aside0.mk ((zG hg : w.heap.size ≤ gb643)); have n5_ := Aside0.mk ((zG hg : w.heap.size ≤ gb643)); have n6_ := Aside0.mk ((by rw [hg]; exact Nat.ne_of_lt (blk_lt (g := gb641) (o := .cells #[.int .u32 a0_0, .int .i64 a0_1, .slice A0_2 l0_2.length c0_2, .int .i64 a0_3, .int .i64 a0_4, .slice A0_5 l0_5.length c0_5] 31 (0, 0)) (zK BK641)) : gb641 ≠ gb643)); have n7_ := Aside0.mk ((by rw [hg]; exact Nat.ne_of_gt (blk_lt (g := gb641) (o := .cells #[.int .u32 a0_0, .int .i64 a0_1, .slice A0_2 l0_2.length c0_2, .int .i64 a0_3, .int .i64 a0_4, .slice A0_5 l0_5.length c0_5] 31 (0, 0)) (zK BK641)) : gb643 ≠ gb641)); have n8_ := Aside0.mk ((by rw [hg]; exact Nat.ne_of_lt (blk_lt (g := gb642) (o := .cells #[.int .u32 0, .int .i64 0, .slice none 0 0, .int .i64 0, .int .i64 0, .slice none 0 0] 31 (0, 0)) (zK BK642)) : gb642 ≠ gb643)); have n9_ := Aside0.mk ((by rw [hg]; exact Nat.ne_of_gt (blk_lt (g := gb642) (o := .cells #[.int .u32 0, .int .i64 0, .slice none 0 0, .int .i64 0, .int .i64 0, .slice none 0 0] 31 (0, 0)) (zK BK642)) : gb643 ≠ gb642)); clear BK641; clear BK642; clear HB; have BK641 := n0_; have BK642 := n1_; have HB := n2_; have BK643 := n3_; have GW643 := n4_; have GE643 := n5_; have NB641_643 := n6_; have NB643_641 := n7_; have NB642_643 := n8_; have NB643_642 := n9_; clear n0_ n1_ n2_ n3_ n4_ n5_ n6_ n7_ n8_ n9_; clear hb hbox hg; have hnb9 := NB643_641.out; have hnc9 := NB641_643.out; have hnb10 := NB643_642.out; have hnc10 := NB642_643.out; have hcz11_0 : w8.cell? ⟨gb643, 0, none⟩ = some (.int .u32 0) := zT BK643 0; have hcz11_1 : w8.cell? ⟨gb643, 1, none⟩ = some (.int .i64 0) := zT BK643 1; have hcz11_2 : w8.cell? ⟨gb643, 2, none⟩ = some (.slice none 0 0) := zT BK643 2; have hcz11_3 : w8.cell? ⟨gb643, 3, none⟩ = some (.int .i64 0) := zT BK643 3; have hcz11_4 : w8.cell? ⟨gb643, 4, none⟩ = some (.int .i64 0) := zT BK643 4; have hcz11_5 : w8.cell? ⟨gb643, 5, none⟩ = some (.slice none 0 0) := zT BK643 5; have hfz11_0 := blk_frozen BK643.out 0; have hfz11_1 := blk_frozen BK643.out 1; have hfz11_2 := blk_frozen BK643.out 2; have hfz11_3 := blk_frozen BK643.out 3; have hfz11_4 := blk_frozen BK643.out 4; have hfz11_5 := blk_frozen BK643.out 5; have hcz12_0 : w8.cell? ⟨gb641, 0, none⟩ = some (.int .u32 a0_0) := zT BK641 0; have hcz12_1 : w8.cell? ⟨gb641, 1, none⟩ = some (.int .i64 a0_1) := zT BK641 1; have hcz12_2 : w8.cell? ⟨gb641, 2, none⟩ = some (.slice A0_2 l0_2.length c0_2) := zT BK641 2; have hcz12_3 : w8.cell? ⟨gb641, 3, none⟩ = some (.int .i64 a0_3) := zT BK641 3; have hcz12_4 : w8.cell? ⟨gb641, 4, none⟩ = some (.int .i64 a0_4) := zT BK641 4; have hcz12_5 : w8.cell? ⟨gb641, 5, none⟩ = some (.slice A0_5 l0_5.length c0_5) := zT BK641 5; have hfz12_0 := blk_frozen BK641.out 0; have hfz12_1 := blk_frozen BK641.out 1; have hfz12_2 := blk_frozen BK641.out 2; have hfz12_3 := blk_frozen BK641.out 3; have hfz12_4 := blk_frozen BK641.out 4; have hfz12_5 := blk_frozen BK641.out 5) | ((with_reducible refine gate_callee (f := 25) rfl ?_); refine goesL_ (some 19) rfl rfl Tryd.func25 (by kernel_rfl) rfl #[.agg #[.int .u32 a0_0, .int .i64 a0_1]] rfl zM ?_; (with_reducible refine (addr_Check.calls a0_0 a0_1 t644 _ A2.out).mono ?_); rintro e w13 ⟨rfl, hb⟩; refine ⟨_, rfl, ?_⟩; have n0_ := Aside0.mk (blk_below (g := gb641) (o := .cells #[.int .u32 a0_0, .int .i64 a0_1, .slice A0_2 l0_2.length c0_2, .int .i64 a0_3, .int .i64 a0_4, .slice A0_5 l0_5.length c0_5] 31 (0, 0)) (by (with_reducible repeat (first | refine blk_drewN ?_ _ | refine blk_drew ?_ | refine blk_alloc ?_ _)); refine blk_far ?_ NB641_643.out _; (with_reducible repeat (first | refine blk_drewN ?_ _ | refine blk_drew ?_ | refine blk_alloc ?_ _)); refine blk_far ?_ NB641_643.out _; (with_reducible repeat (first | refine blk_drewN ?_ _ | refine blk_drew ?_ | refine blk_alloc ?_ _)); refine blk_far ?_ NB641_643.out _; (with_reducible repeat (first | refine blk_drewN ?_ _ | refine blk_drew ?_ | refine blk_alloc ?_ _)); refine blk_far ?_ NB641_643.out _; (with_reducible repeat (first | refine blk_drewN ?_ _ | refine blk_drew ?_ | refine blk_alloc ?_ _)); refine blk_far ?_ NB641_643.out _; (with_reducible repeat (first | refine blk_drewN ?_ _ | refine blk_drew ?_ | refine blk_alloc ?_ _)); refine blk_far ?_ NB641_643.out _; (with_reducible repeat (first | refine blk_drewN ?_ _ | refine blk_drew ?_ | refine blk_alloc ?_ _)); exact BK641.out) hb); have n1_ := Aside0.mk (blk_below (g := gb642) (o := .cells #[.int .u32 0, .int .i64 0, .slice none 0 0, .int .i64 0, .int .i64 0, .slice none 0 0] 31 (0, 0)) (by (with_reducible repeat (first | refine blk_drewN ?_ _ | refine blk_drew ?_ | refine blk_alloc ?_ _)); refine blk_far ?_ NB642_643.out _; (with_reducible repeat (first | refine blk_drewN ?_ _ | refine blk_drew ?_ | refine blk_alloc ?_ _)); refine blk_far ?_ NB642_643.out _; (with_reducible repeat (first | refine blk_drewN ?_ _ | refine blk_drew ?_ | refine blk_alloc ?_ _)); refine blk_far ?_ NB642_643.out _; (with_reducible repeat (first | refine blk_drewN ?_ _ | refine blk_drew ?_ | refine blk_alloc ?_ _)); refine blk_far ?_ NB642_643.out _; (with_reducible repeat (first | refine blk_drewN ?_ _ | refine blk_drew ?_ | refine blk_alloc ?_ _)); refine blk_far ?_ NB642_643.out _; (with_reducible repeat (first | refine blk_drewN ?_ _ | refine blk_drew ?_ | refine blk_alloc ?_ _)); refine blk_far ?_ NB642_643.out _; (with_reducible repeat (first | refine blk_drewN ?_ _ | refine blk_drew ?_ | refine blk_alloc ?_ _)); exact BK642.out) hb); have n2_ := Aside0.mk (blk_below (g := gb643) (o := .cells #[.int .u32 a0_0, .int .i64 a0_1, .slice none 0 0, .int .i64 (Go.bits .and .i64 a0_3 1023), .int .i64 (Go.bits .and .i64 a0_4 1023), .slice none 0 0] 31 (0, 0)) (by (with_reducible repeat (first | refine blk_drewN ?_ _ | refine blk_drew ?_ | refine blk_alloc ?_ _)); refine blk_put (cs := #[.int .u32 a0_0, .int .i64 a0_1, .slice none 0 0, .int .i64 (Go.bits .and .i64 a0_3 1023), .int .i64 (Go.bits .and .i64 a0_4 1023), .slice none 0 0]) ?_ 5 _ rfl; (with_reducible repeat (first | refine blk_drewN ?_ _ | refine blk_drew ?_ | refine blk_alloc ?_ _)); refine blk_put (cs := #[.int .u32 a0_0, .int .i64 a0_1, .slice none 0 0, .int .i64 (Go.bits .and .i64 a0_3 1023), .int .i64 0, .slice none 0 0]) ?_ 4 _ rfl; (with_reducible repeat (first | refine blk_drewN ?_ _ | refine blk_drew ?_ | refine blk_alloc ?_ _)); refine blk_put (cs := #[.int .u32 a0_0, .int .i64 a0_1, .slice none 0 0, .int .i64 0, .int .i64 0, .slice none 0 0]) ?_ 3 _ rfl; (with_reducible repeat (first | refine blk_drewN ?_ _ | refine blk_drew ?_ | refine blk_alloc ?_ _)); refine blk_put (cs := #[.int .u32 a0_0, .int .i64 a0_1, .slice none 0 0, .int .i64 0, .int .i64 0, .slice none 0 0]) ?_ 2 _ rfl; (with_reducible repeat (first | refine blk_drewN ?_ _ | refine blk_drew ?_ | refine blk_alloc ?_ _)); refine blk_put (cs := #[.int .u32 a0_0, .int .i64 0, .slice none 0 0, .int .i64 0, .int .i64 0, .slice none 0 0]) ?_ 1 _ rfl; (with_reducible repeat (first | refine blk_drewN ?_ _ | refine blk_drew ?_ | refine blk_alloc ?_ _)); refine blk_put (cs := #[.int .u32 0, .int .i64 0, .slice none 0 0, .int .i64 0, .int .i64 0, .slice none 0 0]) ?_ 0 _ rfl; (with_reducible repeat (first | refine blk_drewN ?_ _ | refine blk_drew ?_ | refine blk_alloc ?_ _)); exact BK643.out) hb); have n3_ := Aside0.mk (below_step zB hb); clear BK641; clear BK642; clear BK643; clear HB; have BK641 := n0_; have BK642 := n1_; have BK643 := n2_; have HB := n3_; clear n0_ n1_ n2_ n3_; (try clear hb); (try clear hb2); (try clear hk); (try clear hi)))
 (try simp only [Act.put, List.setIfInBounds_toArray, List.set_cons_zero, List.set_cons_succ])
 go_cut [] (fun wc => ∃ (kq : Nat) (x644000_2 : Int) (x644001_2 : Int), Aside0 (g10_.j0 kq a0_0 a0_1 l0_2 a0_3 a0_4 l0_5 x644000_2 x644001_2 (Go.bits .and .i64 a0_3 1023) (Go.bits .and .i64 a0_4 1023) = some (r1, r2, r3, r4, r5, r6)) ∧ Aside0 (kq ≤ k) ∧ Aside0 (wc.heap[gb641]? = some (.cells #[.int .u32 a0_0, .int .i64 a0_1, (.slice A0_2 l0_2.length c0_2), .int .i64 a0_3, .int .i64 a0_4, (.slice A0_5 l0_5.length c0_5)] 31 (0, 0))) ∧ Aside0 (wc.heap[gb642]? = some (.cells #[.int .u32 0, .int .i64 0, (.slice none 0 0), .int .i64 0, .int .i64 0, (.slice none 0 0)] 31 (0, 0))) ∧ Aside0 (wc.heap[gb643]? = some (.cells #[.int .u32 x644000_2, .int .i64 x644001_2, (.slice none 0 0), .int .i64 (Go.bits .and .i64 a0_3 1023), .int .i64 (Go.bits .and .i64 a0_4 1023), (.slice none 0 0)] 31 (0, 0))) ∧ Aside0 (Below w.heap.size w wc))
 case first =>
  have H := HC3.out
  clear HC3
  by_cases c14 : t644 = 0
  ·
   rw [if_pos c14] at H
   have c14b0 : (t644 == 0) = true := beq_iff_eq.mpr c14
   have c14b1 : (t644 != 0) = false := bne_eq_false_iff_eq.mpr c14
   clear c14
   (first | rw [c14b0] | (simp only [i64_w, i32_w]; rw [c14b0]) | skip)
   have H' := Aside0.mk H
   clear H
   go_wp2
   go_meet
   case rel => exact ⟨_, (a0_0), (a0_1), H', ⟨by first | omega | exact Nat.le_refl _⟩, ⟨zK BK641⟩, ⟨zK BK642⟩, ⟨zK BK643⟩, ⟨zB⟩⟩
  rw [if_neg c14] at H
  have c14b0 : (t644 == 0) = false := beq_eq_false_iff_ne.mpr c14
  have c14b1 : (t644 != 0) = true := bne_iff_ne.mpr c14
  (first | rw [c14b0] | (simp only [i64_w, i32_w]; rw [c14b0]) | skip)
  have H' := Aside0.mk H
  clear H
  have hgl0_0 := zL HB GL0_0.out
  have hgl0_1 := zL HB GL0_1.out
  have hnb15 := NB643_641.out
  have hnc15 := NB641_643.out
  have hnb16 := NB643_642.out
  have hnc16 := NB642_643.out
  have hcz17_0 : w13.cell? ⟨gb643, 0, none⟩ = some (.int .u32 a0_0) := zT BK643 0
  have hcz17_1 : w13.cell? ⟨gb643, 1, none⟩ = some (.int .i64 a0_1) := zT BK643 1
  have hcz17_2 : w13.cell? ⟨gb643, 2, none⟩ = some (.slice none 0 0) := zT BK643 2
  have hcz17_3 : w13.cell? ⟨gb643, 3, none⟩ = some (.int .i64 (Go.bits .and .i64 a0_3 1023)) := zT BK643 3
  have hcz17_4 : w13.cell? ⟨gb643, 4, none⟩ = some (.int .i64 (Go.bits .and .i64 a0_4 1023)) := zT BK643 4
  have hcz17_5 : w13.cell? ⟨gb643, 5, none⟩ = some (.slice none 0 0) := zT BK643 5
  have hfz17_0 := blk_frozen BK643.out 0
  have hfz17_1 := blk_frozen BK643.out 1
  have hfz17_2 := blk_frozen BK643.out 2
  have hfz17_3 := blk_frozen BK643.out 3
  have hfz17_4 := blk_frozen BK643.out 4
  have hfz17_5 := blk_frozen BK643.out 5
  go_wp2
  go_meet
  case rel => exact ⟨_, (167772160), (8), H', ⟨by first | omega | exact Nat.le_refl _⟩, ⟨by (with_reducible repeat (first | refine blk_drewN ?_ _ | refine blk_drew ?_ | refine blk_alloc ?_ _)); refine blk_far ?_ NB641_643.out _; (with_reducible repeat (first | refine blk_drewN ?_ _ | refine blk_drew ?_ | refine blk_alloc ?_ _)); refine blk_far ?_ NB641_643.out _; (with_reducible repeat (first | refine blk_drewN ?_ _ | refine blk_drew ?_ | refine blk_alloc ?_ _)); exact BK641.out⟩, ⟨by (with_reducible repeat (first | refine blk_drewN ?_ _ | refine blk_drew ?_ | refine blk_alloc ?_ _)); refine blk_far ?_ NB642_643.out _; (with_reducible repeat (first | refine blk_drewN ?_ _ | refine blk_drew ?_ | refine blk_alloc ?_ _)); refine blk_far ?_ NB642_643.out _; (with_reducible repeat (first | refine blk_drewN ?_ _ | refine blk_drew ?_ | refine blk_alloc ?_ _)); exact BK642.out⟩, ⟨by (with_reducible repeat (first | refine blk_drewN ?_ _ | refine blk_drew ?_ | refine blk_alloc ?_ _)); refine blk_put (cs := #[.int .u32 167772160, .int .i64 a0_1, .slice none 0 0, .int .i64 (Go.bits .and .i64 a0_3 1023), .int .i64 (Go.bits .and .i64 a0_4 1023), .slice none 0 0]) ?_ 1 _ rfl; (with_reducible repeat (first | refine blk_drewN ?_ _ | refine blk_drew ?_ | refine blk_alloc ?_ _)); refine blk_put (cs := #[.int .u32 a0_0, .int .i64 a0_1, .slice none 0 0, .int .i64 (Go.bits .and .i64 a0_3 1023), .int .i64 (Go.bits .and .i64 a0_4 1023), .slice none 0 0]) ?_ 0 _ rfl; (with_reducible repeat (first | refine blk_drewN ?_ _ | refine blk_drew ?_ | refine blk_alloc ?_ _)); exact BK643.out⟩, ⟨zB⟩⟩
 clear HC3
 try clear c1
 try clear c2
 try clear p2
 try clear c6
 try clear c9
 try clear c10
 try clear c14
 try clear c14b0
 try clear c14b1
 try clear c15
 try clear c16
 try clear hcz11_0
 try clear hcz11_1
 try clear hcz11_2
 try clear hcz11_3
 try clear hcz11_4
 try clear hcz11_5
 try clear hcz12_0
 try clear hcz12_1
 try clear hcz12_2
 try clear hcz12_3
 try clear hcz12_4
 try clear hcz12_5
 try clear hcz17_0
 try clear hcz17_1
 try clear hcz17_2
 try clear hcz17_3
 try clear hcz17_4
 try clear hcz17_5
 try clear hcz7_0
 try clear hcz7_1
 try clear hcz7_2
 try clear hcz7_3
 try clear hcz7_4
 try clear hcz7_5
 try clear hfz11_0
 try clear hfz11_1
 try clear hfz11_2
 try clear hfz11_3
 try clear hfz11_4
 try clear hfz11_5
 try clear hfz12_0
 try clear hfz12_1
 try clear hfz12_2
 try clear hfz12_3
 try clear hfz12_4
 try clear hfz12_5
 try clear hfz17_0
 try clear hfz17_1
 try clear hfz17_2
 try clear hfz17_3
 try clear hfz17_4
 try clear hfz17_5
 try clear hfz7_0
 try clear hfz7_1
 try clear hfz7_2
 try clear hfz7_3
 try clear hfz7_4
 try clear hfz7_5
 obtain ⟨kq, x644000_2, x644001_2, HA, HJ2, BK641, BK642, BK643, HB⟩ := hcut
 rcases kq with _ | kj2
 · exact absurd HA.out (by simp [g10_.j0])
 have H := HA.out
 clear HA
 simp only [g10_.j0] at H
 replace H := Option.bind_eq_some_iff.mp H
 obtain ⟨t645, A180, H⟩ := H
 replace H : (g10_.l0 kj2 t645 (t645.length : Int) 0 a0_0 a0_1 l0_2 a0_3 a0_4 l0_5 x644000_2 x644001_2 ([] : List Int) (Go.bits .and .i64 a0_3 1023) (Go.bits .and .i64 a0_4 1023)) = some (r1, r2, r3, r4, r5, r6) := H
 have A18 := Aside0.mk A180
 clear A180
 have H' := Aside0.mk H
 clear H
 have hnb19 := NB641_642.out
 have hnc19 := NB642_641.out
 have hnb20 := NB641_643.out
 have hnc20 := NB643_641.out
 have hcz21_0 : wc.cell? ⟨gb641, 0, none⟩ = some (.int .u32 a0_0) := zT BK641 0
 have hcz21_1 : wc.cell? ⟨gb641, 1, none⟩ = some (.int .i64 a0_1) := zT BK641 1
 have hcz21_2 : wc.cell? ⟨gb641, 2, none⟩ = some (.slice A0_2 l0_2.length c0_2) := zT BK641 2
 have hcz21_3 : wc.cell? ⟨gb641, 3, none⟩ = some (.int .i64 a0_3) := zT BK641 3
 have hcz21_4 : wc.cell? ⟨gb641, 4, none⟩ = some (.int .i64 a0_4) := zT BK641 4
 have hcz21_5 : wc.cell? ⟨gb641, 5, none⟩ = some (.slice A0_5 l0_5.length c0_5) := zT BK641 5
 have hfz21_0 := blk_frozen BK641.out 0
 have hfz21_1 := blk_frozen BK641.out 1
 have hfz21_2 := blk_frozen BK641.out 2
 have hfz21_3 := blk_frozen BK641.out 3
 have hfz21_4 := blk_frozen BK641.out 4
 have hfz21_5 := blk_frozen BK641.out 5
 go_wp2_with (first | ((with_reducible refine gate_callee (f := 26) rfl ?_); refine goesL_ (some 25) rfl rfl Tryd.func26 (by kernel_rfl) rfl #[.slice A0_2 l0_2.length c0_2, .int .i64 6] rfl zM ?_; (with_reducible refine (g28_.calls (fun k_ => k_ < w.heap.size) _ _ l0_2 6 t645 _ ?side1 A18.out).mono ?_); (case side1 => exact Kd.V_mk HC0_2.out (Kd.F_below (Kd.C_F (Kd.heap_int .i64) HR0_2.out) zB)); rintro e w22 ⟨v646, rfl, ho0, hb⟩; refine ⟨_, rfl, ?_⟩; have n0_ := Aside0.mk (Kd.V_lower (Kd.V_mono (ok' := fun k_ => k_ ≠ gb641 ∧ k_ ≠ gb642 ∧ k_ ≠ gb643) ho0 (fun k_ hk_ => ⟨Or.elim hk_ (fun hs_ => fun e_ => Nat.not_le.2 hs_ (by rw [e_]; exact GW641.out)) (fun hn_ => (Kd.freshB (g := gb641) (o := .cells #[.int .u32 a0_0, .int .i64 a0_1, .slice A0_2 l0_2.length c0_2, .int .i64 a0_3, .int .i64 a0_4, .slice A0_5 l0_5.length c0_5] 31 (0, 0)) (zK BK641) k_ hn_)), Or.elim hk_ (fun hs_ => fun e_ => Nat.not_le.2 hs_ (by rw [e_]; exact GW642.out)) (fun hn_ => (Kd.freshB (g := gb642) (o := .cells #[.int .u32 0, .int .i64 0, .slice none 0 0, .int .i64 0, .int .i64 0, .slice none 0 0] 31 (0, 0)) (zK BK642) k_ hn_)), Or.elim hk_ (fun hs_ => fun e_ => Nat.not_le.2 hs_ (by rw [e_]; exact GW643.out)) (fun hn_ => (Kd.freshB (g := gb643) (o := .cells #[.int .u32 x644000_2, .int .i64 x644001_2, .slice none 0 0, .int .i64 (Go.bits .and .i64 a0_3 1023), .int .i64 (Go.bits .and .i64 a0_4 1023), .slice none 0 0] 31 (0, 0)) (zK BK643) k_ hn_))⟩)) (below_size zB)); have n1_ := Aside0.mk (blk_below (g := gb641) (o := .cells #[.int .u32 a0_0, .int .i64 a0_1, .slice A0_2 l0_2.length c0_2, .int .i64 a0_3, .int .i64 a0_4, .slice A0_5 l0_5.length c0_5] 31 (0, 0)) (zK BK641) hb); have n2_ := Aside0.mk (blk_below (g := gb642) (o := .cells #[.int .u32 0, .int .i64 0, .slice none 0 0, .int .i64 0, .int .i64 0, .slice none 0 0] 31 (0, 0)) (zK BK642) hb); have n3_ := Aside0.mk (blk_below (g := gb643) (o := .cells #[.int .u32 x644000_2, .int .i64 x644001_2, .slice none 0 0, .int .i64 (Go.bits .and .i64 a0_3 1023), .int .i64 (Go.bits .and .i64 a0_4 1023), .slice none 0 0] 31 (0, 0)) (zK BK643) hb); have n4_ := Aside0.mk (below_step zB hb); clear BK641; clear BK642; clear BK643; clear HB; have HO647 := n0_; have BK641 := n1_; have BK642 := n2_; have BK643 := n3_; have HB := n4_; clear n0_ n1_ n2_ n3_ n4_; (try clear hb); (try clear hb2); (try clear hk); (try clear hi); (try clear ho0); obtain ⟨Ao23, co23, eo23⟩ := Kd.V_slice HO647.out; subst eo23))
 go_loopg [27] kj2 (fun kq v27 w' => ∃ (x27_2 : Int) (x644002_2 : List Int) (u644002 : Value), v27 = .int .i64 x27_2 ∧ Aside0 (g10_.l0 kq t645 (t645.length : Int) x27_2 a0_0 a0_1 l0_2 a0_3 a0_4 l0_5 x644000_2 x644001_2 x644002_2 (Go.bits .and .i64 a0_3 1023) (Go.bits .and .i64 a0_4 1023) = some (r1, r2, r3, r4, r5, r6)) ∧ Aside0 (kq ≤ kj2) ∧ Aside0 (Kd.V (Kd.int .i64) 3 w' w.heap.size (fun k_ => some k_ ≠ (u644002 : Value).ownBlock ∧ k_ ≠ gb641 ∧ k_ ≠ gb642 ∧ k_ ≠ gb643) (.slice Ao23 t645.length co23) t645) ∧ Aside0 (Kd.R (Kd.int .i64) 3 w' w.heap.size (fun _ => True) u644002 x644002_2) ∧ Aside0 (w'.heap[gb641]? = some (.cells #[.int .u32 a0_0, .int .i64 a0_1, (.slice A0_2 l0_2.length c0_2), .int .i64 a0_3, .int .i64 a0_4, (.slice A0_5 l0_5.length c0_5)] 31 (0, 0))) ∧ Aside0 (w'.heap[gb642]? = some (.cells #[.int .u32 0, .int .i64 0, (.slice none 0 0), .int .i64 0, .int .i64 0, (.slice none 0 0)] 31 (0, 0))) ∧ Aside0 (w'.heap[gb643]? = some (.cells #[.int .u32 x644000_2, .int .i64 x644001_2, u644002, .int .i64 (Go.bits .and .i64 a0_3 1023), .int .i64 (Go.bits .and .i64 a0_4 1023), (.slice none 0 0)] 31 (0, 0))) ∧ Aside0 (Below w.heap.size w w'))
 case atStart => exact ⟨(0), (([] : List Int)), (.slice none 0 0), zR, H', ⟨Nat.le_refl _⟩, ⟨by (with_reducible repeat (first | apply Kd.V_alloc | apply Kd.V_drewN | apply Kd.V_drew)); exact Kd.V_mono HO647.out (fun _ hk => ⟨(by simp [Value.ownBlock]), ⟨hk.1, ⟨hk.2.1, hk.2.2⟩⟩⟩)⟩, ⟨by first | exact Kd.R_nil _ _ _ _ _ | exact Kd.N_nil _ _ _ _ _ | exact Kd.V_nil _ _ _ _ _ | exact Kd.Q_nil _ _ _ _ _ | exact Kd.S_nil _ _ _ _ _⟩, ⟨zK BK641⟩, ⟨zK BK642⟩, ⟨zK BK643⟩, ⟨zB⟩⟩
 clear H'
 try clear c1
 try clear c2
 try clear p2
 try clear c6
 try clear c9
 try clear c10
 try clear c14
 try clear c14b0
 try clear c14b1
 try clear c15
 try clear c16
 try clear c19
 try clear c20
 try clear hcz11_0
 try clear hcz11_1
 try clear hcz11_2
 try clear hcz11_3
 try clear hcz11_4
 try clear hcz11_5
 try clear hcz12_0
 try clear hcz12_1
 try clear hcz12_2
 try clear hcz12_3
 try clear hcz12_4
 try clear hcz12_5
 try clear hcz17_0
 try clear hcz17_1
 try clear hcz17_2
 try clear hcz17_3
 try clear hcz17_4
 try clear hcz17_5
 try clear hcz21_0
 try clear hcz21_1
 try clear hcz21_2
 try clear hcz21_3
 try clear hcz21_4
 try clear hcz21_5
 try clear hcz7_0
 try clear hcz7_1
 try clear hcz7_2
 try clear hcz7_3
 try clear hcz7_4
 try clear hcz7_5
 try clear hfz11_0
 try clear hfz11_1
 try clear hfz11_2
 try clear hfz11_3
 try clear hfz11_4
 try clear hfz11_5
 try clear hfz12_0
 try clear hfz12_1
 try clear hfz12_2
 try clear hfz12_3
 try clear hfz12_4
 try clear hfz12_5
 try clear hfz17_0
 try clear hfz17_1
 try clear hfz17_2
 try clear hfz17_3
 try clear hfz17_4
 try clear hfz17_5
 try clear hfz21_0
 try clear hfz21_1
 try clear hfz21_2
 try clear hfz21_3
 try clear hfz21_4
 try clear hfz21_5
 try clear hfz7_0
 try clear hfz7_1
 try clear hfz7_2
 try clear hfz7_3
 try clear hfz7_4
 try clear hfz7_5
 try clear p2
 obtain ⟨x27_2, x644002_2, u644002, rfl, HA, HK2, HO_25, HO_644002, BK641, BK642, BK643, HB⟩ := hrel
 rcases gk with _ | k2
 · exact absurd HA.out (by simp [g10_.l0])
 have H := HA.out
 clear HA
 simp only [g10_.l0] at H
 by_cases c24 : x27_2 < (t645.length : Int)
 ·
  rw [if_pos c24] at H
  have c24b0 : decide (x27_2 < (t645.length : Int)) = true := decide_eq_true c24
  clear c24
  by_cases c25 : 0 ≤ x27_2
  rotate_left
  · rw [if_neg c25] at H; exact absurd H (by simp)
  rw [if_pos c25] at H
  have c25b0 : decide (0 ≤ x27_2) = true := decide_eq_true c25
  clear c25
  by_cases c26 : x27_2 < (t645.length : Int)
  rotate_left
  · rw [if_neg c26] at H; exact absurd H (by simp)
  rw [if_pos c26] at H
  have c26b0 : decide (x27_2 < (t645.length : Int)) = true := decide_eq_true c26
  clear c26
  by_cases c27 : x644002_2.length < 17592186044416
  rotate_left
  · rw [if_neg c27] at H; exact absurd H (by simp)
  rw [if_pos c27] at H
  have LMc27 := Aside0.mk c27
  clear c27
  obtain ⟨y649, hy649⟩ : ∃ y_ : List Int, y_ = (x644002_2 ++ [wrap64 (1 + (Go.bits .and .i64 (rd t645 x27_2) 15))]) := ⟨_, rfl⟩
  replace H : (g10_.l0 k2 t645 (t645.length : Int) (wrap64 (x27_2 + 1)) a0_0 a0_1 l0_2 a0_3 a0_4 l0_5 x644000_2 x644001_2 y649 (Go.bits .and .i64 a0_3 1023) (Go.bits .and .i64 a0_4 1023)) = some (r1, r2, r3, r4, r5, r6) := by first | (rw [hy649]; with_reducible exact H) | (have H2_ := (Option.bind_some _ _).symm.trans H; rw [hy649]; with_reducible exact H2_) | (have H2_ := (Option.bind_some _ _).symm.trans H; with_reducible exact H2_) | with_reducible exact H | (rw [hy649]; exact H) | exact H
  have Ny649 := Aside0.mk hy649
  clear hy649
  have H' := Aside0.mk H
  clear H
  have p648 : 0 ≤ (x27_2 : Int) := od
  have q648 : x27_2 < (t645.length : Int) := od
  obtain ⟨ad648, e648, hx648_0⟩ := Kd.at_int (Kd.V_reads' HO_25.out).2.2 x27_2 p648 q648
  cases e648
  replace p648 := eq_true p648
  replace q648 := eq_true q648
  have hnb28 := NB643_641.out
  have hnc28 := NB641_643.out
  have hnb29 := NB643_642.out
  have hnc29 := NB642_643.out
  have hcz30_0 : wr.cell? ⟨gb643, 0, none⟩ = some (.int .u32 x644000_2) := zT BK643 0
  have hcz30_1 : wr.cell? ⟨gb643, 1, none⟩ = some (.int .i64 x644001_2) := zT BK643 1
  have hcz30_2 : wr.cell? ⟨gb643, 2, none⟩ = some (u644002) := zT BK643 2
  have hcz30_3 : wr.cell? ⟨gb643, 3, none⟩ = some (.int .i64 (Go.bits .and .i64 a0_3 1023)) := zT BK643 3
  have hcz30_4 : wr.cell? ⟨gb643, 4, none⟩ = some (.int .i64 (Go.bits .and .i64 a0_4 1023)) := zT BK643 4
  have hcz30_5 : wr.cell? ⟨gb643, 5, none⟩ = some (.slice none 0 0) := zT BK643 5
  have hfz30_0 := blk_frozen BK643.out 0
  have hfz30_1 := blk_frozen BK643.out 1
  have hfz30_2 := blk_frozen BK643.out 2
  have hfz30_3 := blk_frozen BK643.out 3
  have hfz30_4 := blk_frozen BK643.out 4
  have hfz30_5 := blk_frozen BK643.out 5
  go_wp2_with (first | ((with_reducible refine gate_builtin (b := .append) (xs := #[.tmp 32, .tmp 36]) rfl ?_); at_builtin; refine Kd.R_append (Kd.int .i64) (w0 := w) w.heap.size rfl (.tmp 32) (.tmp 36) 23 3 (.int .i64 0) 8 rfl Tryd.underlying23 info3 rfl (by decide) (by omega) u644002 x644002_2 (wrap64 (1 + (Go.bits .and .i64 (rd t645 x27_2) 15))) [.int .i64 (wrap64 (1 + (Go.bits .and .i64 (rd t645 x27_2) 15)))] (fun _ => True) (fun _ => False) rfl rfl ?aP (fun _ hk => hk.elim) ?aF ?aO ?aB ?aS ?aL ?_; (case aP => exact rfl); (case aB => exact zB); (case aF => exact (fun _ _ => trivial)); (case aO => exact (zO HO_644002)); (case aS => exact (below_size zB)); (case aL => have := LMc27.out; omega); intro v650 w31 ho hb hg hat; rw [← Ny649.out] at ho; have n0_ := Aside0.mk (Kd.V_afterv (ok := (fun k_ => k_ ≠ gb641 ∧ k_ ≠ gb642 ∧ k_ ≠ gb643)) (by (with_reducible repeat (first | apply Kd.V_alloc | apply Kd.V_drewN | apply Kd.V_drew)); exact Kd.V_mono HO_25.out (fun _ hk => ⟨⟨hk.2.1, ⟨hk.2.2.1, hk.2.2.2⟩⟩, hk.1⟩)) hg hat); have n1_ := Aside0.mk (blk_grown (g := gb641) (o := .cells #[.int .u32 a0_0, .int .i64 a0_1, .slice A0_2 l0_2.length c0_2, .int .i64 a0_3, .int .i64 a0_4, .slice A0_5 l0_5.length c0_5] 31 (0, 0)) (zK BK641) hg (Kd.R_ne HO_644002.out BK641.out (by decide))); have n2_ := Aside0.mk (blk_grown (g := gb642) (o := .cells #[.int .u32 0, .int .i64 0, .slice none 0 0, .int .i64 0, .int .i64 0, .slice none 0 0] 31 (0, 0)) (zK BK642) hg (Kd.R_ne HO_644002.out BK642.out (by decide))); have n3_ := Aside0.mk (blk_grown (g := gb643) (o := .cells #[.int .u32 x644000_2, .int .i64 x644001_2, u644002, .int .i64 (Go.bits .and .i64 a0_3 1023), .int .i64 (Go.bits .and .i64 a0_4 1023), .slice none 0 0] 31 (0, 0)) (zK BK643) hg (Kd.R_ne HO_644002.out BK643.out (by decide))); have n4_ := Aside0.mk (hb); have n5_ := Aside0.mk (ho); clear HO_25; clear BK641; clear BK642; clear BK643; clear HB; clear HO_644002; have HO_25 := n0_; have BK641 := n1_; have BK642 := n2_; have BK643 := n3_; have HB := n4_; have HO651 := n5_; clear n0_ n1_ n2_ n3_ n4_ n5_; clear ho hb hg hat; obtain ⟨Ao32, co32, eo32⟩ := Kd.R_slice HO651.out; subst eo32; have hcz33_0 : w31.cell? ⟨gb643, 0, none⟩ = some (.int .u32 x644000_2) := zT BK643 0; have hcz33_1 : w31.cell? ⟨gb643, 1, none⟩ = some (.int .i64 x644001_2) := zT BK643 1; have hcz33_2 : w31.cell? ⟨gb643, 2, none⟩ = some (u644002) := zT BK643 2; have hcz33_3 : w31.cell? ⟨gb643, 3, none⟩ = some (.int .i64 (Go.bits .and .i64 a0_3 1023)) := zT BK643 3; have hcz33_4 : w31.cell? ⟨gb643, 4, none⟩ = some (.int .i64 (Go.bits .and .i64 a0_4 1023)) := zT BK643 4; have hcz33_5 : w31.cell? ⟨gb643, 5, none⟩ = some (.slice none 0 0) := zT BK643 5; have hfz33_0 := blk_frozen BK643.out 0; have hfz33_1 := blk_frozen BK643.out 1; have hfz33_2 := blk_frozen BK643.out 2; have hfz33_3 := blk_frozen BK643.out 3; have hfz33_4 := blk_frozen BK643.out 4; have hfz33_5 := blk_frozen BK643.out 5))
  go_roundg k2
  case measure => have := HJ2.out; have := HK2.out; omega
  case rel => exact ⟨(wrap64 (x27_2 + 1)), (y649), (.slice Ao32 y649.length co32), zR, H', ⟨by have := HJ2.out; have := HK2.out; omega⟩, ⟨by (with_reducible repeat (first | apply Kd.V_alloc | apply Kd.V_drewN | apply Kd.V_drew)); exact Kd.V_mono (Kd.V_far (p := ⟨gb643, 2, none⟩) (Kd.V_mono HO_25.out (fun k_ hk => (⟨hk, hk.1.2.2⟩ : _ ∧ k_ ≠ gb643))) (fun _ hk => hk.2) (.slice Ao32 y649.length co32)) (fun _ hk => ⟨hk.1.2, ⟨hk.1.1.1, ⟨hk.1.1.2.1, hk.1.1.2.2⟩⟩⟩)⟩, ⟨by (with_reducible repeat (first | apply Kd.R_alloc | apply Kd.R_drewN | apply Kd.R_drew)); exact Kd.R_mono (Kd.R_far (p := ⟨gb643, 2, none⟩) (Kd.R_types HO651.out BK643.out (by decide)) (fun _ hk => hk.2) (.slice Ao32 y649.length co32)) (fun _ hk => trivial)⟩, ⟨by (with_reducible repeat (first | refine blk_drewN ?_ _ | refine blk_drew ?_ | refine blk_alloc ?_ _)); refine blk_far ?_ NB641_643.out _; (with_reducible repeat (first | refine blk_drewN ?_ _ | refine blk_drew ?_ | refine blk_alloc ?_ _)); exact BK641.out⟩, ⟨by (with_reducible repeat (first | refine blk_drewN ?_ _ | refine blk_drew ?_ | refine blk_alloc ?_ _)); refine blk_far ?_ NB642_643.out _; (with_reducible repeat (first | refine blk_drewN ?_ _ | refine blk_drew ?_ | refine blk_alloc ?_ _)); exact BK642.out⟩, ⟨by (with_reducible repeat (first | refine blk_drewN ?_ _ | refine blk_drew ?_ | refine blk_alloc ?_ _)); refine blk_put (cs := #[.int .u32 x644000_2, .int .i64 x644001_2, u644002, .int .i64 (Go.bits .and .i64 a0_3 1023), .int .i64 (Go.bits .and .i64 a0_4 1023), .slice none 0 0]) ?_ 2 _ rfl; (with_reducible repeat (first | refine blk_drewN ?_ _ | refine blk_drew ?_ | refine blk_alloc ?_ _)); exact BK643.out⟩, ⟨zB⟩⟩
 rw [if_neg c24] at H
 have c24b0 : decide (x27_2 < (t645.length : Int)) = false := decide_eq_false c24
 clear c24
 replace H := Option.bind_eq_some_iff.mp H
 obtain ⟨t652, A340, H⟩ := H
 replace H : (g10_.l1 k2 t652 (t652.length : Int) 0 x644000_2 x644001_2 x644002_2 (Go.bits .and .i64 a0_3 1023) (Go.bits .and .i64 a0_4 1023) ([] : List Int)) = some (r1, r2, r3, r4, r5, r6) := H
 have A34 := Aside0.mk A340
 clear A340
 have H' := Aside0.mk H
 clear H
 have hnb35 := NB641_642.out
 have hnc35 := NB642_641.out
 have hnb36 := NB641_643.out
 have hnc36 := NB643_641.out
 have hcz37_0 : wr.cell? ⟨gb641, 0, none⟩ = some (.int .u32 a0_0) := zT BK641 0
 have hcz37_1 : wr.cell? ⟨gb641, 1, none⟩ = some (.int .i64 a0_1) := zT BK641 1
 have hcz37_2 : wr.cell? ⟨gb641, 2, none⟩ = some (.slice A0_2 l0_2.length c0_2) := zT BK641 2
 have hcz37_3 : wr.cell? ⟨gb641, 3, none⟩ = some (.int .i64 a0_3) := zT BK641 3
 have hcz37_4 : wr.cell? ⟨gb641, 4, none⟩ = some (.int .i64 a0_4) := zT BK641 4
 have hcz37_5 : wr.cell? ⟨gb641, 5, none⟩ = some (.slice A0_5 l0_5.length c0_5) := zT BK641 5
 have hfz37_0 := blk_frozen BK641.out 0
 have hfz37_1 := blk_frozen BK641.out 1
 have hfz37_2 := blk_frozen BK641.out 2
 have hfz37_3 := blk_frozen BK641.out 3
 have hfz37_4 := blk_frozen BK641.out 4
 have hfz37_5 := blk_frozen BK641.out 5
 go_wp2_with (first | ((with_reducible refine gate_callee (f := 26) rfl ?_); refine goesL_ (some 42) rfl rfl Tryd.func26 (by kernel_rfl) rfl #[.slice A0_5 l0_5.length c0_5, .int .i64 4] rfl zM ?_; (with_reducible refine (g28_.calls (fun k_ => k_ < w.heap.size) _ _ l0_5 4 t652 _ ?side1 A34.out).mono ?_); (case side1 => exact Kd.V_mk HC0_5.out (Kd.F_below (Kd.C_F (Kd.heap_int .i64) HR0_5.out) zB)); rintro e w38 ⟨v653, rfl, ho0, hb⟩; refine ⟨_, rfl, ?_⟩; have n0_ := Aside0.mk (Kd.V_below (by (with_reducible repeat (first | apply Kd.V_alloc | apply Kd.V_drewN | apply Kd.V_drew)); exact HO_25.out) hb); have n1_ := Aside0.mk (Kd.R_below (zO HO_644002) hb); have n2_ := Aside0.mk (Kd.V_lower (Kd.V_mono (ok' := fun k_ => some k_ ≠ (u644002 : Value).ownBlock ∧ k_ ≠ gb641 ∧ k_ ≠ gb642 ∧ k_ ≠ gb643) ho0 (fun k_ hk_ => ⟨Or.elim hk_ (fun hs_ => fun e_ => Nat.not_le.2 hs_ (Kd.R_base HO_644002.out k_ e_.symm)) (fun hn_ => (Kd.fresh' (Kd.R_lt (zO HO_644002)) k_ hn_)), Or.elim hk_ (fun hs_ => fun e_ => Nat.not_le.2 hs_ (by rw [e_]; exact GW641.out)) (fun hn_ => (Kd.freshB (g := gb641) (o := .cells #[.int .u32 a0_0, .int .i64 a0_1, .slice A0_2 l0_2.length c0_2, .int .i64 a0_3, .int .i64 a0_4, .slice A0_5 l0_5.length c0_5] 31 (0, 0)) (zK BK641) k_ hn_)), Or.elim hk_ (fun hs_ => fun e_ => Nat.not_le.2 hs_ (by rw [e_]; exact GW642.out)) (fun hn_ => (Kd.freshB (g := gb642) (o := .cells #[.int .u32 0, .int .i64 0, .slice none 0 0, .int .i64 0, .int .i64 0, .slice none 0 0] 31 (0, 0)) (zK BK642) k_ hn_)), Or.elim hk_ (fun hs_ => fun e_ => Nat.not_le.2 hs_ (by rw [e_]; exact GW643.out)) (fun hn_ => (Kd.freshB (g := gb643) (o := .cells #[.int .u32 x644000_2, .int .i64 x644001_2, u644002, .int .i64 (Go.bits .and .i64 a0_3 1023), .int .i64 (Go.bits .and .i64 a0_4 1023), .slice none 0 0] 31 (0, 0)) (zK BK643) k_ hn_))⟩)) (below_size zB)); have n3_ := Aside0.mk (blk_below (g := gb641) (o := .cells #[.int .u32 a0_0, .int .i64 a0_1, .slice A0_2 l0_2.length c0_2, .int .i64 a0_3, .int .i64 a0_4, .slice A0_5 l0_5.length c0_5] 31 (0, 0)) (zK BK641) hb); have n4_ := Aside0.mk (blk_below (g := gb642) (o := .cells #[.int .u32 0, .int .i64 0, .slice none 0 0, .int .i64 0, .int .i64 0, .slice none 0 0] 31 (0, 0)) (zK BK642) hb); have n5_ := Aside0.mk (blk_below (g := gb643) (o := .cells #[.int .u32 x644000_2, .int .i64 x644001_2, u644002, .int .i64 (Go.bits .and .i64 a0_3 1023), .int .i64 (Go.bits .and .i64 a0_4 1023), .slice none 0 0] 31 (0, 0)) (zK BK643) hb); have n6_ := Aside0.mk (below_step zB hb); clear HO_25; clear HO_644002; clear BK641; clear BK642; clear BK643; clear HB; have HO_25 := n0_; have HO_644002 := n1_; have HO654 := n2_; have BK641 := n3_; have BK642 := n4_; have BK643 := n5_; have HB := n6_; clear n0_ n1_ n2_ n3_ n4_ n5_ n6_; (try clear hb); (try clear hb2); (try clear hk); (try clear hi); (try clear ho0); obtain ⟨Ao39, co39, eo39⟩ := Kd.V_slice HO654.out; subst eo39))
 go_loopg [44] k2 (fun kq v44 w' => ∃ (x44_3 : Int) (x644005_3 : List Int) (u644005 : Value), v44 = .int .i64 x44_3 ∧ Aside0 (g10_.l1 kq t652 (t652.length : Int) x44_3 x644000_2 x644001_2 x644002_2 (Go.bits .and .i64 a0_3 1023) (Go.bits .and .i64 a0_4 1023) x644005_3 = some (r1, r2, r3, r4, r5, r6)) ∧ Aside0 (kq ≤ k2) ∧ Aside0 (Kd.V (Kd.int .i64) 3 w' w.heap.size (fun k_ => some k_ ≠ (u644002 : Value).ownBlock ∧ some k_ ≠ (u644005 : Value).ownBlock ∧ k_ ≠ gb641 ∧ k_ ≠ gb642 ∧ k_ ≠ gb643) (.slice Ao39 t652.length co39) t652) ∧ Aside0 (Kd.R (Kd.int .i64) 3 w' w.heap.size (fun k_ => some k_ ≠ (u644005 : Value).ownBlock) u644002 x644002_2) ∧ Aside0 (Kd.R (Kd.int .i64) 3 w' w.heap.size (fun k_ => some k_ ≠ (u644002 : Value).ownBlock) u644005 x644005_3) ∧ Aside0 (w'.heap[gb641]? = some (.cells #[.int .u32 a0_0, .int .i64 a0_1, (.slice A0_2 l0_2.length c0_2), .int .i64 a0_3, .int .i64 a0_4, (.slice A0_5 l0_5.length c0_5)] 31 (0, 0))) ∧ Aside0 (w'.heap[gb642]? = some (.cells #[.int .u32 0, .int .i64 0, (.slice none 0 0), .int .i64 0, .int .i64 0, (.slice none 0 0)] 31 (0, 0))) ∧ Aside0 (w'.heap[gb643]? = some (.cells #[.int .u32 x644000_2, .int .i64 x644001_2, u644002, .int .i64 (Go.bits .and .i64 a0_3 1023), .int .i64 (Go.bits .and .i64 a0_4 1023), u644005] 31 (0, 0))) ∧ Aside0 (Below w.heap.size w w'))
 case atStart => exact ⟨(0), (([] : List Int)), (.slice none 0 0), zR, H', ⟨Nat.le_refl _⟩, ⟨by (with_reducible repeat (first | apply Kd.V_alloc | apply Kd.V_drewN | apply Kd.V_drew)); exact Kd.V_mono HO654.out (fun _ hk => ⟨hk.1, ⟨(by simp [Value.ownBlock]), ⟨hk.2.1, ⟨hk.2.2.1, hk.2.2.2⟩⟩⟩⟩)⟩, ⟨by (with_reducible repeat (first | apply Kd.R_alloc | apply Kd.R_drewN | apply Kd.R_drew)); exact Kd.R_mono HO_644002.out (fun _ hk => (by simp [Value.ownBlock]))⟩, ⟨by first | exact Kd.R_nil _ _ _ _ _ | exact Kd.N_nil _ _ _ _ _ | exact Kd.V_nil _ _ _ _ _ | exact Kd.Q_nil _ _ _ _ _ | exact Kd.S_nil _ _ _ _ _⟩, ⟨zK BK641⟩, ⟨zK BK642⟩, ⟨zK BK643⟩, ⟨zB⟩⟩
 clear H'
 try clear c1
 try clear c2
 try clear p2
 try clear c3
 try clear c6
 try clear p6
 try clear q6
 try clear hx6
 try clear c9
 try clear c10
 try clear c14
 try clear c14b0
 try clear c14b1
 try clear c15
 try clear c16
 try clear c19
 try clear c20
 try clear c24
 try clear c24b0
 try clear c25
 try clear c25b0
 try clear c26
 try clear c26b0
 try clear c27
 try clear c28
 try clear c29
 try clear c35
 try clear c36
 try clear hcz11_0
 try clear hcz11_1
 try clear hcz11_2
 try clear hcz11_3
 try clear hcz11_4
 try clear hcz11_5
 try clear hcz12_0
 try clear hcz12_1
 try clear hcz12_2
 try clear hcz12_3
 try clear hcz12_4
 try clear hcz12_5
 try clear hcz17_0
 try clear hcz17_1
 try clear hcz17_2
 try clear hcz17_3
 try clear hcz17_4
 try clear hcz17_5
 try clear hcz21_0
 try clear hcz21_1
 try clear hcz21_2
 try clear hcz21_3
 try clear hcz21_4
 try clear hcz21_5
 try clear hcz30_0
 try clear hcz30_1
 try clear hcz30_2
 try clear hcz30_3
 try clear hcz30_4
 try clear hcz30_5
 try clear hcz33_0
 try clear hcz33_1
 try clear hcz33_2
 try clear hcz33_3
 try clear hcz33_4
 try clear hcz33_5
 try clear hcz37_0
 try clear hcz37_1
 try clear hcz37_2
 try clear hcz37_3
 try clear hcz37_4
 try clear hcz37_5
 try clear hcz7_0
 try clear hcz7_1
 try clear hcz7_2
 try clear hcz7_3
 try clear hcz7_4
 try clear hcz7_5
 try clear hfz11_0
 try clear hfz11_1
 try clear hfz11_2
 try clear hfz11_3
 try clear hfz11_4
 try clear hfz11_5
 try clear hfz12_0
 try clear hfz12_1
 try clear hfz12_2
 try clear hfz12_3
 try clear hfz12_4
 try clear hfz12_5
 try clear hfz17_0
 try clear hfz17_1
 try clear hfz17_2
 try clear hfz17_3
 try clear hfz17_4
 try clear hfz17_5
 try clear hfz21_0
 try clear hfz21_1
 try clear hfz21_2
 try clear hfz21_3
 try clear hfz21_4
 try clear hfz21_5
 try clear hfz30_0
 try clear hfz30_1
 try clear hfz30_2
 try clear hfz30_3
 try clear hfz30_4
 try clear hfz30_5
 try clear hfz33_0
 try clear hfz33_1
 try clear hfz33_2
 try clear hfz33_3
 try clear hfz33_4
 try clear hfz33_5
 try clear hfz37_0
 try clear hfz37_1
 try clear hfz37_2
 try clear hfz37_3
 try clear hfz37_4
 try clear hfz37_5
 try clear hfz7_0
 try clear hfz7_1
 try clear hfz7_2
 try clear hfz7_3
 try clear hfz7_4
 try clear hfz7_5
 try clear hx648_0
 try clear p2
 try clear p648
 try clear q648
 obtain ⟨x44_3, x644005_3, u644005, rfl, HA, HK3, HO_42, HO_644002, HO_644005, BK641, BK642, BK643, HB⟩ := hrel
 rcases gk with _ | k3
 · exact absurd HA.out (by simp [g10_.l1])
 have H := HA.out
 clear HA
 simp only [g10_.l1] at H
 by_cases c40 : x44_3 < (t652.length : Int)
 rotate_left
 ·
  rw [if_neg c40] at H
  have c40b0 : decide (x44_3 < (t652.length : Int)) = false := decide_eq_false c40
  clear c40
  replace H := Option.bind_eq_some_iff.mp H
  obtain ⟨t659, A500, H⟩ := H
  replace H : ((g9_.f k3 t659).bind fun t660 => (some (x644000_2, x644001_2, x644002_2, (Go.bits .and .i64 a0_3 1023), (Go.bits .and .i64 a0_4 1023), t660))) = some (r1, r2, r3, r4, r5, r6) := H
  have A50 := Aside0.mk A500
  clear A500
  replace H := Option.bind_eq_some_iff.mp H
  obtain ⟨t660, A510, H⟩ := H
  replace H : (some (x644000_2, x644001_2, x644002_2, (Go.bits .and .i64 a0_3 1023), (Go.bits .and .i64 a0_4 1023), t660)) = some (r1, r2, r3, r4, r5, r6) := H
  have A51 := Aside0.mk A510
  clear A510
  simp only [Option.some.injEq, Prod.mk.injEq] at H
  obtain ⟨rfl, rfl, rfl, rfl, rfl, rfl⟩ := H
  have hnb52 := NB643_641.out
  have hnc52 := NB641_643.out
  have hnb53 := NB643_642.out
  have hnc53 := NB642_643.out
  have hcz54_0 : wr.cell? ⟨gb643, 0, none⟩ = some (.int .u32 x644000_2) := zT BK643 0
  have hcz54_1 : wr.cell? ⟨gb643, 1, none⟩ = some (.int .i64 x644001_2) := zT BK643 1
  have hcz54_2 : wr.cell? ⟨gb643, 2, none⟩ = some (u644002) := zT BK643 2
  have hcz54_3 : wr.cell? ⟨gb643, 3, none⟩ = some (.int .i64 (Go.bits .and .i64 a0_3 1023)) := zT BK643 3
  have hcz54_4 : wr.cell? ⟨gb643, 4, none⟩ = some (.int .i64 (Go.bits .and .i64 a0_4 1023)) := zT BK643 4
  have hcz54_5 : wr.cell? ⟨gb643, 5, none⟩ = some (u644005) := zT BK643 5
  have hfz54_0 := blk_frozen BK643.out 0
  have hfz54_1 := blk_frozen BK643.out 1
  have hfz54_2 := blk_frozen BK643.out 2
  have hfz54_3 := blk_frozen BK643.out 3
  have hfz54_4 := blk_frozen BK643.out 4
  have hfz54_5 := blk_frozen BK643.out 5
  obtain ⟨Ao55, co55, eo55⟩ := Kd.R_slice HO_644005.out
  subst eo55
  go_wp2_with (first | ((with_reducible refine gate_callee (f := 27) rfl ?_); refine goesL_ (some 59) rfl rfl Tryd.func27 (by kernel_rfl) rfl #[.slice Ao55 x644005_3.length co55] rfl zM ?_; (with_reducible refine (g18_.calls k3 (fun k_ => some k_ = (.slice Ao55 x644005_3.length co55 : Value).ownBlock) (.slice Ao55 x644005_3.length co55) x644005_3 t659 w _ ?side1 ?side2 A50.out).mono ?_); (case side1 => repeat (first | (with_reducible first | exact HB.out | apply below_alloc | apply pw_below_drewN | apply below_drew1 | refine below_set ?_ GE641.out | refine below_set ?_ GE642.out | refine below_set ?_ GE643.out) | exact HB.out)); (case side2 => exact Kd.R_tight rfl HO_644005.out); rintro e w56 ⟨rfl, hy0, hb, hkp⟩; refine ⟨_, rfl, ?_⟩; have n0_ := Aside0.mk (Kd.V_mono (ok' := fun k_ => some k_ ≠ (u644002 : Value).ownBlock ∧ some k_ ≠ (.slice Ao55 x644005_3.length co55 : Value).ownBlock ∧ k_ ≠ gb641 ∧ k_ ≠ gb642 ∧ k_ ≠ gb643) (Kd.V_keptB (HO_42.out) hkp (fun k_ hk_ hs_ => (hk_.2.1) hs_)) (fun k_ hk_ => ⟨hk_.1.1, hk_.1.2.1, hk_.1.2.2.1, hk_.1.2.2.2.1, hk_.1.2.2.2.2⟩)); have n1_ := Aside0.mk (Kd.R_mono (ok' := fun k_ => some k_ ≠ (.slice Ao55 x644005_3.length co55 : Value).ownBlock) (Kd.R_keptB (HO_644002.out) hkp (fun k_ hk_ hs_ => (hk_) hs_)) (fun k_ hk_ => hk_.1)); have n2_ := Aside0.mk (Kd.R_reok rfl hy0 (fun k_ e_ => HO_644005.out.1 k_ e_)); have n3_ := Aside0.mk (blk_kept (zK BK641) hkp (fun hs_ => (fun e_ => (Kd.R_ne HO_644005.out BK641.out (by decide)) e_) hs_)); have n4_ := Aside0.mk (blk_kept (zK BK642) hkp (fun hs_ => (fun e_ => (Kd.R_ne HO_644005.out BK642.out (by decide)) e_) hs_)); have n5_ := Aside0.mk (blk_kept (zK BK643) hkp (fun hs_ => (fun e_ => (Kd.R_ne HO_644005.out BK643.out (by decide)) e_) hs_)); have n6_ := Aside0.mk (hb); clear HO_42; clear HO_644002; clear HO_644005; clear BK641; clear BK642; clear BK643; clear HB; have HO_42 := n0_; have HO_644002 := n1_; have HO_644005 := n2_; have BK641 := n3_; have BK642 := n4_; have BK643 := n5_; have HB := n6_; clear n0_ n1_ n2_ n3_ n4_ n5_ n6_; (try clear hb); (try clear hkp); (try clear hy0); have hcz57_0 : w56.cell? ⟨gb643, 0, none⟩ = some (.int .u32 x644000_2) := zT BK643 0; have hcz57_1 : w56.cell? ⟨gb643, 1, none⟩ = some (.int .i64 x644001_2) := zT BK643 1; have hcz57_2 : w56.cell? ⟨gb643, 2, none⟩ = some (u644002) := zT BK643 2; have hcz57_3 : w56.cell? ⟨gb643, 3, none⟩ = some (.int .i64 (Go.bits .and .i64 a0_3 1023)) := zT BK643 3; have hcz57_4 : w56.cell? ⟨gb643, 4, none⟩ = some (.int .i64 (Go.bits .and .i64 a0_4 1023)) := zT BK643 4; have hcz57_5 : w56.cell? ⟨gb643, 5, none⟩ = some (.slice Ao55 x644005_3.length co55) := zT BK643 5; have hfz57_0 := blk_frozen BK643.out 0; have hfz57_1 := blk_frozen BK643.out 1; have hfz57_2 := blk_frozen BK643.out 2; have hfz57_3 := blk_frozen BK643.out 3; have hfz57_4 := blk_frozen BK643.out 4; have hfz57_5 := blk_frozen BK643.out 5) | ((with_reducible refine gate_callee (f := 28) rfl ?_); refine goesL_ (some 62) rfl rfl Tryd.func28 (by kernel_rfl) rfl #[.slice Ao55 x644005_3.length co55] rfl zM ?_; (with_reducible refine (g9_.calls k3 (fun k_ => some k_ = (.slice Ao55 x644005_3.length co55 : Value).ownBlock) (.slice Ao55 x644005_3.length co55) t659 t660 w _ ?side1 ?side2 A51.out).mono ?_); (case side1 => repeat (first | (with_reducible first | exact HB.out | apply below_alloc | apply pw_below_drewN | apply below_drew1 | refine below_set ?_ GE641.out | refine below_set ?_ GE642.out | refine below_set ?_ GE643.out) | exact HB.out)); (case side2 => exact Kd.R_tight rfl HO_644005.out); rintro e w58 ⟨v661, rfl, ho0, hb, hkp⟩; refine ⟨_, rfl, ?_⟩; have n0_ := Aside0.mk (Kd.V_mono (ok' := fun k_ => some k_ ≠ (u644002 : Value).ownBlock ∧ k_ ≠ gb641 ∧ k_ ≠ gb642 ∧ k_ ≠ gb643 ∧ some k_ ≠ (v661 : Value).ownBlock) (Kd.V_keptB (HO_42.out) hkp (fun k_ hk_ hs_ => (hk_.2.1) hs_)) (fun k_ hk_ => ⟨hk_.1.1, hk_.1.2.2.1, hk_.1.2.2.2.1, hk_.1.2.2.2.2, fun e_ => Or.elim (ho0.1 k_ e_.symm) (fun hs_ => hk_.2.1 hs_) (fun hn_ => Nat.not_le.2 hk_.2.2 hn_)⟩)); have n1_ := Aside0.mk (Kd.R_mono (ok' := fun k_ => some k_ ≠ (v661 : Value).ownBlock) (Kd.R_keptB (HO_644002.out) hkp (fun k_ hk_ hs_ => (hk_) hs_)) (fun k_ hk_ => fun e_ => Or.elim (ho0.1 k_ e_.symm) (fun hs_ => hk_.2.1 hs_) (fun hn_ => Nat.not_le.2 hk_.2.2 hn_))); have n2_ := Aside0.mk (blk_kept (zK BK641) hkp (fun hs_ => (fun e_ => (Kd.R_ne HO_644005.out BK641.out (by decide)) e_) hs_)); have n3_ := Aside0.mk (blk_kept (zK BK642) hkp (fun hs_ => (fun e_ => (Kd.R_ne HO_644005.out BK642.out (by decide)) e_) hs_)); have n4_ := Aside0.mk (blk_kept (zK BK643) hkp (fun hs_ => (fun e_ => (Kd.R_ne HO_644005.out BK643.out (by decide)) e_) hs_)); have n5_ := Aside0.mk (Kd.R_mono (ok' := fun k_ => some k_ ≠ (u644002 : Value).ownBlock) ho0 (fun k_ hk_ => Or.elim hk_ (fun hs_ => fun e_ => (((HO_644002.out).1 k_ e_.symm)) hs_) (fun hn_ => (Kd.fresh' (Kd.R_lt (zO HO_644002)) k_ hn_)))); have n6_ := Aside0.mk (hb); clear HO_42; clear HO_644002; clear BK641; clear BK642; clear BK643; clear HB; clear HO_644005; have HO_42 := n0_; have HO_644002 := n1_; have BK641 := n2_; have BK642 := n3_; have BK643 := n4_; have HO662 := n5_; have HB := n6_; clear n0_ n1_ n2_ n3_ n4_ n5_ n6_; (try clear hb); (try clear hkp); (try clear ho0); obtain ⟨Ao59, co59, eo59⟩ := Kd.R_slice HO662.out; subst eo59; have hcz60_0 : w58.cell? ⟨gb643, 0, none⟩ = some (.int .u32 x644000_2) := zT BK643 0; have hcz60_1 : w58.cell? ⟨gb643, 1, none⟩ = some (.int .i64 x644001_2) := zT BK643 1; have hcz60_2 : w58.cell? ⟨gb643, 2, none⟩ = some (u644002) := zT BK643 2; have hcz60_3 : w58.cell? ⟨gb643, 3, none⟩ = some (.int .i64 (Go.bits .and .i64 a0_3 1023)) := zT BK643 3; have hcz60_4 : w58.cell? ⟨gb643, 4, none⟩ = some (.int .i64 (Go.bits .and .i64 a0_4 1023)) := zT BK643 4; have hcz60_5 : w58.cell? ⟨gb643, 5, none⟩ = some (.slice Ao55 x644005_3.length co55) := zT BK643 5; have hfz60_0 := blk_frozen BK643.out 0; have hfz60_1 := blk_frozen BK643.out 1; have hfz60_2 := blk_frozen BK643.out 2; have hfz60_3 := blk_frozen BK643.out 3; have hfz60_4 := blk_frozen BK643.out 4; have hfz60_5 := blk_frozen BK643.out 5; have hnb61 := NB642_641.out; have hnc61 := NB641_642.out; have hcz62_0 : w58.cell? ⟨gb642, 0, none⟩ = some (.int .u32 0) := zT BK642 0; have hcz62_1 : w58.cell? ⟨gb642, 1, none⟩ = some (.int .i64 0) := zT BK642 1; have hcz62_2 : w58.cell? ⟨gb642, 2, none⟩ = some (.slice none 0 0) := zT BK642 2; have hcz62_3 : w58.cell? ⟨gb642, 3, none⟩ = some (.int .i64 0) := zT BK642 3; have hcz62_4 : w58.cell? ⟨gb642, 4, none⟩ = some (.int .i64 0) := zT BK642 4; have hcz62_5 : w58.cell? ⟨gb642, 5, none⟩ = some (.slice none 0 0) := zT BK642 5; have hfz62_0 := blk_frozen BK642.out 0; have hfz62_1 := blk_frozen BK642.out 1; have hfz62_2 := blk_frozen BK642.out 2; have hfz62_3 := blk_frozen BK642.out 3; have hfz62_4 := blk_frozen BK642.out 4; have hfz62_5 := blk_frozen BK642.out 5; obtain ⟨Ao63, co63, eo63⟩ := Kd.R_slice HO_644002.out; subst eo63))
  refine bodyPost_ret (results_cell_row rfl _ _ gb642 31 #[.int .u32 x644000_2, .int .i64 x644001_2, .slice Ao63 x644002_2.length co63, .int .i64 (Go.bits .and .i64 a0_3 1023), .int .i64 (Go.bits .and .i64 a0_4 1023), .slice Ao59 t660.length co59] (0, 0) _ rfl (by (with_reducible repeat (first | refine blk_drewN ?_ _ | refine blk_drew ?_ | refine blk_alloc ?_ _)); refine blk_put (cs := #[.int .u32 x644000_2, .int .i64 x644001_2, .slice Ao63 x644002_2.length co63, .int .i64 (Go.bits .and .i64 a0_3 1023), .int .i64 (Go.bits .and .i64 a0_4 1023), .slice none 0 0]) ?_ 5 _ rfl; (with_reducible repeat (first | refine blk_drewN ?_ _ | refine blk_drew ?_ | refine blk_alloc ?_ _)); refine blk_put (cs := #[.int .u32 x644000_2, .int .i64 x644001_2, .slice Ao63 x644002_2.length co63, .int .i64 (Go.bits .and .i64 a0_3 1023), .int .i64 0, .slice none 0 0]) ?_ 4 _ rfl; (with_reducible repeat (first | refine blk_drewN ?_ _ | refine blk_drew ?_ | refine blk_alloc ?_ _)); refine blk_put (cs := #[.int .u32 x644000_2, .int .i64 x644001_2, .slice Ao63 x644002_2.length co63, .int .i64 0, .int .i64 0, .slice none 0 0]) ?_ 3 _ rfl; (with_reducible repeat (first | refine blk_drewN ?_ _ | refine blk_drew ?_ | refine blk_alloc ?_ _)); refine blk_put (cs := #[.int .u32 x644000_2, .int .i64 x644001_2, .slice none 0 0, .int .i64 0, .int .i64 0, .slice none 0 0]) ?_ 2 _ rfl; (with_reducible repeat (first | refine blk_drewN ?_ _ | refine blk_drew ?_ | refine blk_alloc ?_ _)); refine blk_put (cs := #[.int .u32 x644000_2, .int .i64 0, .slice none 0 0, .int .i64 0, .int .i64 0, .slice none 0 0]) ?_ 1 _ rfl; (with_reducible repeat (first | refine blk_drewN ?_ _ | refine blk_drew ?_ | refine blk_alloc ?_ _)); refine blk_put (cs := #[.int .u32 0, .int .i64 0, .slice none 0 0, .int .i64 0, .int .i64 0, .slice none 0 0]) ?_ 0 _ rfl; (with_reducible repeat (first | refine blk_drewN ?_ _ | refine blk_drew ?_ | refine blk_alloc ?_ _)); refine blk_far ?_ NB642_643.out _; (with_reducible repeat (first | refine blk_drewN ?_ _ | refine blk_drew ?_ | refine blk_alloc ?_ _)); exact BK642.out) Tryd.underlying31 rfl (by kernel_rfl)) rfl ?_
  exact ⟨_, _, zE, by (with_reducible repeat (first | apply Kd.R_alloc | apply Kd.R_drewN | apply Kd.R_drew)); exact Kd.R_mono (Kd.R_far (p := ⟨gb642, 5, none⟩) (Kd.R_far (p := ⟨gb642, 4, none⟩) (Kd.R_far (p := ⟨gb642, 3, none⟩) (Kd.R_far (p := ⟨gb642, 2, none⟩) (Kd.R_far (p := ⟨gb642, 1, none⟩) (Kd.R_far (p := ⟨gb642, 0, none⟩) (Kd.R_far (p := ⟨gb643, 5, none⟩) (Kd.R_types (Kd.R_types HO_644002.out BK643.out (by decide)) BK642.out (by decide)) (fun _ hk => hk.1.2) (.slice Ao59 t660.length co59)) (fun _ hk => hk.2) (.int .u32 x644000_2)) (fun _ hk => hk.2) (.int .i64 x644001_2)) (fun _ hk => hk.2) (.slice Ao63 x644002_2.length co63)) (fun _ hk => hk.2) (.int .i64 (Go.bits .and .i64 a0_3 1023))) (fun _ hk => hk.2) (.int .i64 (Go.bits .and .i64 a0_4 1023))) (fun _ hk => hk.2) (.slice Ao59 t660.length co59)) (fun _ hk => hk.1.1), by (with_reducible repeat (first | apply Kd.R_alloc | apply Kd.R_drewN | apply Kd.R_drew)); exact Kd.R_mono (Kd.R_far (p := ⟨gb642, 5, none⟩) (Kd.R_far (p := ⟨gb642, 4, none⟩) (Kd.R_far (p := ⟨gb642, 3, none⟩) (Kd.R_far (p := ⟨gb642, 2, none⟩) (Kd.R_far (p := ⟨gb642, 1, none⟩) (Kd.R_far (p := ⟨gb642, 0, none⟩) (Kd.R_far (p := ⟨gb643, 5, none⟩) (Kd.R_types (Kd.R_types HO662.out BK643.out (by decide)) BK642.out (by decide)) (fun _ hk => hk.1.2) (.slice Ao59 t660.length co59)) (fun _ hk => hk.2) (.int .u32 x644000_2)) (fun _ hk => hk.2) (.int .i64 x644001_2)) (fun _ hk => hk.2) (.slice Ao63 x644002_2.length co63)) (fun _ hk => hk.2) (.int .i64 (Go.bits .and .i64 a0_3 1023))) (fun _ hk => hk.2) (.int .i64 (Go.bits .and .i64 a0_4 1023))) (fun _ hk => hk.2) (.slice Ao59 t660.length co59)) (fun _ hk => hk.1.1), zB⟩
 rw [if_pos c40] at H
 have c40b0 : decide (x44_3 < (t652.length : Int)) = true := decide_eq_true c40
 clear c40
 by_cases c41 : 0 ≤ x44_3
 rotate_left
 · rw [if_neg c41] at H; exact absurd H (by simp)
 rw [if_pos c41] at H
 have c41b0 : decide (0 ≤ x44_3) = true := decide_eq_true c41
 clear c41
 by_cases c42 : x44_3 < (t652.length : Int)
 rotate_left
 · rw [if_neg c42] at H; exact absurd H (by simp)
 rw [if_pos c42] at H
 have c42b0 : decide (x44_3 < (t652.length : Int)) = true := decide_eq_true c42
 clear c42
 by_cases c43 : x644005_3.length < 17592186044416
 rotate_left
 · rw [if_neg c43] at H; exact absurd H (by simp)
 rw [if_pos c43] at H
 have LMc43 := Aside0.mk c43
 clear c43
 obtain ⟨y656, hy656⟩ : ∃ y_ : List Int, y_ = (x644005_3 ++ [wrap64 (1 + (Go.bits .and .i64 (rd t652 x44_3) 15))]) := ⟨_, rfl⟩
 replace H : (g10_.l1 k3 t652 (t652.length : Int) (wrap64 (x44_3 + 1)) x644000_2 x644001_2 x644002_2 (Go.bits .and .i64 a0_3 1023) (Go.bits .and .i64 a0_4 1023) y656) = some (r1, r2, r3, r4, r5, r6) := by first | (rw [hy656]; with_reducible exact H) | (have H2_ := (Option.bind_some _ _).symm.trans H; rw [hy656]; with_reducible exact H2_) | (have H2_ := (Option.bind_some _ _).symm.trans H; with_reducible exact H2_) | with_reducible exact H | (rw [hy656]; exact H) | exact H
 have Ny656 := Aside0.mk hy656
 clear hy656
 have H' := Aside0.mk H
 clear H
 have p655 : 0 ≤ (x44_3 : Int) := od
 have q655 : x44_3 < (t652.length : Int) := od
 obtain ⟨ad655, e655, hx655_0⟩ := Kd.at_int (Kd.V_reads' HO_42.out).2.2 x44_3 p655 q655
 cases e655
 replace p655 := eq_true p655
 replace q655 := eq_true q655
 have hnb44 := NB643_641.out
 have hnc44 := NB641_643.out
 have hnb45 := NB643_642.out
 have hnc45 := NB642_643.out
 have hcz46_0 : wr.cell? ⟨gb643, 0, none⟩ = some (.int .u32 x644000_2) := zT BK643 0
 have hcz46_1 : wr.cell? ⟨gb643, 1, none⟩ = some (.int .i64 x644001_2) := zT BK643 1
 have hcz46_2 : wr.cell? ⟨gb643, 2, none⟩ = some (u644002) := zT BK643 2
 have hcz46_3 : wr.cell? ⟨gb643, 3, none⟩ = some (.int .i64 (Go.bits .and .i64 a0_3 1023)) := zT BK643 3
 have hcz46_4 : wr.cell? ⟨gb643, 4, none⟩ = some (.int .i64 (Go.bits .and .i64 a0_4 1023)) := zT BK643 4
 have hcz46_5 : wr.cell? ⟨gb643, 5, none⟩ = some (u644005) := zT BK643 5
 have hfz46_0 := blk_frozen BK643.out 0
 have hfz46_1 := blk_frozen BK643.out 1
 have hfz46_2 := blk_frozen BK643.out 2
 have hfz46_3 := blk_frozen BK643.out 3
 have hfz46_4 := blk_frozen BK643.out 4
 have hfz46_5 := blk_frozen BK643.out 5
 go_wp2_with (first | ((with_reducible refine gate_builtin (b := .append) (xs := #[.tmp 49, .tmp 53]) rfl ?_); at_builtin; refine Kd.R_append (Kd.int .i64) (w0 := w) w.heap.size rfl (.tmp 49) (.tmp 53) 23 3 (.int .i64 0) 8 rfl Tryd.underlying23 info3 rfl (by decide) (by omega) u644005 x644005_3 (wrap64 (1 + (Go.bits .and .i64 (rd t652 x44_3) 15))) [.int .i64 (wrap64 (1 + (Go.bits .and .i64 (rd t652 x44_3) 15)))] (fun k_ => some k_ ≠ (u644002 : Value).ownBlock) (fun _ => False) rfl rfl ?aP (fun _ hk => hk.elim) ?aF ?aO ?aB ?aS ?aL ?_; (case aP => exact rfl); (case aB => exact zB); (case aF => exact (fun k_ hk => Kd.fresh' (Kd.R_lt (zO HO_644002)) k_ hk)); (case aO => exact (zO HO_644005)); (case aS => exact (below_size zB)); (case aL => have := LMc43.out; omega); intro v657 w47 ho hb hg hat; rw [← Ny656.out] at ho; have n0_ := Aside0.mk (Kd.V_afterv (ok := (fun k_ => some k_ ≠ (u644002 : Value).ownBlock ∧ k_ ≠ gb641 ∧ k_ ≠ gb642 ∧ k_ ≠ gb643)) (by (with_reducible repeat (first | apply Kd.V_alloc | apply Kd.V_drewN | apply Kd.V_drew)); exact Kd.V_mono HO_42.out (fun _ hk => ⟨⟨hk.1, ⟨hk.2.2.1, ⟨hk.2.2.2.1, hk.2.2.2.2⟩⟩⟩, hk.2.1⟩)) hg hat); have n1_ := Aside0.mk (Kd.R_after (ok := (fun _ => True)) (by (with_reducible repeat (first | apply Kd.R_alloc | apply Kd.R_drewN | apply Kd.R_drew)); exact Kd.R_mono HO_644002.out (fun _ hk => ⟨trivial, hk⟩)) hg hat); have n2_ := Aside0.mk (blk_grown (g := gb641) (o := .cells #[.int .u32 a0_0, .int .i64 a0_1, .slice A0_2 l0_2.length c0_2, .int .i64 a0_3, .int .i64 a0_4, .slice A0_5 l0_5.length c0_5] 31 (0, 0)) (zK BK641) hg (Kd.R_ne HO_644005.out BK641.out (by decide))); have n3_ := Aside0.mk (blk_grown (g := gb642) (o := .cells #[.int .u32 0, .int .i64 0, .slice none 0 0, .int .i64 0, .int .i64 0, .slice none 0 0] 31 (0, 0)) (zK BK642) hg (Kd.R_ne HO_644005.out BK642.out (by decide))); have n4_ := Aside0.mk (blk_grown (g := gb643) (o := .cells #[.int .u32 x644000_2, .int .i64 x644001_2, u644002, .int .i64 (Go.bits .and .i64 a0_3 1023), .int .i64 (Go.bits .and .i64 a0_4 1023), u644005] 31 (0, 0)) (zK BK643) hg (Kd.R_ne HO_644005.out BK643.out (by decide))); have n5_ := Aside0.mk (hb); have n6_ := Aside0.mk (ho); clear HO_42; clear HO_644002; clear BK641; clear BK642; clear BK643; clear HB; clear HO_644005; have HO_42 := n0_; have HO_644002 := n1_; have BK641 := n2_; have BK642 := n3_; have BK643 := n4_; have HB := n5_; have HO658 := n6_; clear n0_ n1_ n2_ n3_ n4_ n5_ n6_; clear ho hb hg hat; obtain ⟨Ao48, co48, eo48⟩ := Kd.R_slice HO658.out; subst eo48; have hcz49_0 : w47.cell? ⟨gb643, 0, none⟩ = some (.int .u32 x644000_2) := zT BK643 0; have hcz49_1 : w47.cell? ⟨gb643, 1, none⟩ = some (.int .i64 x644001_2) := zT BK643 1; have hcz49_2 : w47.cell? ⟨gb643, 2, none⟩ = some (u644002) := zT BK643 2; have hcz49_3 : w47.cell? ⟨gb643, 3, none⟩ = some (.int .i64 (Go.bits .and .i64 a0_3 1023)) := zT BK643 3; have hcz49_4 : w47.cell? ⟨gb643, 4, none⟩ = some (.int .i64 (Go.bits .and .i64 a0_4 1023)) := zT BK643 4; have hcz49_5 : w47.cell? ⟨gb643, 5, none⟩ = some (u644005) := zT BK643 5; have hfz49_0 := blk_frozen BK643.out 0; have hfz49_1 := blk_frozen BK643.out 1; have hfz49_2 := blk_frozen BK643.out 2; have hfz49_3 := blk_frozen BK643.out 3; have hfz49_4 := blk_frozen BK643.out 4; have hfz49_5 := blk_frozen BK643.out 5))
 go_roundg k3
 case measure => have := HJ2.out; have := HK2.out; have := HK3.out; omega
 case rel => exact ⟨(wrap64 (x44_3 + 1)), (y656), (.slice Ao48 y656.length co48), zR, H', ⟨by have := HJ2.out; have := HK2.out; have := HK3.out; omega⟩, ⟨by (with_reducible repeat (first | apply Kd.V_alloc | apply Kd.V_drewN | apply Kd.V_drew)); exact Kd.V_mono (Kd.V_far (p := ⟨gb643, 5, none⟩) (Kd.V_mono HO_42.out (fun k_ hk => (⟨hk, hk.1.2.2.2⟩ : _ ∧ k_ ≠ gb643))) (fun _ hk => hk.2) (.slice Ao48 y656.length co48)) (fun _ hk => ⟨hk.1.1.1, ⟨hk.1.2, ⟨hk.1.1.2.1, ⟨hk.1.1.2.2.1, hk.1.1.2.2.2⟩⟩⟩⟩)⟩, ⟨by (with_reducible repeat (first | apply Kd.R_alloc | apply Kd.R_drewN | apply Kd.R_drew)); exact Kd.R_mono (Kd.R_far (p := ⟨gb643, 5, none⟩) (Kd.R_types HO_644002.out BK643.out (by decide)) (fun _ hk => hk.2) (.slice Ao48 y656.length co48)) (fun _ hk => hk.1.2)⟩, ⟨by (with_reducible repeat (first | apply Kd.R_alloc | apply Kd.R_drewN | apply Kd.R_drew)); exact Kd.R_mono (Kd.R_far (p := ⟨gb643, 5, none⟩) (Kd.R_types HO658.out BK643.out (by decide)) (fun _ hk => hk.2) (.slice Ao48 y656.length co48)) (fun _ hk => hk.1)⟩, ⟨by (with_reducible repeat (first | refine blk_drewN ?_ _ | refine blk_drew ?_ | refine blk_alloc ?_ _)); refine blk_far ?_ NB641_643.out _; (with_reducible repeat (first | refine blk_drewN ?_ _ | refine blk_drew ?_ | refine blk_alloc ?_ _)); exact BK641.out⟩, ⟨by (with_reducible repeat (first | refine blk_drewN ?_ _ | refine blk_drew ?_ | refine blk_alloc ?_ _)); refine blk_far ?_ NB642_643.out _; (with_reducible repeat (first | refine blk_drewN ?_ _ | refine blk_drew ?_ | refine blk_alloc ?_ _)); exact BK642.out⟩, ⟨by (with_reducible repeat (first | refine blk_drewN ?_ _ | refine blk_drew ?_ | refine blk_alloc ?_ _)); refine blk_put (cs := #[.int .u32 x644000_2, .int .i64 x644001_2, u644002, .int .i64 (Go.bits .and .i64 a0_3 1023), .int .i64 (Go.bits .and .i64 a0_4 1023), u644005]) ?_ 5 _ rfl; (with_reducible repeat (first | refine blk_drewN ?_ _ | refine blk_drew ?_ | refine blk_alloc ?_ _)); exact BK643.out⟩, ⟨zB⟩⟩
/-! ### g11_: function 7 -/
def g11_.l0 : Nat → List (S31) → List (S31) → Int → Int → Option ((List (S31)))
  | 0, _, _, _, _ => none
  | k + 1, x5, x10, x11, x12 => if x12 < x11 then (if 0 ≤ x12 then (if x12 < (x10.length : Int) then ((g10_.f k ((rd_T31 x10 x12).f0.f0) ((rd_T31 x10 x12).f0.f1) ((rd_T31 x10 x12).f1) ((rd_T31 x10 x12).f2) ((rd_T31 x10 x12).f3) ((rd_T31 x10 x12).f4)).bind fun bt668 => (if x5.length < 1759218604441 then (g11_.l0 k (x5 ++ [(⟨(⟨167772160, 8⟩ : S29), bt668.2.2.1, Go.bits .and .i64 bt668.2.2.2.1 1, Go.bits .and .i64 bt668.2.2.2.2.1 3, bt668.2.2.2.2.2⟩ : S31)]) x10 x11 (wrap64 (x12 + 1))) else (none))) else (none)) else (none)) else (some x5)
def g11_.f (k : Nat) (l0 : List (S31)) (a1 : Int) : Option ((List (S31))) := (g26_.f l0 a1).bind fun t663 => (g11_.l0 k ([] : List (S31)) t663 (t663.length : Int) 0)
theorem g11_.mono_l : ∀ k, (∀ y0 y1 y2 y3, LeO (g11_.l0 k y0 y1 y2 y3) (g11_.l0 (k + 1) y0 y1 y2 y3))
  | 0 => fun _ _ _ _ r h => by simp [g11_.l0] at h
  | k + 1 => by
    have ih0 := g11_.mono_l k
    · intro y0 y1 y2 y3
      unfold g11_.l0
      repeat' (with_reducible first | exact ih0 _ _ _ _ | exact g10_.mono _ _ _ _ _ _ _ | exact LeO.refl _ | exact LeO.none _ | refine LeO.ite ?_ ?_ | refine LeO.bind ?_ (fun _ => ?_))
theorem g11_.mono : ∀ a0 a1 k, LeO (g11_.f k a0 a1) (g11_.f (k + 1) a0 a1) := by
  intro a0 a1 k
  have ih0 := g11_.mono_l k
  unfold g11_.f
  repeat' (with_reducible first | exact ih0 _ _ _ _ | exact g10_.mono _ _ _ _ _ _ _ | exact LeO.refl _ | exact LeO.none _ | refine LeO.ite ?_ ?_ | refine LeO.bind ?_ (fun _ => ?_))
set_option maxHeartbeats 8000000 in
set_option maxRecDepth 100000 in
theorem g11_.calls (k : Nat) (A0 : Option Addr) (c0 : Nat) (l0 : List (S31)) (a1 : Int) (r : List (S31)) (w : World) (hr0 : Kd.C k31 w A0 l0.length l0) (hc0 : l0.length ≤ c0) (hgl0_0 : w.cell? ⟨0, 0, none⟩ = some (.int .u32 167772160)) (hgl0_1 : w.cell? ⟨0, 1, none⟩ = some (.int .i64 8)) (h : g11_.f k l0 a1 = some r) :
 Calls Tryd.prog 7 #[.slice A0 l0.length c0, .int .i64 a1] w fun e w' => ∃ v0_ : Value, e = .returned (v0_) ∧ Kd.S k31 31 w' w.heap.size (fun _ => True) v0_ r ∧ Below w.heap.size w w' := by
 have hu31 := Tryd.underlying31
 have hu29 := Tryd.underlying29
 have hu3 := Tryd.underlying3
 have HR0 := Aside0.mk hr0
 have HC0 := Aside0.mk hc0
 clear hr0 hc0
 have GL0_0 := Aside0.mk hgl0_0
 clear hgl0_0
 have GL0_1 := Aside0.mk hgl0_1
 clear hgl0_1
 have HB := Aside0.mk (Below.refl w.heap.size w)
 have H : ((g26_.f l0 a1).bind fun t663 => (g11_.l0 k ([] : List (S31)) t663 (t663.length : Int) 0)) = some r := h
 clear h
 replace H := Option.bind_eq_some_iff.mp H
 obtain ⟨t663, A30, H⟩ := H
 replace H : (g11_.l0 k ([] : List (S31)) t663 (t663.length : Int) 0) = some r := H
 have A3 := Aside0.mk A30
 clear A30
 have H' := Aside0.mk H
 clear H
 go_enter Tryd.func7, Tryd.ntmps7
 go_wp2_with (first | ((with_reducible refine gate_callee (f := 19) rfl ?_); refine goesL_ (some 10) rfl rfl Tryd.func19 (by kernel_rfl) rfl #[.slice A0 l0.length c0, .int .i64 a1] rfl zM ?_; (with_reducible refine (g26_.calls (fun k_ => k_ < w.heap.size) _ _ l0 a1 t663 _ ?side1 A3.out).mono ?_); (case side1 => exact Kd.V_mk HC0.out (Kd.F_below (Kd.C_F k31_heap HR0.out) zB)); rintro e w4 ⟨v664, rfl, ho0, hb⟩; refine ⟨_, rfl, ?_⟩; have n0_ := Aside0.mk (Kd.V_lower (Kd.V_mono (ok' := fun k_ => True) ho0 (fun k_ hk_ => trivial)) (below_size zB)); have n1_ := Aside0.mk (below_step zB hb); clear HB; have HO665 := n0_; have HB := n1_; clear n0_ n1_; (try clear hb); (try clear hb2); (try clear hk); (try clear hi); (try clear ho0); obtain ⟨Ao5, co5, eo5⟩ := Kd.V_slice HO665.out; subst eo5))
 go_loopg [5, 12] k (fun kq v5 v12 w' => ∃ (x5_1 : List (S31)) (x12_1 : Int), v12 = .int .i64 x12_1 ∧ Aside0 (g11_.l0 kq x5_1 t663 (t663.length : Int) x12_1 = some r) ∧ Aside0 (kq ≤ k) ∧ Aside0 (Kd.S k31 31 w' w.heap.size (fun _ => True) v5 x5_1) ∧ Aside0 (Kd.V k31 31 w' w.heap.size (fun k_ => some k_ ≠ (v5 : Value).ownBlock) (.slice Ao5 t663.length co5) t663) ∧ Aside0 (Below w.heap.size w w'))
 case atStart => exact ⟨(([] : List (S31))), (0), zR, H', ⟨Nat.le_refl _⟩, ⟨by first | exact Kd.S_nil _ _ _ _ _ | exact Kd.N_nil _ _ _ _ _ | exact Kd.V_nil _ _ _ _ _ | exact Kd.Q_nil _ _ _ _ _ | exact Kd.R_nil _ _ _ _ _⟩, ⟨by (with_reducible repeat (first | apply Kd.V_alloc | apply Kd.V_drewN | apply Kd.V_drew)); exact Kd.V_mono HO665.out (fun _ hk => (by simp [Value.ownBlock]))⟩, ⟨zB⟩⟩
 clear H'
 try clear c1
 try clear p2
 obtain ⟨x5_1, x12_1, rfl, HA, HK1, HO_5, HO_10, HB⟩ := hrel
 rcases gk with _ | k1
 · exact absurd HA.out (by simp [g11_.l0])
 have H := HA.out
 clear HA
 simp only [g11_.l0] at H
 by_cases c6 : x12_1 < (t663.length : Int)
 rotate_left
 ·
  rw [if_neg c6] at H
  have c6b0 : decide (x12_1 < (t663.length : Int)) = false := decide_eq_false c6
  clear c6
  obtain rfl := Option.some.inj H
  go_wp2
  go_ret
  exact ⟨_, zE, by (with_reducible repeat (first | apply Kd.S_alloc | apply Kd.S_drewN | apply Kd.S_drew)); exact HO_5.out, zB⟩
 rw [if_pos c6] at H
 have c6b0 : decide (x12_1 < (t663.length : Int)) = true := decide_eq_true c6
 clear c6
 by_cases c7 : 0 ≤ x12_1
 rotate_left
 · rw [if_neg c7] at H; exact absurd H (by simp)
 rw [if_pos c7] at H
 have c7b0 : decide (0 ≤ x12_1) = true := decide_eq_true c7
 clear c7
 by_cases c8 : x12_1 < (t663.length : Int)
 rotate_left
 · rw [if_neg c8] at H; exact absurd H (by simp)
 rw [if_pos c8] at H
 have c8b0 : decide (x12_1 < (t663.length : Int)) = true := decide_eq_true c8
 clear c8
 replace H := Option.bind_eq_some_iff.mp H
 obtain ⟨⟨t668, t669, t670, t673, t674, t675⟩, A90, H⟩ := H
 replace H : (if x5_1.length < 1759218604441 then (g11_.l0 k1 (x5_1 ++ [(⟨(⟨167772160, 8⟩ : S29), t670, Go.bits .and .i64 t673 1, Go.bits .and .i64 t674 3, t675⟩ : S31)]) t663 (t663.length : Int) (wrap64 (x12_1 + 1))) else (none)) = some r := H
 have A9 := Aside0.mk A90
 clear A90
 by_cases c10 : x5_1.length < 1759218604441
 rotate_left
 · rw [if_neg c10] at H; exact absurd H (by simp)
 rw [if_pos c10] at H
 have LMc10 := Aside0.mk c10
 clear c10
 obtain ⟨y678, hy678⟩ : ∃ y_ : List (S31), y_ = (x5_1 ++ [(⟨(⟨167772160, 8⟩ : S29), t670, Go.bits .and .i64 t673 1, Go.bits .and .i64 t674 3, t675⟩ : S31)]) := ⟨_, rfl⟩
 replace H : (g11_.l0 k1 y678 t663 (t663.length : Int) (wrap64 (x12_1 + 1))) = some r := by first | (rw [hy678]; with_reducible exact H) | (have H2_ := (Option.bind_some _ _).symm.trans H; rw [hy678]; with_reducible exact H2_) | (have H2_ := (Option.bind_some _ _).symm.trans H; with_reducible exact H2_) | with_reducible exact H | (rw [hy678]; exact H) | exact H
 have Ny678 := Aside0.mk hy678
 clear hy678
 have H' := Aside0.mk H
 clear H
 have p666 : 0 ≤ (x12_1 : Int) := od
 have q666 : x12_1 < (t663.length : Int) := od
 obtain ⟨ad666, A666_2, c666_2, A666_5, c666_5, e666, hx666_0, hx666_1, hx666_2, hx666_3, hx666_4, hx666_5, hl666_2, hi666_2, hl666_5, hi666_5⟩ := at_T31 (Kd.V_reads' HO_10.out).2.2 x12_1 p666 q666
 cases e666
 obtain ⟨ce666, hce666, hMe666, hcc666⟩ := Kd.V_get HO_10.out z31 x12_1 p666 (by first | exact q666 | exact od | (have e_ := (Kd.V_reads' HO_10.out).1; omega))
 obtain ⟨ua666_2, uc666_2, ua666_5, uc666_5, rfl, ul666_2, ge666_2, ul666_5, ge666_5⟩ := k31_openF hMe666
 have hv666_2 := hcc666 2 _ rfl
 rw [add_field _ _ 2 (by omega)] at hv666_2
 replace hv666_2 := Option.some.inj (hv666_2.symm.trans hx666_2)
 injection hv666_2 with hva_ hvn_ hvc_
 rw [hva_] at ge666_2
 rw [hvc_] at ul666_2
 have HL666_2 := Aside0.mk (show Kd.V (Kd.int .i64) 3 _ w.heap.size _ _ ((rd_T31 t663 x12_1).f1) from Kd.V_mk ul666_2 ge666_2)
 clear hva_ hvn_ hvc_ ge666_2 ul666_2
 have hv666_5 := hcc666 5 _ rfl
 rw [add_field _ _ 5 (by omega)] at hv666_5
 replace hv666_5 := Option.some.inj (hv666_5.symm.trans hx666_5)
 injection hv666_5 with hva_ hvn_ hvc_
 rw [hva_] at ge666_5
 rw [hvc_] at ul666_5
 have HL666_5 := Aside0.mk (show Kd.V (Kd.int .i64) 3 _ w.heap.size _ _ ((rd_T31 t663 x12_1).f4) from Kd.V_mk ul666_5 ge666_5)
 clear hva_ hvn_ hvc_ ge666_5 ul666_5
 clear hcc666 hce666
 have HR666_2 := Aside0.mk hi666_2
 have HC666_2 := Aside0.mk hl666_2
 clear hi666_2 hl666_2
 have HR666_5 := Aside0.mk hi666_5
 have HC666_5 := Aside0.mk hl666_5
 clear hi666_5 hl666_5
 replace p666 := eq_true p666
 replace q666 := eq_true q666
 go_wp2_with (first | ((with_reducible refine gate_dst (N := 7) rfl ?_); refine bx 7 (#[.int .u32 0, .int .i64 0, .slice none 0 0, .int .i64 0, .int .i64 0, .slice none 0 0]) 31 ?_; intro gb667 hg w11 hbox hb; have n0_ := Aside0.mk (Kd.S_below (Kd.S_elderB (zS HO_5) gb667 (Nat.le_of_eq hg.symm)) hb); have n1_ := Aside0.mk (Kd.V_below (Kd.V_elderB (by (with_reducible repeat (first | apply Kd.V_alloc | apply Kd.V_drewN | apply Kd.V_drew)); exact HO_10.out) gb667 (Nat.le_of_eq hg.symm)) hb); have n2_ := Aside0.mk (Kd.V_below (Kd.V_elderB (by (with_reducible repeat (first | apply Kd.V_alloc | apply Kd.V_drewN | apply Kd.V_drew)); exact HL666_2.out) gb667 (Nat.le_of_eq hg.symm)) hb); have n3_ := Aside0.mk (Kd.V_below (Kd.V_elderB (by (with_reducible repeat (first | apply Kd.V_alloc | apply Kd.V_drewN | apply Kd.V_drew)); exact HL666_5.out) gb667 (Nat.le_of_eq hg.symm)) hb); have n4_ := Aside0.mk (Kd.C_below (by repeat (first | (with_reducible exact HR666_2.out) | (with_reducible refine Kd.C_alloc ?_ _) | (with_reducible refine Kd.C_drewN ?_ _) | (with_reducible refine Kd.C_drew ?_) | exact HR666_2.out)) hb); have n5_ := Aside0.mk (Kd.C_below (by repeat (first | (with_reducible exact HR666_5.out) | (with_reducible refine Kd.C_alloc ?_ _) | (with_reducible refine Kd.C_drewN ?_ _) | (with_reducible refine Kd.C_drew ?_) | exact HR666_5.out)) hb); have n6_ := Aside0.mk (below_step zB hb); have n7_ := Aside0.mk (hbox); have n8_ := Aside0.mk ((zG hg : w.heap.size ≤ gb667)); have n9_ := Aside0.mk ((zG hg : w.heap.size ≤ gb667)); clear HO_5; clear HO_10; clear HL666_2; clear HL666_5; clear HR666_2; clear HR666_5; clear HB; have HO_5 := n0_; have HO_10 := n1_; have HL666_2 := n2_; have HL666_5 := n3_; have HR666_2 := n4_; have HR666_5 := n5_; have HB := n6_; have BK667 := n7_; have GW667 := n8_; have GE667 := n9_; clear n0_ n1_ n2_ n3_ n4_ n5_ n6_ n7_ n8_ n9_; clear hb hbox hg; have hcz12_0 : w11.cell? ⟨gb667, 0, none⟩ = some (.int .u32 0) := zT BK667 0; have hcz12_1 : w11.cell? ⟨gb667, 1, none⟩ = some (.int .i64 0) := zT BK667 1; have hcz12_2 : w11.cell? ⟨gb667, 2, none⟩ = some (.slice none 0 0) := zT BK667 2; have hcz12_3 : w11.cell? ⟨gb667, 3, none⟩ = some (.int .i64 0) := zT BK667 3; have hcz12_4 : w11.cell? ⟨gb667, 4, none⟩ = some (.int .i64 0) := zT BK667 4; have hcz12_5 : w11.cell? ⟨gb667, 5, none⟩ = some (.slice none 0 0) := zT BK667 5; have hfz12_0 := blk_frozen BK667.out 0; have hfz12_1 := blk_frozen BK667.out 1; have hfz12_2 := blk_frozen BK667.out 2; have hfz12_3 := blk_frozen BK667.out 3; have hfz12_4 := blk_frozen BK667.out 4; have hfz12_5 := blk_frozen BK667.out 5) | ((with_reducible refine gate_callee (f := 15) rfl ?_); refine goesL_ (some 17) rfl rfl Tryd.func15 (by kernel_rfl) rfl #[.agg #[.int .u32 ((rd_T31 t663 x12_1).f0.f0), .int .i64 ((rd_T31 t663 x12_1).f0.f1), .slice A666_2 ((rd_T31 t663 x12_1).f1).length c666_2, .int .i64 ((rd_T31 t663 x12_1).f2), .int .i64 ((rd_T31 t663 x12_1).f3), .slice A666_5 ((rd_T31 t663 x12_1).f4).length c666_5]] rfl zM ?_; (with_reducible refine (g10_.calls k1 ((rd_T31 t663 x12_1).f0.f0) ((rd_T31 t663 x12_1).f0.f1) _ _ ((rd_T31 t663 x12_1).f1) ((rd_T31 t663 x12_1).f2) ((rd_T31 t663 x12_1).f3) _ _ ((rd_T31 t663 x12_1).f4) t668 t669 t670 t673 t674 t675 _ ?side1 ?side2 ?side3 ?side4 ?side5 ?side6 A9.out).mono ?_); (case side1 => repeat (first | exact ((Kd.V_reads' (by (with_reducible repeat (first | apply Kd.V_alloc | apply Kd.V_drewN | apply Kd.V_drew)); exact (Kd.V_mono (Kd.V_far (p := ⟨gb667, 5, none⟩) (Kd.V_far (p := ⟨gb667, 4, none⟩) (Kd.V_far (p := ⟨gb667, 3, none⟩) (Kd.V_far (p := ⟨gb667, 2, none⟩) (Kd.V_far (p := ⟨gb667, 1, none⟩) (Kd.V_far (p := ⟨gb667, 0, none⟩) (Kd.V_mono HL666_2.out (fun k_ hk => (⟨hk, hk.2⟩ : _ ∧ k_ ≠ gb667))) (fun _ hk => hk.2) (.int .u32 ((rd_T31 t663 x12_1).f0.f0))) (fun _ hk => hk.2) (.int .i64 ((rd_T31 t663 x12_1).f0.f1))) (fun _ hk => hk.2) (.slice A666_2 ((rd_T31 t663 x12_1).f1).length c666_2)) (fun _ hk => hk.2) (.int .i64 ((rd_T31 t663 x12_1).f2))) (fun _ hk => hk.2) (.int .i64 ((rd_T31 t663 x12_1).f3))) (fun _ hk => hk.2) (.slice A666_5 ((rd_T31 t663 x12_1).f4).length c666_5)) (fun _ h_ => h_.1)))).2.2) | (with_reducible refine Kd.C_alloc ?_ _) | (with_reducible refine Kd.C_drewN ?_ _) | (with_reducible refine Kd.C_drew ?_))); (case side2 => exact HC666_2.out); (case side3 => repeat (first | exact ((Kd.V_reads' (by (with_reducible repeat (first | apply Kd.V_alloc | apply Kd.V_drewN | apply Kd.V_drew)); exact (Kd.V_mono (Kd.V_far (p := ⟨gb667, 5, none⟩) (Kd.V_far (p := ⟨gb667, 4, none⟩) (Kd.V_far (p := ⟨gb667, 3, none⟩) (Kd.V_far (p := ⟨gb667, 2, none⟩) (Kd.V_far (p := ⟨gb667, 1, none⟩) (Kd.V_far (p := ⟨gb667, 0, none⟩) (Kd.V_mono HL666_5.out (fun k_ hk => (⟨hk, hk.2⟩ : _ ∧ k_ ≠ gb667))) (fun _ hk => hk.2) (.int .u32 ((rd_T31 t663 x12_1).f0.f0))) (fun _ hk => hk.2) (.int .i64 ((rd_T31 t663 x12_1).f0.f1))) (fun _ hk => hk.2) (.slice A666_2 ((rd_T31 t663 x12_1).f1).length c666_2)) (fun _ hk => hk.2) (.int .i64 ((rd_T31 t663 x12_1).f2))) (fun _ hk => hk.2) (.int .i64 ((rd_T31 t663 x12_1).f3))) (fun _ hk => hk.2) (.slice A666_5 ((rd_T31 t663 x12_1).f4).length c666_5)) (fun _ h_ => h_.1)))).2.2) | (with_reducible refine Kd.C_alloc ?_ _) | (with_reducible refine Kd.C_drewN ?_ _) | (with_reducible refine Kd.C_drew ?_))); (case side4 => exact HC666_5.out); (case side5 => exact (Below.cell zB (World.block_lt_of_cell? w _ GL0_0.out)).trans GL0_0.out); (case side6 => exact (Below.cell zB (World.block_lt_of_cell? w _ GL0_1.out)).trans GL0_1.out); rintro e w13 ⟨v671, v676, rfl, ho0, ho1, hb⟩; refine ⟨_, rfl, ?_⟩; have n0_ := Aside0.mk (Kd.S_mono (Kd.S_told (Kd.S_told (Kd.S_old (by (with_reducible repeat (first | apply Kd.S_alloc | apply Kd.S_drewN | apply Kd.S_drew)); exact (Kd.S_mono (Kd.S_far (p := ⟨gb667, 5, none⟩) (Kd.S_far (p := ⟨gb667, 4, none⟩) (Kd.S_far (p := ⟨gb667, 3, none⟩) (Kd.S_far (p := ⟨gb667, 2, none⟩) (Kd.S_far (p := ⟨gb667, 1, none⟩) (Kd.S_far (p := ⟨gb667, 0, none⟩) (Kd.S_mono HO_5.out (fun k_ hk => (⟨hk, hk.2⟩ : _ ∧ k_ ≠ gb667))) (fun _ hk => hk.2) (.int .u32 ((rd_T31 t663 x12_1).f0.f0))) (fun _ hk => hk.2) (.int .i64 ((rd_T31 t663 x12_1).f0.f1))) (fun _ hk => hk.2) (.slice A666_2 ((rd_T31 t663 x12_1).f1).length c666_2)) (fun _ hk => hk.2) (.int .i64 ((rd_T31 t663 x12_1).f2))) (fun _ hk => hk.2) (.int .i64 ((rd_T31 t663 x12_1).f3))) (fun _ hk => hk.2) (.slice A666_5 ((rd_T31 t663 x12_1).f4).length c666_5)) (fun _ h_ => h_.1))) hb) (Kd.R_base ho0)) (Kd.R_base ho1)) (fun _ h_ => h_.1)); have n1_ := Aside0.mk (Kd.V_mono (Kd.V_told (Kd.V_told (Kd.V_old (by (with_reducible repeat (first | apply Kd.V_alloc | apply Kd.V_drewN | apply Kd.V_drew)); exact (Kd.V_mono (Kd.V_far (p := ⟨gb667, 5, none⟩) (Kd.V_far (p := ⟨gb667, 4, none⟩) (Kd.V_far (p := ⟨gb667, 3, none⟩) (Kd.V_far (p := ⟨gb667, 2, none⟩) (Kd.V_far (p := ⟨gb667, 1, none⟩) (Kd.V_far (p := ⟨gb667, 0, none⟩) (Kd.V_mono HO_10.out (fun k_ hk => (⟨hk, hk.2⟩ : _ ∧ k_ ≠ gb667))) (fun _ hk => hk.2) (.int .u32 ((rd_T31 t663 x12_1).f0.f0))) (fun _ hk => hk.2) (.int .i64 ((rd_T31 t663 x12_1).f0.f1))) (fun _ hk => hk.2) (.slice A666_2 ((rd_T31 t663 x12_1).f1).length c666_2)) (fun _ hk => hk.2) (.int .i64 ((rd_T31 t663 x12_1).f2))) (fun _ hk => hk.2) (.int .i64 ((rd_T31 t663 x12_1).f3))) (fun _ hk => hk.2) (.slice A666_5 ((rd_T31 t663 x12_1).f4).length c666_5)) (fun _ h_ => h_.1))) hb) (Kd.R_base ho0)) (Kd.R_base ho1)) (fun _ h_ => h_.1)); have n2_ := Aside0.mk (Kd.V_mono (Kd.V_told (Kd.V_told (Kd.V_old (by (with_reducible repeat (first | apply Kd.V_alloc | apply Kd.V_drewN | apply Kd.V_drew)); exact (Kd.V_mono (Kd.V_far (p := ⟨gb667, 5, none⟩) (Kd.V_far (p := ⟨gb667, 4, none⟩) (Kd.V_far (p := ⟨gb667, 3, none⟩) (Kd.V_far (p := ⟨gb667, 2, none⟩) (Kd.V_far (p := ⟨gb667, 1, none⟩) (Kd.V_far (p := ⟨gb667, 0, none⟩) (Kd.V_mono HL666_2.out (fun k_ hk => (⟨hk, hk.2⟩ : _ ∧ k_ ≠ gb667))) (fun _ hk => hk.2) (.int .u32 ((rd_T31 t663 x12_1).f0.f0))) (fun _ hk => hk.2) (.int .i64 ((rd_T31 t663 x12_1).f0.f1))) (fun _ hk => hk.2) (.slice A666_2 ((rd_T31 t663 x12_1).f1).length c666_2)) (fun _ hk => hk.2) (.int .i64 ((rd_T31 t663 x12_1).f2))) (fun _ hk => hk.2) (.int .i64 ((rd_T31 t663 x12_1).f3))) (fun _ hk => hk.2) (.slice A666_5 ((rd_T31 t663 x12_1).f4).length c666_5)) (fun _ h_ => h_.1))) hb) (Kd.R_base ho0)) (Kd.R_base ho1)) (fun _ h_ => h_.1)); have n3_ := Aside0.mk (Kd.V_mono (Kd.V_told (Kd.V_told (Kd.V_old (by (with_reducible repeat (first | apply Kd.V_alloc | apply Kd.V_drewN | apply Kd.V_drew)); exact (Kd.V_mono (Kd.V_far (p := ⟨gb667, 5, none⟩) (Kd.V_far (p := ⟨gb667, 4, none⟩) (Kd.V_far (p := ⟨gb667, 3, none⟩) (Kd.V_far (p := ⟨gb667, 2, none⟩) (Kd.V_far (p := ⟨gb667, 1, none⟩) (Kd.V_far (p := ⟨gb667, 0, none⟩) (Kd.V_mono HL666_5.out (fun k_ hk => (⟨hk, hk.2⟩ : _ ∧ k_ ≠ gb667))) (fun _ hk => hk.2) (.int .u32 ((rd_T31 t663 x12_1).f0.f0))) (fun _ hk => hk.2) (.int .i64 ((rd_T31 t663 x12_1).f0.f1))) (fun _ hk => hk.2) (.slice A666_2 ((rd_T31 t663 x12_1).f1).length c666_2)) (fun _ hk => hk.2) (.int .i64 ((rd_T31 t663 x12_1).f2))) (fun _ hk => hk.2) (.int .i64 ((rd_T31 t663 x12_1).f3))) (fun _ hk => hk.2) (.slice A666_5 ((rd_T31 t663 x12_1).f4).length c666_5)) (fun _ h_ => h_.1))) hb) (Kd.R_base ho0)) (Kd.R_base ho1)) (fun _ h_ => h_.1)); have n4_ := Aside0.mk (Kd.R_lower ho0 (below_size zB)); have n5_ := Aside0.mk (Kd.R_lower ho1 (below_size zB)); have n6_ := Aside0.mk (Kd.C_below ((Kd.V_reads' (by (with_reducible repeat (first | apply Kd.V_alloc | apply Kd.V_drewN | apply Kd.V_drew)); exact (Kd.V_mono (Kd.V_far (p := ⟨gb667, 5, none⟩) (Kd.V_far (p := ⟨gb667, 4, none⟩) (Kd.V_far (p := ⟨gb667, 3, none⟩) (Kd.V_far (p := ⟨gb667, 2, none⟩) (Kd.V_far (p := ⟨gb667, 1, none⟩) (Kd.V_far (p := ⟨gb667, 0, none⟩) (Kd.V_mono HL666_2.out (fun k_ hk => (⟨hk, hk.2⟩ : _ ∧ k_ ≠ gb667))) (fun _ hk => hk.2) (.int .u32 ((rd_T31 t663 x12_1).f0.f0))) (fun _ hk => hk.2) (.int .i64 ((rd_T31 t663 x12_1).f0.f1))) (fun _ hk => hk.2) (.slice A666_2 ((rd_T31 t663 x12_1).f1).length c666_2)) (fun _ hk => hk.2) (.int .i64 ((rd_T31 t663 x12_1).f2))) (fun _ hk => hk.2) (.int .i64 ((rd_T31 t663 x12_1).f3))) (fun _ hk => hk.2) (.slice A666_5 ((rd_T31 t663 x12_1).f4).length c666_5)) (fun _ h_ => h_.1)))).2.2) hb); have n7_ := Aside0.mk (Kd.C_below ((Kd.V_reads' (by (with_reducible repeat (first | apply Kd.V_alloc | apply Kd.V_drewN | apply Kd.V_drew)); exact (Kd.V_mono (Kd.V_far (p := ⟨gb667, 5, none⟩) (Kd.V_far (p := ⟨gb667, 4, none⟩) (Kd.V_far (p := ⟨gb667, 3, none⟩) (Kd.V_far (p := ⟨gb667, 2, none⟩) (Kd.V_far (p := ⟨gb667, 1, none⟩) (Kd.V_far (p := ⟨gb667, 0, none⟩) (Kd.V_mono HL666_5.out (fun k_ hk => (⟨hk, hk.2⟩ : _ ∧ k_ ≠ gb667))) (fun _ hk => hk.2) (.int .u32 ((rd_T31 t663 x12_1).f0.f0))) (fun _ hk => hk.2) (.int .i64 ((rd_T31 t663 x12_1).f0.f1))) (fun _ hk => hk.2) (.slice A666_2 ((rd_T31 t663 x12_1).f1).length c666_2)) (fun _ hk => hk.2) (.int .i64 ((rd_T31 t663 x12_1).f2))) (fun _ hk => hk.2) (.int .i64 ((rd_T31 t663 x12_1).f3))) (fun _ hk => hk.2) (.slice A666_5 ((rd_T31 t663 x12_1).f4).length c666_5)) (fun _ h_ => h_.1)))).2.2) hb); have n8_ := Aside0.mk (blk_below (g := gb667) (o := .cells #[.int .u32 ((rd_T31 t663 x12_1).f0.f0), .int .i64 ((rd_T31 t663 x12_1).f0.f1), .slice A666_2 ((rd_T31 t663 x12_1).f1).length c666_2, .int .i64 ((rd_T31 t663 x12_1).f2), .int .i64 ((rd_T31 t663 x12_1).f3), .slice A666_5 ((rd_T31 t663 x12_1).f4).length c666_5] 31 (0, 0)) (by (with_reducible repeat (first | refine blk_drewN ?_ _ | refine blk_drew ?_ | refine blk_alloc ?_ _)); refine blk_put (cs := #[.int .u32 ((rd_T31 t663 x12_1).f0.f0), .int .i64 ((rd_T31 t663 x12_1).f0.f1), .slice A666_2 ((rd_T31 t663 x12_1).f1).length c666_2, .int .i64 ((rd_T31 t663 x12_1).f2), .int .i64 ((rd_T31 t663 x12_1).f3), .slice none 0 0]) ?_ 5 _ rfl; (with_reducible repeat (first | refine blk_drewN ?_ _ | refine blk_drew ?_ | refine blk_alloc ?_ _)); refine blk_put (cs := #[.int .u32 ((rd_T31 t663 x12_1).f0.f0), .int .i64 ((rd_T31 t663 x12_1).f0.f1), .slice A666_2 ((rd_T31 t663 x12_1).f1).length c666_2, .int .i64 ((rd_T31 t663 x12_1).f2), .int .i64 0, .slice none 0 0]) ?_ 4 _ rfl; (with_reducible repeat (first | refine blk_drewN ?_ _ | refine blk_drew ?_ | refine blk_alloc ?_ _)); refine blk_put (cs := #[.int .u32 ((rd_T31 t663 x12_1).f0.f0), .int .i64 ((rd_T31 t663 x12_1).f0.f1), .slice A666_2 ((rd_T31 t663 x12_1).f1).length c666_2, .int .i64 0, .int .i64 0, .slice none 0 0]) ?_ 3 _ rfl; (with_reducible repeat (first | refine blk_drewN ?_ _ | refine blk_drew ?_ | refine blk_alloc ?_ _)); refine blk_put (cs := #[.int .u32 ((rd_T31 t663 x12_1).f0.f0), .int .i64 ((rd_T31 t663 x12_1).f0.f1), .slice none 0 0, .int .i64 0, .int .i64 0, .slice none 0 0]) ?_ 2 _ rfl; (with_reducible repeat (first | refine blk_drewN ?_ _ | refine blk_drew ?_ | refine blk_alloc ?_ _)); refine blk_put (cs := #[.int .u32 ((rd_T31 t663 x12_1).f0.f0), .int .i64 0, .slice none 0 0, .int .i64 0, .int .i64 0, .slice none 0 0]) ?_ 1 _ rfl; (with_reducible repeat (first | refine blk_drewN ?_ _ | refine blk_drew ?_ | refine blk_alloc ?_ _)); refine blk_put (cs := #[.int .u32 0, .int .i64 0, .slice none 0 0, .int .i64 0, .int .i64 0, .slice none 0 0]) ?_ 0 _ rfl; (with_reducible repeat (first | refine blk_drewN ?_ _ | refine blk_drew ?_ | refine blk_alloc ?_ _)); exact BK667.out) hb); have n9_ := Aside0.mk (below_step zB hb); clear HO_5; clear HO_10; clear HL666_2; clear HL666_5; clear HR666_2; clear HR666_5; clear BK667; clear HB; have HO_5 := n0_; have HO_10 := n1_; have HL666_2 := n2_; have HL666_5 := n3_; have HO672 := n4_; have HO677 := n5_; have HR666_2 := n6_; have HR666_5 := n7_; have BK667 := n8_; have HB := n9_; clear n0_ n1_ n2_ n3_ n4_ n5_ n6_ n7_ n8_ n9_; (try clear hb); (try clear hb2); (try clear hk); (try clear hi); (try clear ho0); (try clear ho1); have hcz14_0 : w13.cell? ⟨gb667, 0, none⟩ = some (.int .u32 ((rd_T31 t663 x12_1).f0.f0)) := zT BK667 0; have hcz14_1 : w13.cell? ⟨gb667, 1, none⟩ = some (.int .i64 ((rd_T31 t663 x12_1).f0.f1)) := zT BK667 1; have hcz14_2 : w13.cell? ⟨gb667, 2, none⟩ = some (.slice A666_2 ((rd_T31 t663 x12_1).f1).length c666_2) := zT BK667 2; have hcz14_3 : w13.cell? ⟨gb667, 3, none⟩ = some (.int .i64 ((rd_T31 t663 x12_1).f2)) := zT BK667 3; have hcz14_4 : w13.cell? ⟨gb667, 4, none⟩ = some (.int .i64 ((rd_T31 t663 x12_1).f3)) := zT BK667 4; have hcz14_5 : w13.cell? ⟨gb667, 5, none⟩ = some (.slice A666_5 ((rd_T31 t663 x12_1).f4).length c666_5) := zT BK667 5; have hfz14_0 := blk_frozen BK667.out 0; have hfz14_1 := blk_frozen BK667.out 1; have hfz14_2 := blk_frozen BK667.out 2; have hfz14_3 := blk_frozen BK667.out 3; have hfz14_4 := blk_frozen BK667.out 4; have hfz14_5 := blk_frozen BK667.out 5; obtain ⟨Ao15, co15, eo15⟩ := Kd.R_slice HO672.out; subst eo15; obtain ⟨Ao16, co16, eo16⟩ := Kd.R_slice HO677.out; subst eo16) | ((with_reducible refine gate_store (t := 31) (p := 7) rfl ?_); refine store_event (t := 31) (p := 7) (v := ?vo_w17) (w1 := ((((((w13.setCell ⟨gb667, 0, none⟩ (.int .u32 t668)).setCell ⟨gb667, 1, none⟩ (.int .i64 t669)).setCell ⟨gb667, 2, none⟩ (.slice Ao15 t670.length co15)).setCell ⟨gb667, 3, none⟩ (.int .i64 t673)).setCell ⟨gb667, 4, none⟩ (.int .i64 t674)).setCell ⟨gb667, 5, none⟩ (.slice Ao16 t675.length co16))) ?hg ?ho ?hn ?hr ?_; (case ho => rfl); (case hg => rfl); (case hn => rfl); (case hr => first | (go_simp; done) | (go_simp; rfl)); intro w17 hw; have n0_ : Aside0 (Kd.S k31 31 w17 w.heap.size (fun k_ => some k_ ≠ (.slice Ao15 t670.length co15 : Value).ownBlock ∧ some k_ ≠ (.slice Ao16 t675.length co16 : Value).ownBlock ∧ k_ ≠ gb667) u5 x5_1) := ⟨(by rw [hw]; exact (by (with_reducible repeat (first | apply Kd.S_alloc | apply Kd.S_drewN | apply Kd.S_drew)); exact Kd.S_mono (Kd.S_far (p := ⟨gb667, 5, none⟩) (Kd.S_far (p := ⟨gb667, 4, none⟩) (Kd.S_far (p := ⟨gb667, 3, none⟩) (Kd.S_far (p := ⟨gb667, 2, none⟩) (Kd.S_far (p := ⟨gb667, 1, none⟩) (Kd.S_far (p := ⟨gb667, 0, none⟩) (Kd.S_mono HO_5.out (fun k_ hk => (⟨hk, hk.1.1.2⟩ : _ ∧ k_ ≠ gb667))) (fun _ hk => hk.2) (.int .u32 t668)) (fun _ hk => hk.2) (.int .i64 t669)) (fun _ hk => hk.2) (.slice Ao15 t670.length co15)) (fun _ hk => hk.2) (.int .i64 t673)) (fun _ hk => hk.2) (.int .i64 t674)) (fun _ hk => hk.2) (.slice Ao16 t675.length co16)) (fun _ hk => ⟨hk.1.1.2, ⟨hk.1.2, hk.1.1.1.2⟩⟩)))⟩; have n1_ : Aside0 (Kd.V k31 31 w17 w.heap.size (fun k_ => some k_ ≠ (u5 : Value).ownBlock ∧ some k_ ≠ (.slice Ao15 t670.length co15 : Value).ownBlock ∧ some k_ ≠ (.slice Ao16 t675.length co16 : Value).ownBlock ∧ k_ ≠ gb667) (.slice (some ad666) t663.length co5) t663) := ⟨(by rw [hw]; exact (by (with_reducible repeat (first | apply Kd.V_alloc | apply Kd.V_drewN | apply Kd.V_drew)); exact Kd.V_mono (Kd.V_far (p := ⟨gb667, 5, none⟩) (Kd.V_far (p := ⟨gb667, 4, none⟩) (Kd.V_far (p := ⟨gb667, 3, none⟩) (Kd.V_far (p := ⟨gb667, 2, none⟩) (Kd.V_far (p := ⟨gb667, 1, none⟩) (Kd.V_far (p := ⟨gb667, 0, none⟩) (Kd.V_mono HO_10.out (fun k_ hk => (⟨hk, hk.1.1.2⟩ : _ ∧ k_ ≠ gb667))) (fun _ hk => hk.2) (.int .u32 t668)) (fun _ hk => hk.2) (.int .i64 t669)) (fun _ hk => hk.2) (.slice Ao15 t670.length co15)) (fun _ hk => hk.2) (.int .i64 t673)) (fun _ hk => hk.2) (.int .i64 t674)) (fun _ hk => hk.2) (.slice Ao16 t675.length co16)) (fun _ hk => ⟨hk.1.1.1.1, ⟨hk.1.1.2, ⟨hk.1.2, hk.1.1.1.2⟩⟩⟩)))⟩; have n2_ : Aside0 (Kd.V (Kd.int .i64) 3 w17 w.heap.size (fun k_ => some k_ ≠ (u5 : Value).ownBlock ∧ some k_ ≠ (.slice Ao15 t670.length co15 : Value).ownBlock ∧ some k_ ≠ (.slice Ao16 t675.length co16 : Value).ownBlock ∧ k_ ≠ gb667) (.slice A666_2 ((rd_T31 t663 x12_1).f1).length c666_2) ((rd_T31 t663 x12_1).f1)) := ⟨(by rw [hw]; exact (by (with_reducible repeat (first | apply Kd.V_alloc | apply Kd.V_drewN | apply Kd.V_drew)); exact Kd.V_mono (Kd.V_far (p := ⟨gb667, 5, none⟩) (Kd.V_far (p := ⟨gb667, 4, none⟩) (Kd.V_far (p := ⟨gb667, 3, none⟩) (Kd.V_far (p := ⟨gb667, 2, none⟩) (Kd.V_far (p := ⟨gb667, 1, none⟩) (Kd.V_far (p := ⟨gb667, 0, none⟩) (Kd.V_mono HL666_2.out (fun k_ hk => (⟨hk, hk.1.1.2⟩ : _ ∧ k_ ≠ gb667))) (fun _ hk => hk.2) (.int .u32 t668)) (fun _ hk => hk.2) (.int .i64 t669)) (fun _ hk => hk.2) (.slice Ao15 t670.length co15)) (fun _ hk => hk.2) (.int .i64 t673)) (fun _ hk => hk.2) (.int .i64 t674)) (fun _ hk => hk.2) (.slice Ao16 t675.length co16)) (fun _ hk => ⟨hk.1.1.1.1, ⟨hk.1.1.2, ⟨hk.1.2, hk.1.1.1.2⟩⟩⟩)))⟩; have n3_ : Aside0 (Kd.V (Kd.int .i64) 3 w17 w.heap.size (fun k_ => some k_ ≠ (u5 : Value).ownBlock ∧ some k_ ≠ (.slice Ao15 t670.length co15 : Value).ownBlock ∧ some k_ ≠ (.slice Ao16 t675.length co16 : Value).ownBlock ∧ k_ ≠ gb667) (.slice A666_5 ((rd_T31 t663 x12_1).f4).length c666_5) ((rd_T31 t663 x12_1).f4)) := ⟨(by rw [hw]; exact (by (with_reducible repeat (first | apply Kd.V_alloc | apply Kd.V_drewN | apply Kd.V_drew)); exact Kd.V_mono (Kd.V_far (p := ⟨gb667, 5, none⟩) (Kd.V_far (p := ⟨gb667, 4, none⟩) (Kd.V_far (p := ⟨gb667, 3, none⟩) (Kd.V_far (p := ⟨gb667, 2, none⟩) (Kd.V_far (p := ⟨gb667, 1, none⟩) (Kd.V_far (p := ⟨gb667, 0, none⟩) (Kd.V_mono HL666_5.out (fun k_ hk => (⟨hk, hk.1.1.2⟩ : _ ∧ k_ ≠ gb667))) (fun _ hk => hk.2) (.int .u32 t668)) (fun _ hk => hk.2) (.int .i64 t669)) (fun _ hk => hk.2) (.slice Ao15 t670.length co15)) (fun _ hk => hk.2) (.int .i64 t673)) (fun _ hk => hk.2) (.int .i64 t674)) (fun _ hk => hk.2) (.slice Ao16 t675.length co16)) (fun _ hk => ⟨hk.1.1.1.1, ⟨hk.1.1.2, ⟨hk.1.2, hk.1.1.1.2⟩⟩⟩)))⟩; have n4_ : Aside0 (Kd.R (Kd.int .i64) 3 w17 w.heap.size (fun k_ => some k_ ≠ (.slice Ao16 t675.length co16 : Value).ownBlock) (.slice Ao15 t670.length co15) t670) := ⟨(by rw [hw]; exact (by (with_reducible repeat (first | apply Kd.R_alloc | apply Kd.R_drewN | apply Kd.R_drew)); exact Kd.R_mono (Kd.R_far (p := ⟨gb667, 5, none⟩) (Kd.R_far (p := ⟨gb667, 4, none⟩) (Kd.R_far (p := ⟨gb667, 3, none⟩) (Kd.R_far (p := ⟨gb667, 2, none⟩) (Kd.R_far (p := ⟨gb667, 1, none⟩) (Kd.R_far (p := ⟨gb667, 0, none⟩) (Kd.R_types HO672.out BK667.out (by decide)) (fun _ hk => hk.2) (.int .u32 t668)) (fun _ hk => hk.2) (.int .i64 t669)) (fun _ hk => hk.2) (.slice Ao15 t670.length co15)) (fun _ hk => hk.2) (.int .i64 t673)) (fun _ hk => hk.2) (.int .i64 t674)) (fun _ hk => hk.2) (.slice Ao16 t675.length co16)) (fun _ hk => hk.1)))⟩; have n5_ : Aside0 (Kd.R (Kd.int .i64) 3 w17 w.heap.size (fun k_ => some k_ ≠ (.slice Ao15 t670.length co15 : Value).ownBlock) (.slice Ao16 t675.length co16) t675) := ⟨(by rw [hw]; exact (by (with_reducible repeat (first | apply Kd.R_alloc | apply Kd.R_drewN | apply Kd.R_drew)); exact Kd.R_mono (Kd.R_far (p := ⟨gb667, 5, none⟩) (Kd.R_far (p := ⟨gb667, 4, none⟩) (Kd.R_far (p := ⟨gb667, 3, none⟩) (Kd.R_far (p := ⟨gb667, 2, none⟩) (Kd.R_far (p := ⟨gb667, 1, none⟩) (Kd.R_far (p := ⟨gb667, 0, none⟩) (Kd.R_types HO677.out BK667.out (by decide)) (fun _ hk => hk.2) (.int .u32 t668)) (fun _ hk => hk.2) (.int .i64 t669)) (fun _ hk => hk.2) (.slice Ao15 t670.length co15)) (fun _ hk => hk.2) (.int .i64 t673)) (fun _ hk => hk.2) (.int .i64 t674)) (fun _ hk => hk.2) (.slice Ao16 t675.length co16)) (fun _ hk => hk.1)))⟩; have n6_ : Aside0 (w17.heap[gb667]? = some (.cells #[.int .u32 t668, .int .i64 t669, .slice Ao15 t670.length co15, .int .i64 t673, .int .i64 t674, .slice Ao16 t675.length co16] 31 (0, 0))) := ⟨(by rw [hw]; exact (by (with_reducible repeat (first | refine blk_drewN ?_ _ | refine blk_drew ?_ | refine blk_alloc ?_ _)); refine blk_put (cs := #[.int .u32 t668, .int .i64 t669, .slice Ao15 t670.length co15, .int .i64 t673, .int .i64 t674, .slice A666_5 ((rd_T31 t663 x12_1).f4).length c666_5]) ?_ 5 _ rfl; (with_reducible repeat (first | refine blk_drewN ?_ _ | refine blk_drew ?_ | refine blk_alloc ?_ _)); refine blk_put (cs := #[.int .u32 t668, .int .i64 t669, .slice Ao15 t670.length co15, .int .i64 t673, .int .i64 ((rd_T31 t663 x12_1).f3), .slice A666_5 ((rd_T31 t663 x12_1).f4).length c666_5]) ?_ 4 _ rfl; (with_reducible repeat (first | refine blk_drewN ?_ _ | refine blk_drew ?_ | refine blk_alloc ?_ _)); refine blk_put (cs := #[.int .u32 t668, .int .i64 t669, .slice Ao15 t670.length co15, .int .i64 ((rd_T31 t663 x12_1).f2), .int .i64 ((rd_T31 t663 x12_1).f3), .slice A666_5 ((rd_T31 t663 x12_1).f4).length c666_5]) ?_ 3 _ rfl; (with_reducible repeat (first | refine blk_drewN ?_ _ | refine blk_drew ?_ | refine blk_alloc ?_ _)); refine blk_put (cs := #[.int .u32 t668, .int .i64 t669, .slice A666_2 ((rd_T31 t663 x12_1).f1).length c666_2, .int .i64 ((rd_T31 t663 x12_1).f2), .int .i64 ((rd_T31 t663 x12_1).f3), .slice A666_5 ((rd_T31 t663 x12_1).f4).length c666_5]) ?_ 2 _ rfl; (with_reducible repeat (first | refine blk_drewN ?_ _ | refine blk_drew ?_ | refine blk_alloc ?_ _)); refine blk_put (cs := #[.int .u32 t668, .int .i64 ((rd_T31 t663 x12_1).f0.f1), .slice A666_2 ((rd_T31 t663 x12_1).f1).length c666_2, .int .i64 ((rd_T31 t663 x12_1).f2), .int .i64 ((rd_T31 t663 x12_1).f3), .slice A666_5 ((rd_T31 t663 x12_1).f4).length c666_5]) ?_ 1 _ rfl; (with_reducible repeat (first | refine blk_drewN ?_ _ | refine blk_drew ?_ | refine blk_alloc ?_ _)); refine blk_put (cs := #[.int .u32 ((rd_T31 t663 x12_1).f0.f0), .int .i64 ((rd_T31 t663 x12_1).f0.f1), .slice A666_2 ((rd_T31 t663 x12_1).f1).length c666_2, .int .i64 ((rd_T31 t663 x12_1).f2), .int .i64 ((rd_T31 t663 x12_1).f3), .slice A666_5 ((rd_T31 t663 x12_1).f4).length c666_5]) ?_ 0 _ rfl; (with_reducible repeat (first | refine blk_drewN ?_ _ | refine blk_drew ?_ | refine blk_alloc ?_ _)); exact BK667.out))⟩; have n7_ : Aside0 (Below w.heap.size w w17) := ⟨(by rw [hw]; exact zB)⟩; clear hw; clear HO_5; clear HO_10; clear HL666_2; clear HL666_5; clear HO672; clear HO677; clear BK667; clear HB; have HO_5 := n0_; have HO_10 := n1_; have HL666_2 := n2_; have HL666_5 := n3_; have HO672 := n4_; have HO677 := n5_; have BK667 := n6_; have HB := n7_; clear n0_ n1_ n2_ n3_ n4_ n5_ n6_ n7_; have hgl0_0 := zL HB GL0_0.out; have hgl0_1 := zL HB GL0_1.out; have hcz18_0 : w17.cell? ⟨gb667, 0, none⟩ = some (.int .u32 t668) := zT BK667 0; have hcz18_1 : w17.cell? ⟨gb667, 1, none⟩ = some (.int .i64 t669) := zT BK667 1; have hcz18_2 : w17.cell? ⟨gb667, 2, none⟩ = some (.slice Ao15 t670.length co15) := zT BK667 2; have hcz18_3 : w17.cell? ⟨gb667, 3, none⟩ = some (.int .i64 t673) := zT BK667 3; have hcz18_4 : w17.cell? ⟨gb667, 4, none⟩ = some (.int .i64 t674) := zT BK667 4; have hcz18_5 : w17.cell? ⟨gb667, 5, none⟩ = some (.slice Ao16 t675.length co16) := zT BK667 5; have hfz18_0 := blk_frozen BK667.out 0; have hfz18_1 := blk_frozen BK667.out 1; have hfz18_2 := blk_frozen BK667.out 2; have hfz18_3 := blk_frozen BK667.out 3; have hfz18_4 := blk_frozen BK667.out 4; have hfz18_5 := blk_frozen BK667.out 5) | ((with_reducible refine gate_store (t := 29) (p := 25) rfl ?_); refine store_event (t := 29) (p := 25) (v := ?vo_w19) (w1 := ((w17.setCell ⟨gb667, 0, none⟩ (.int .u32 167772160)).setCell ⟨gb667, 1, none⟩ (.int .i64 8))) ?hg ?ho ?hn ?hr ?_; (case ho => rfl); (case hg => rfl); (case hn => rfl); (case hr => first | (go_simp; done) | (go_simp; rfl)); intro w19 hw; have n0_ : Aside0 (Kd.S k31 31 w19 w.heap.size (fun k_ => some k_ ≠ (.slice Ao15 t670.length co15 : Value).ownBlock ∧ some k_ ≠ (.slice Ao16 t675.length co16 : Value).ownBlock ∧ k_ ≠ gb667) u5 x5_1) := ⟨(by rw [hw]; exact (by (with_reducible repeat (first | apply Kd.S_alloc | apply Kd.S_drewN | apply Kd.S_drew)); exact Kd.S_mono (Kd.S_far (p := ⟨gb667, 1, none⟩) (Kd.S_far (p := ⟨gb667, 0, none⟩) (Kd.S_mono HO_5.out (fun k_ hk => (⟨hk, hk.2.2⟩ : _ ∧ k_ ≠ gb667))) (fun _ hk => hk.2) (.int .u32 167772160)) (fun _ hk => hk.2) (.int .i64 8)) (fun _ hk => ⟨hk.1.1, ⟨hk.1.2.1, hk.1.2.2⟩⟩)))⟩; have n1_ : Aside0 (Kd.V k31 31 w19 w.heap.size (fun k_ => some k_ ≠ (u5 : Value).ownBlock ∧ some k_ ≠ (.slice Ao15 t670.length co15 : Value).ownBlock ∧ some k_ ≠ (.slice Ao16 t675.length co16 : Value).ownBlock ∧ k_ ≠ gb667) (.slice (some ad666) t663.length co5) t663) := ⟨(by rw [hw]; exact (by (with_reducible repeat (first | apply Kd.V_alloc | apply Kd.V_drewN | apply Kd.V_drew)); exact Kd.V_mono (Kd.V_far (p := ⟨gb667, 1, none⟩) (Kd.V_far (p := ⟨gb667, 0, none⟩) (Kd.V_mono HO_10.out (fun k_ hk => (⟨hk, hk.2.2.2⟩ : _ ∧ k_ ≠ gb667))) (fun _ hk => hk.2) (.int .u32 167772160)) (fun _ hk => hk.2) (.int .i64 8)) (fun _ hk => ⟨hk.1.1, ⟨hk.1.2.1, ⟨hk.1.2.2.1, hk.1.2.2.2⟩⟩⟩)))⟩; have n2_ : Aside0 (Kd.V (Kd.int .i64) 3 w19 w.heap.size (fun k_ => some k_ ≠ (u5 : Value).ownBlock ∧ some k_ ≠ (.slice Ao15 t670.length co15 : Value).ownBlock ∧ some k_ ≠ (.slice Ao16 t675.length co16 : Value).ownBlock ∧ k_ ≠ gb667) (.slice A666_2 ((rd_T31 t663 x12_1).f1).length c666_2) ((rd_T31 t663 x12_1).f1)) := ⟨(by rw [hw]; exact (by (with_reducible repeat (first | apply Kd.V_alloc | apply Kd.V_drewN | apply Kd.V_drew)); exact Kd.V_mono (Kd.V_far (p := ⟨gb667, 1, none⟩) (Kd.V_far (p := ⟨gb667, 0, none⟩) (Kd.V_mono HL666_2.out (fun k_ hk => (⟨hk, hk.2.2.2⟩ : _ ∧ k_ ≠ gb667))) (fun _ hk => hk.2) (.int .u32 167772160)) (fun _ hk => hk.2) (.int .i64 8)) (fun _ hk => ⟨hk.1.1, ⟨hk.1.2.1, ⟨hk.1.2.2.1, hk.1.2.2.2⟩⟩⟩)))⟩; have n3_ : Aside0 (Kd.V (Kd.int .i64) 3 w19 w.heap.size (fun k_ => some k_ ≠ (u5 : Value).ownBlock ∧ some k_ ≠ (.slice Ao15 t670.length co15 : Value).ownBlock ∧ some k_ ≠ (.slice Ao16 t675.length co16 : Value).ownBlock ∧ k_ ≠ gb667) (.slice A666_5 ((rd_T31 t663 x12_1).f4).length c666_5) ((rd_T31 t663 x12_1).f4)) := ⟨(by rw [hw]; exact (by (with_reducible repeat (first | apply Kd.V_alloc | apply Kd.V_drewN | apply Kd.V_drew)); exact Kd.V_mono (Kd.V_far (p := ⟨gb667, 1, none⟩) (Kd.V_far (p := ⟨gb667, 0, none⟩) (Kd.V_mono HL666_5.out (fun k_ hk => (⟨hk, hk.2.2.2⟩ : _ ∧ k_ ≠ gb667))) (fun _ hk => hk.2) (.int .u32 167772160)) (fun _ hk => hk.2) (.int .i64 8)) (fun _ hk => ⟨hk.1.1, ⟨hk.1.2.1, ⟨hk.1.2.2.1, hk.1.2.2.2⟩⟩⟩)))⟩; have n4_ : Aside0 (Kd.R (Kd.int .i64) 3 w19 w.heap.size (fun k_ => some k_ ≠ (.slice Ao16 t675.length co16 : Value).ownBlock) (.slice Ao15 t670.length co15) t670) := ⟨(by rw [hw]; exact (by (with_reducible repeat (first | apply Kd.R_alloc | apply Kd.R_drewN | apply Kd.R_drew)); exact Kd.R_mono (Kd.R_far (p := ⟨gb667, 1, none⟩) (Kd.R_far (p := ⟨gb667, 0, none⟩) (Kd.R_types HO672.out BK667.out (by decide)) (fun _ hk => hk.2) (.int .u32 167772160)) (fun _ hk => hk.2) (.int .i64 8)) (fun _ hk => hk.1)))⟩; have n5_ : Aside0 (Kd.R (Kd.int .i64) 3 w19 w.heap.size (fun k_ => some k_ ≠ (.slice Ao15 t670.length co15 : Value).ownBlock) (.slice Ao16 t675.length co16) t675) := ⟨(by rw [hw]; exact (by (with_reducible repeat (first | apply Kd.R_alloc | apply Kd.R_drewN | apply Kd.R_drew)); exact Kd.R_mono (Kd.R_far (p := ⟨gb667, 1, none⟩) (Kd.R_far (p := ⟨gb667, 0, none⟩) (Kd.R_types HO677.out BK667.out (by decide)) (fun _ hk => hk.2) (.int .u32 167772160)) (fun _ hk => hk.2) (.int .i64 8)) (fun _ hk => hk.1)))⟩; have n6_ : Aside0 (w19.heap[gb667]? = some (.cells #[.int .u32 167772160, .int .i64 8, .slice Ao15 t670.length co15, .int .i64 t673, .int .i64 t674, .slice Ao16 t675.length co16] 31 (0, 0))) := ⟨(by rw [hw]; exact (by (with_reducible repeat (first | refine blk_drewN ?_ _ | refine blk_drew ?_ | refine blk_alloc ?_ _)); refine blk_put (cs := #[.int .u32 167772160, .int .i64 t669, .slice Ao15 t670.length co15, .int .i64 t673, .int .i64 t674, .slice Ao16 t675.length co16]) ?_ 1 _ rfl; (with_reducible repeat (first | refine blk_drewN ?_ _ | refine blk_drew ?_ | refine blk_alloc ?_ _)); refine blk_put (cs := #[.int .u32 t668, .int .i64 t669, .slice Ao15 t670.length co15, .int .i64 t673, .int .i64 t674, .slice Ao16 t675.length co16]) ?_ 0 _ rfl; (with_reducible repeat (first | refine blk_drewN ?_ _ | refine blk_drew ?_ | refine blk_alloc ?_ _)); exact BK667.out))⟩; have n7_ : Aside0 (Below w.heap.size w w19) := ⟨(by rw [hw]; exact zB)⟩; clear hw; clear HO_5; clear HO_10; clear HL666_2; clear HL666_5; clear HO672; clear HO677; clear BK667; clear HB; have HO_5 := n0_; have HO_10 := n1_; have HL666_2 := n2_; have HL666_5 := n3_; have HO672 := n4_; have HO677 := n5_; have BK667 := n6_; have HB := n7_; clear n0_ n1_ n2_ n3_ n4_ n5_ n6_ n7_; have hcz20_0 : w19.cell? ⟨gb667, 0, none⟩ = some (.int .u32 167772160) := zT BK667 0; have hcz20_1 : w19.cell? ⟨gb667, 1, none⟩ = some (.int .i64 8) := zT BK667 1; have hcz20_2 : w19.cell? ⟨gb667, 2, none⟩ = some (.slice Ao15 t670.length co15) := zT BK667 2; have hcz20_3 : w19.cell? ⟨gb667, 3, none⟩ = some (.int .i64 t673) := zT BK667 3; have hcz20_4 : w19.cell? ⟨gb667, 4, none⟩ = some (.int .i64 t674) := zT BK667 4; have hcz20_5 : w19.cell? ⟨gb667, 5, none⟩ = some (.slice Ao16 t675.length co16) := zT BK667 5; have hfz20_0 := blk_frozen BK667.out 0; have hfz20_1 := blk_frozen BK667.out 1; have hfz20_2 := blk_frozen BK667.out 2; have hfz20_3 := blk_frozen BK667.out 3; have hfz20_4 := blk_frozen BK667.out 4; have hfz20_5 := blk_frozen BK667.out 5) | ((with_reducible refine gate_store (t := 3) (p := 26) rfl ?_); refine store_event (t := 3) (p := 26) (v := ?vo_w21) (w1 := (w19.setCell ⟨gb667, 3, none⟩ (.int .i64 (Go.bits .and .i64 t673 1)))) ?hg ?ho ?hn ?hr ?_; (case ho => rfl); (case hg => rfl); (case hn => rfl); (case hr => first | (go_simp; done) | (go_simp; rfl)); intro w21 hw; have n0_ : Aside0 (Kd.S k31 31 w21 w.heap.size (fun k_ => some k_ ≠ (.slice Ao15 t670.length co15 : Value).ownBlock ∧ some k_ ≠ (.slice Ao16 t675.length co16 : Value).ownBlock ∧ k_ ≠ gb667) u5 x5_1) := ⟨(by rw [hw]; exact (by (with_reducible repeat (first | apply Kd.S_alloc | apply Kd.S_drewN | apply Kd.S_drew)); exact Kd.S_mono (Kd.S_far (p := ⟨gb667, 3, none⟩) (Kd.S_mono HO_5.out (fun k_ hk => (⟨hk, hk.2.2⟩ : _ ∧ k_ ≠ gb667))) (fun _ hk => hk.2) (.int .i64 (Go.bits .and .i64 t673 1))) (fun _ hk => ⟨hk.1.1, ⟨hk.1.2.1, hk.1.2.2⟩⟩)))⟩; have n1_ : Aside0 (Kd.V k31 31 w21 w.heap.size (fun k_ => some k_ ≠ (u5 : Value).ownBlock ∧ some k_ ≠ (.slice Ao15 t670.length co15 : Value).ownBlock ∧ some k_ ≠ (.slice Ao16 t675.length co16 : Value).ownBlock ∧ k_ ≠ gb667) (.slice (some ad666) t663.length co5) t663) := ⟨(by rw [hw]; exact (by (with_reducible repeat (first | apply Kd.V_alloc | apply Kd.V_drewN | apply Kd.V_drew)); exact Kd.V_mono (Kd.V_far (p := ⟨gb667, 3, none⟩) (Kd.V_mono HO_10.out (fun k_ hk => (⟨hk, hk.2.2.2⟩ : _ ∧ k_ ≠ gb667))) (fun _ hk => hk.2) (.int .i64 (Go.bits .and .i64 t673 1))) (fun _ hk => ⟨hk.1.1, ⟨hk.1.2.1, ⟨hk.1.2.2.1, hk.1.2.2.2⟩⟩⟩)))⟩; have n2_ : Aside0 (Kd.V (Kd.int .i64) 3 w21 w.heap.size (fun k_ => some k_ ≠ (u5 : Value).ownBlock ∧ some k_ ≠ (.slice Ao15 t670.length co15 : Value).ownBlock ∧ some k_ ≠ (.slice Ao16 t675.length co16 : Value).ownBlock ∧ k_ ≠ gb667) (.slice A666_2 ((rd_T31 t663 x12_1).f1).length c666_2) ((rd_T31 t663 x12_1).f1)) := ⟨(by rw [hw]; exact (by (with_reducible repeat (first | apply Kd.V_alloc | apply Kd.V_drewN | apply Kd.V_drew)); exact Kd.V_mono (Kd.V_far (p := ⟨gb667, 3, none⟩) (Kd.V_mono HL666_2.out (fun k_ hk => (⟨hk, hk.2.2.2⟩ : _ ∧ k_ ≠ gb667))) (fun _ hk => hk.2) (.int .i64 (Go.bits .and .i64 t673 1))) (fun _ hk => ⟨hk.1.1, ⟨hk.1.2.1, ⟨hk.1.2.2.1, hk.1.2.2.2⟩⟩⟩)))⟩; have n3_ : Aside0 (Kd.V (Kd.int .i64) 3 w21 w.heap.size (fun k_ => some k_ ≠ (u5 : Value).ownBlock ∧ some k_ ≠ (.slice Ao15 t670.length co15 : Value).ownBlock ∧ some k_ ≠ (.slice Ao16 t675.length co16 : Value).ownBlock ∧ k_ ≠ gb667) (.slice A666_5 ((rd_T31 t663 x12_1).f4).length c666_5) ((rd_T31 t663 x12_1).f4)) := ⟨(by rw [hw]; exact (by (with_reducible repeat (first | apply Kd.V_alloc | apply Kd.V_drewN | apply Kd.V_drew)); exact Kd.V_mono (Kd.V_far (p := ⟨gb667, 3, none⟩) (Kd.V_mono HL666_5.out (fun k_ hk => (⟨hk, hk.2.2.2⟩ : _ ∧ k_ ≠ gb667))) (fun _ hk => hk.2) (.int .i64 (Go.bits .and .i64 t673 1))) (fun _ hk => ⟨hk.1.1, ⟨hk.1.2.1, ⟨hk.1.2.2.1, hk.1.2.2.2⟩⟩⟩)))⟩; have n4_ : Aside0 (Kd.R (Kd.int .i64) 3 w21 w.heap.size (fun k_ => some k_ ≠ (.slice Ao16 t675.length co16 : Value).ownBlock) (.slice Ao15 t670.length co15) t670) := ⟨(by rw [hw]; exact (by (with_reducible repeat (first | apply Kd.R_alloc | apply Kd.R_drewN | apply Kd.R_drew)); exact Kd.R_mono (Kd.R_far (p := ⟨gb667, 3, none⟩) (Kd.R_types HO672.out BK667.out (by decide)) (fun _ hk => hk.2) (.int .i64 (Go.bits .and .i64 t673 1))) (fun _ hk => hk.1)))⟩; have n5_ : Aside0 (Kd.R (Kd.int .i64) 3 w21 w.heap.size (fun k_ => some k_ ≠ (.slice Ao15 t670.length co15 : Value).ownBlock) (.slice Ao16 t675.length co16) t675) := ⟨(by rw [hw]; exact (by (with_reducible repeat (first | apply Kd.R_alloc | apply Kd.R_drewN | apply Kd.R_drew)); exact Kd.R_mono (Kd.R_far (p := ⟨gb667, 3, none⟩) (Kd.R_types HO677.out BK667.out (by decide)) (fun _ hk => hk.2) (.int .i64 (Go.bits .and .i64 t673 1))) (fun _ hk => hk.1)))⟩; have n6_ : Aside0 (w21.heap[gb667]? = some (.cells #[.int .u32 167772160, .int .i64 8, .slice Ao15 t670.length co15, .int .i64 (Go.bits .and .i64 t673 1), .int .i64 t674, .slice Ao16 t675.length co16] 31 (0, 0))) := ⟨(by rw [hw]; exact (by (with_reducible repeat (first | refine blk_drewN ?_ _ | refine blk_drew ?_ | refine blk_alloc ?_ _)); refine blk_put (cs := #[.int .u32 167772160, .int .i64 8, .slice Ao15 t670.length co15, .int .i64 t673, .int .i64 t674, .slice Ao16 t675.length co16]) ?_ 3 _ rfl; (with_reducible repeat (first | refine blk_drewN ?_ _ | refine blk_drew ?_ | refine blk_alloc ?_ _)); exact BK667.out))⟩; have n7_ : Aside0 (Below w.heap.size w w21) := ⟨(by rw [hw]; exact zB)⟩; clear hw; clear HO_5; clear HO_10; clear HL666_2; clear HL666_5; clear HO672; clear HO677; clear BK667; clear HB; have HO_5 := n0_; have HO_10 := n1_; have HL666_2 := n2_; have HL666_5 := n3_; have HO672 := n4_; have HO677 := n5_; have BK667 := n6_; have HB := n7_; clear n0_ n1_ n2_ n3_ n4_ n5_ n6_ n7_; have hcz22_0 : w21.cell? ⟨gb667, 0, none⟩ = some (.int .u32 167772160) := zT BK667 0; have hcz22_1 : w21.cell? ⟨gb667, 1, none⟩ = some (.int .i64 8) := zT BK667 1; have hcz22_2 : w21.cell? ⟨gb667, 2, none⟩ = some (.slice Ao15 t670.length co15) := zT BK667 2; have hcz22_3 : w21.cell? ⟨gb667, 3, none⟩ = some (.int .i64 (Go.bits .and .i64 t673 1)) := zT BK667 3; have hcz22_4 : w21.cell? ⟨gb667, 4, none⟩ = some (.int .i64 t674) := zT BK667 4; have hcz22_5 : w21.cell? ⟨gb667, 5, none⟩ = some (.slice Ao16 t675.length co16) := zT BK667 5; have hfz22_0 := blk_frozen BK667.out 0; have hfz22_1 := blk_frozen BK667.out 1; have hfz22_2 := blk_frozen BK667.out 2; have hfz22_3 := blk_frozen BK667.out 3; have hfz22_4 := blk_frozen BK667.out 4; have hfz22_5 := blk_frozen BK667.out 5) | ((with_reducible refine gate_store (t := 3) (p := 27) rfl ?_); refine store_event (t := 3) (p := 27) (v := ?vo_w23) (w1 := (w21.setCell ⟨gb667, 4, none⟩ (.int .i64 (Go.bits .and .i64 t674 3)))) ?hg ?ho ?hn ?hr ?_; (case ho => rfl); (case hg => rfl); (case hn => rfl); (case hr => first | (go_simp; done) | (go_simp; rfl)); intro w23 hw; have n0_ : Aside0 (Kd.S k31 31 w23 w.heap.size (fun k_ => some k_ ≠ (.slice Ao15 t670.length co15 : Value).ownBlock ∧ some k_ ≠ (.slice Ao16 t675.length co16 : Value).ownBlock ∧ k_ ≠ gb667) u5 x5_1) := ⟨(by rw [hw]; exact (by (with_reducible repeat (first | apply Kd.S_alloc | apply Kd.S_drewN | apply Kd.S_drew)); exact Kd.S_mono (Kd.S_far (p := ⟨gb667, 4, none⟩) (Kd.S_mono HO_5.out (fun k_ hk => (⟨hk, hk.2.2⟩ : _ ∧ k_ ≠ gb667))) (fun _ hk => hk.2) (.int .i64 (Go.bits .and .i64 t674 3))) (fun _ hk => ⟨hk.1.1, ⟨hk.1.2.1, hk.1.2.2⟩⟩)))⟩; have n1_ : Aside0 (Kd.V k31 31 w23 w.heap.size (fun k_ => some k_ ≠ (u5 : Value).ownBlock ∧ some k_ ≠ (.slice Ao15 t670.length co15 : Value).ownBlock ∧ some k_ ≠ (.slice Ao16 t675.length co16 : Value).ownBlock ∧ k_ ≠ gb667) (.slice (some ad666) t663.length co5) t663) := ⟨(by rw [hw]; exact (by (with_reducible repeat (first | apply Kd.V_alloc | apply Kd.V_drewN | apply Kd.V_drew)); exact Kd.V_mono (Kd.V_far (p := ⟨gb667, 4, none⟩) (Kd.V_mono HO_10.out (fun k_ hk => (⟨hk, hk.2.2.2⟩ : _ ∧ k_ ≠ gb667))) (fun _ hk => hk.2) (.int .i64 (Go.bits .and .i64 t674 3))) (fun _ hk => ⟨hk.1.1, ⟨hk.1.2.1, ⟨hk.1.2.2.1, hk.1.2.2.2⟩⟩⟩)))⟩; have n2_ : Aside0 (Kd.V (Kd.int .i64) 3 w23 w.heap.size (fun k_ => some k_ ≠ (u5 : Value).ownBlock ∧ some k_ ≠ (.slice Ao15 t670.length co15 : Value).ownBlock ∧ some k_ ≠ (.slice Ao16 t675.length co16 : Value).ownBlock ∧ k_ ≠ gb667) (.slice A666_2 ((rd_T31 t663 x12_1).f1).length c666_2) ((rd_T31 t663 x12_1).f1)) := ⟨(by rw [hw]; exact (by (with_reducible repeat (first | apply Kd.V_alloc | apply Kd.V_drewN | apply Kd.V_drew)); exact Kd.V_mono (Kd.V_far (p := ⟨gb667, 4, none⟩) (Kd.V_mono HL666_2.out (fun k_ hk => (⟨hk, hk.2.2.2⟩ : _ ∧ k_ ≠ gb667))) (fun _ hk => hk.2) (.int .i64 (Go.bits .and .i64 t674 3))) (fun _ hk => ⟨hk.1.1, ⟨hk.1.2.1, ⟨hk.1.2.2.1, hk.1.2.2.2⟩⟩⟩)))⟩; have n3_ : Aside0 (Kd.V (Kd.int .i64) 3 w23 w.heap.size (fun k_ => some k_ ≠ (u5 : Value).ownBlock ∧ some k_ ≠ (.slice Ao15 t670.length co15 : Value).ownBlock ∧ some k_ ≠ (.slice Ao16 t675.length co16 : Value).ownBlock ∧ k_ ≠ gb667) (.slice A666_5 ((rd_T31 t663 x12_1).f4).length c666_5) ((rd_T31 t663 x12_1).f4)) := ⟨(by rw [hw]; exact (by (with_reducible repeat (first | apply Kd.V_alloc | apply Kd.V_drewN | apply Kd.V_drew)); exact Kd.V_mono (Kd.V_far (p := ⟨gb667, 4, none⟩) (Kd.V_mono HL666_5.out (fun k_ hk => (⟨hk, hk.2.2.2⟩ : _ ∧ k_ ≠ gb667))) (fun _ hk => hk.2) (.int .i64 (Go.bits .and .i64 t674 3))) (fun _ hk => ⟨hk.1.1, ⟨hk.1.2.1, ⟨hk.1.2.2.1, hk.1.2.2.2⟩⟩⟩)))⟩; have n4_ : Aside0 (Kd.R (Kd.int .i64) 3 w23 w.heap.size (fun k_ => some k_ ≠ (.slice Ao16 t675.length co16 : Value).ownBlock) (.slice Ao15 t670.length co15) t670) := ⟨(by rw [hw]; exact (by (with_reducible repeat (first | apply Kd.R_alloc | apply Kd.R_drewN | apply Kd.R_drew)); exact Kd.R_mono (Kd.R_far (p := ⟨gb667, 4, none⟩) (Kd.R_types HO672.out BK667.out (by decide)) (fun _ hk => hk.2) (.int .i64 (Go.bits .and .i64 t674 3))) (fun _ hk => hk.1)))⟩; have n5_ : Aside0 (Kd.R (Kd.int .i64) 3 w23 w.heap.size (fun k_ => some k_ ≠ (.slice Ao15 t670.length co15 : Value).ownBlock) (.slice Ao16 t675.length co16) t675) := ⟨(by rw [hw]; exact (by (with_reducible repeat (first | apply Kd.R_alloc | apply Kd.R_drewN | apply Kd.R_drew)); exact Kd.R_mono (Kd.R_far (p := ⟨gb667, 4, none⟩) (Kd.R_types HO677.out BK667.out (by decide)) (fun _ hk => hk.2) (.int .i64 (Go.bits .and .i64 t674 3))) (fun _ hk => hk.1)))⟩; have n6_ : Aside0 (w23.heap[gb667]? = some (.cells #[.int .u32 167772160, .int .i64 8, .slice Ao15 t670.length co15, .int .i64 (Go.bits .and .i64 t673 1), .int .i64 (Go.bits .and .i64 t674 3), .slice Ao16 t675.length co16] 31 (0, 0))) := ⟨(by rw [hw]; exact (by (with_reducible repeat (first | refine blk_drewN ?_ _ | refine blk_drew ?_ | refine blk_alloc ?_ _)); refine blk_put (cs := #[.int .u32 167772160, .int .i64 8, .slice Ao15 t670.length co15, .int .i64 (Go.bits .and .i64 t673 1), .int .i64 t674, .slice Ao16 t675.length co16]) ?_ 4 _ rfl; (with_reducible repeat (first | refine blk_drewN ?_ _ | refine blk_drew ?_ | refine blk_alloc ?_ _)); exact BK667.out))⟩; have n7_ : Aside0 (Below w.heap.size w w23) := ⟨(by rw [hw]; exact zB)⟩; clear hw; clear HO_5; clear HO_10; clear HL666_2; clear HL666_5; clear HO672; clear HO677; clear BK667; clear HB; have HO_5 := n0_; have HO_10 := n1_; have HL666_2 := n2_; have HL666_5 := n3_; have HO672 := n4_; have HO677 := n5_; have BK667 := n6_; have HB := n7_; clear n0_ n1_ n2_ n3_ n4_ n5_ n6_ n7_; have hcz24_0 : w23.cell? ⟨gb667, 0, none⟩ = some (.int .u32 167772160) := zT BK667 0; have hcz24_1 : w23.cell? ⟨gb667, 1, none⟩ = some (.int .i64 8) := zT BK667 1; have hcz24_2 : w23.cell? ⟨gb667, 2, none⟩ = some (.slice Ao15 t670.length co15) := zT BK667 2; have hcz24_3 : w23.cell? ⟨gb667, 3, none⟩ = some (.int .i64 (Go.bits .and .i64 t673 1)) := zT BK667 3; have hcz24_4 : w23.cell? ⟨gb667, 4, none⟩ = some (.int .i64 (Go.bits .and .i64 t674 3)) := zT BK667 4; have hcz24_5 : w23.cell? ⟨gb667, 5, none⟩ = some (.slice Ao16 t675.length co16) := zT BK667 5; have hfz24_0 := blk_frozen BK667.out 0; have hfz24_1 := blk_frozen BK667.out 1; have hfz24_2 := blk_frozen BK667.out 2; have hfz24_3 := blk_frozen BK667.out 3; have hfz24_4 := blk_frozen BK667.out 4; have hfz24_5 := blk_frozen BK667.out 5) | ((with_reducible refine gate_builtin (b := .append) (xs := #[.tmp 28, .tmp 30]) rfl ?_); at_builtin; refine Kd.S_append k31 (w0 := w) w.heap.size rfl (.tmp 28) (.tmp 30) 22 31 (.agg #[(.int .u32 0), (.int .i64 0), (.slice none 0 0), (.int .i64 0), (.int .i64 0), (.slice none 0 0)]) 80 rfl Tryd.underlying22 info31 rfl (by decide) (by omega) u5 x5_1 (⟨(⟨167772160, 8⟩ : S29), t670, Go.bits .and .i64 t673 1, Go.bits .and .i64 t674 3, t675⟩ : S31) [.int .u32 167772160, .int .i64 8, .slice Ao15 t670.length co15, .int .i64 (Go.bits .and .i64 t673 1), .int .i64 (Go.bits .and .i64 t674 3), .slice Ao16 t675.length co16] (fun k_ => k_ ≠ gb667) (fun k_ => some k_ = (.slice Ao15 t670.length co15 : Value).ownBlock ∨ some k_ = (.slice Ao16 t675.length co16 : Value).ownBlock) rfl rfl ?aP (fun k_ hk_ => hk_.elim (fun h_ => ((Kd.R_mono (ok' := fun k_ => ((fun k_ => k_ ≠ gb667)) k_ ∧ some k_ ≠ (u5 : Value).ownBlock) (Kd.R_types (Kd.R_apart' (HO672.out) (Kd.S_typed HO_5.out) (by decide)) BK667.out (by decide)) (fun k_ hk => ⟨hk.2, hk.1.2⟩))).1 k_ h_.symm) (fun h_ => ((Kd.R_mono (ok' := fun k_ => ((fun k_ => k_ ≠ gb667)) k_ ∧ some k_ ≠ (u5 : Value).ownBlock) (Kd.R_types (Kd.R_apart' (HO677.out) (Kd.S_typed HO_5.out) (by decide)) BK667.out (by decide)) (fun k_ hk => ⟨hk.2, hk.1.2⟩))).1 k_ h_.symm)) ?aF ?aO ?aB ?aS ?aL ?_; (case aP => exact k31_mkM _ _ _ (⟨(⟨167772160, 8⟩ : S29), t670, Go.bits .and .i64 t673 1, Go.bits .and .i64 t674 3, t675⟩ : S31) (Kd.R_mono (Kd.R_tight rfl (Kd.R_mono (ok' := fun k_ => ((fun k_ => k_ ≠ gb667)) k_ ∧ some k_ ≠ (u5 : Value).ownBlock) (Kd.R_types (Kd.R_apart' (HO672.out) (Kd.S_typed HO_5.out) (by decide)) BK667.out (by decide)) (fun k_ hk => ⟨hk.2, hk.1.2⟩))) (fun _ h_ => Or.inl h_)) (Kd.R_mono (Kd.R_tight rfl (Kd.R_mono (ok' := fun k_ => ((fun k_ => k_ ≠ gb667)) k_ ∧ some k_ ≠ (u5 : Value).ownBlock) (Kd.R_types (Kd.R_apart' (HO677.out) (Kd.S_typed HO_5.out) (by decide)) BK667.out (by decide)) (fun k_ hk => ⟨hk.2, hk.1.2⟩))) (fun _ h_ => Or.inr (h_)))); (case aB => exact zB); (case aF => exact (fun k_ hk => Kd.freshB (g := gb667) (o := .cells #[.int .u32 167772160, .int .i64 8, .slice Ao15 t670.length co15, .int .i64 (Go.bits .and .i64 t673 1), .int .i64 (Go.bits .and .i64 t674 3), .slice Ao16 t675.length co16] 31 (0, 0)) (zK BK667) k_ hk)); (case aO => exact (by (with_reducible repeat (first | apply Kd.S_alloc | apply Kd.S_drewN | apply Kd.S_drew)); exact Kd.S_mono HO_5.out (fun k_ hk => ⟨hk.2.2, fun e_ => e_.elim (fun h_ => hk.1 h_) (fun h_ => hk.2.1 h_)⟩))); (case aS => exact (below_size zB)); (case aL => have := LMc10.out; omega); intro v679 w25 ho hb hg hat; rw [← Ny678.out] at ho; have n0_ := Aside0.mk (Kd.V_afterv (ok := (fun k_ => some k_ ≠ (.slice Ao15 t670.length co15 : Value).ownBlock ∧ some k_ ≠ (.slice Ao16 t675.length co16 : Value).ownBlock ∧ k_ ≠ gb667)) (by (with_reducible repeat (first | apply Kd.V_alloc | apply Kd.V_drewN | apply Kd.V_drew)); exact Kd.V_mono HO_10.out (fun _ hk => ⟨⟨hk.2.1, ⟨hk.2.2.1, hk.2.2.2⟩⟩, hk.1⟩)) hg hat); have n1_ := Aside0.mk (Kd.V_afterv (ok := (fun k_ => some k_ ≠ (.slice Ao15 t670.length co15 : Value).ownBlock ∧ some k_ ≠ (.slice Ao16 t675.length co16 : Value).ownBlock ∧ k_ ≠ gb667)) (by (with_reducible repeat (first | apply Kd.V_alloc | apply Kd.V_drewN | apply Kd.V_drew)); exact Kd.V_mono HL666_2.out (fun _ hk => ⟨⟨hk.2.1, ⟨hk.2.2.1, hk.2.2.2⟩⟩, hk.1⟩)) hg hat); have n2_ := Aside0.mk (Kd.V_afterv (ok := (fun k_ => some k_ ≠ (.slice Ao15 t670.length co15 : Value).ownBlock ∧ some k_ ≠ (.slice Ao16 t675.length co16 : Value).ownBlock ∧ k_ ≠ gb667)) (by (with_reducible repeat (first | apply Kd.V_alloc | apply Kd.V_drewN | apply Kd.V_drew)); exact Kd.V_mono HL666_5.out (fun _ hk => ⟨⟨hk.2.1, ⟨hk.2.2.1, hk.2.2.2⟩⟩, hk.1⟩)) hg hat); have n3_ := Aside0.mk (blk_grown (g := gb667) (o := .cells #[.int .u32 167772160, .int .i64 8, .slice Ao15 t670.length co15, .int .i64 (Go.bits .and .i64 t673 1), .int .i64 (Go.bits .and .i64 t674 3), .slice Ao16 t675.length co16] 31 (0, 0)) (zK BK667) hg (Kd.S_away HO_5.out (fun _ hk => hk.2.2))); have n4_ := Aside0.mk (hb); have n5_ := Aside0.mk (ho); clear HO_10; clear HL666_2; clear HL666_5; clear BK667; clear HB; clear HO_5; clear HO672; clear HO677; have HO_10 := n0_; have HL666_2 := n1_; have HL666_5 := n2_; have BK667 := n3_; have HB := n4_; have HO680 := n5_; clear n0_ n1_ n2_ n3_ n4_ n5_; clear ho hb hg hat))
 go_roundg k1
 case measure => have := HK1.out; omega
 case rel => exact ⟨(y678), (wrap64 (x12_1 + 1)), zR, H', ⟨by have := HK1.out; omega⟩, ⟨by (with_reducible repeat (first | apply Kd.S_alloc | apply Kd.S_drewN | apply Kd.S_drew)); exact Kd.S_mono HO680.out (fun _ hk => trivial)⟩, ⟨by (with_reducible repeat (first | apply Kd.V_alloc | apply Kd.V_drewN | apply Kd.V_drew)); exact Kd.V_mono HO_10.out (fun _ hk => hk.2)⟩, ⟨zB⟩⟩
end Go.Proofs.YtplcdbhklepkgaaDoor.BO
