-- Made by gen.py, a program of this session's, over the kit's print.
import Derived.Test.YtplcdbhklepkgaaDoorVGroShort
import Derived.Test.YtplcdbhklepkgaaDoorVGroPGx0
import Derived.Test.YtplcdbhklepkgaaDoorVGroPGx2
import Derived.Test.YtplcdbhklepkgaaDoorVGroPGx4
namespace Go.Proofs.YtplcdbhklepkgaaDoor.PG
open Go.RowKit Go.Proofs.YtplcdbhklepkgaaDoorW.PrintWords Go.Proofs.YtplcdbhklepkgaaDoorW.PrintLast Go.Proofs.YtplcdbhklepkgaaDoorW.PrintMore Go.Proofs.YtplcdbhklepkgaaDoor.GenWords
attribute [local go_sem] max2_int min2_int max_two min_two max_three min_three max_four min_four   -- for this text's walks alone
set_option linter.unusedVariables false
set_option linter.unusedSimpArgs false

/-! ### g4_: function 15 -/
mutual
def g4_.j0 : Nat → Int → Int → List Int → Int → Int → List Int → Int → Int → Int → Int → Option (Int × Int × List Int × Int × Int × List Int)
  | 0, _, _, _, _, _, _, _, _, _, _ => none
  | k + 1, x192000, x192001, x192002, x192003, x192004, x192005, x194000, x194001, x194003, x194004 => (g14_.f x192002 6).bind fun t195 => (g4_.l0 k t195 (t195.length : Int) 0 x192000 x192001 x192002 x192003 x192004 x192005 x194000 x194001 ([] : List Int) x194003 x194004)
def g4_.l0 : Nat → List Int → Int → Int → Int → Int → List Int → Int → Int → List Int → Int → Int → List Int → Int → Int → Option (Int × Int × List Int × Int × Int × List Int)
  | 0, _, _, _, _, _, _, _, _, _, _, _, _, _, _ => none
  | k + 1, x25, x26, x27, x192000, x192001, x192002, x192003, x192004, x192005, x194000, x194001, x194002, x194003, x194004 => if x27 < x26 then (if 0 ≤ x27 then (if x27 < (x25.length : Int) then (if x194002.length < 17592186044416 then (g4_.l0 k x25 x26 (wrap64 (x27 + 1)) x192000 x192001 x192002 x192003 x192004 x192005 x194000 x194001 (x194002 ++ [wrap64 (1 + (Go.bits .and .i64 (rd x25 x27) 15))]) x194003 x194004) else (none)) else (none)) else (none)) else ((g14_.f x192005 4).bind fun t202 => (g4_.l1 k t202 (t202.length : Int) 0 x194000 x194001 x194002 x194003 x194004 ([] : List Int)))
def g4_.l1 : Nat → List Int → Int → Int → Int → Int → List Int → Int → Int → List Int → Option (Int × Int × List Int × Int × Int × List Int)
  | 0, _, _, _, _, _, _, _, _, _ => none
  | k + 1, x42, x43, x44, x194000, x194001, x194002, x194003, x194004, x194005 => if x44 < x43 then (if 0 ≤ x44 then (if x44 < (x42.length : Int) then (if x194005.length < 17592186044416 then (g4_.l1 k x42 x43 (wrap64 (x44 + 1)) x194000 x194001 x194002 x194003 x194004 (x194005 ++ [wrap64 (1 + (Go.bits .and .i64 (rd x42 x44) 15))])) else (none)) else (none)) else (none)) else ((g13_.f k x194005).bind fun t209 => ((g5_.f k t209).bind fun t210 => (some (x194000, x194001, x194002, x194003, x194004, t210))))
end
def g4_.f (k : Nat) (a0_0 : Int) (a0_1 : Int) (l0_2 : List Int) (a0_3 : Int) (a0_4 : Int) (l0_5 : List Int) : Option (Int × Int × List Int × Int × Int × List Int) := (addr_Check.f a0_0 a0_1).bind fun t194 => (if t194 = 0 then (g4_.j0 k a0_0 a0_1 l0_2 a0_3 a0_4 l0_5 a0_0 a0_1 (Go.bits .and .i64 a0_3 1023) (Go.bits .and .i64 a0_4 1023)) else (g4_.j0 k a0_0 a0_1 l0_2 a0_3 a0_4 l0_5 167772160 8 (Go.bits .and .i64 a0_3 1023) (Go.bits .and .i64 a0_4 1023)))
theorem g4_.mono_l : ∀ k, (∀ y0 y1 y2 y3 y4 y5 y6 y7 y8 y9, LeO (g4_.j0 k y0 y1 y2 y3 y4 y5 y6 y7 y8 y9) (g4_.j0 (k + 1) y0 y1 y2 y3 y4 y5 y6 y7 y8 y9)) ∧ (∀ y0 y1 y2 y3 y4 y5 y6 y7 y8 y9 y10 y11 y12 y13, LeO (g4_.l0 k y0 y1 y2 y3 y4 y5 y6 y7 y8 y9 y10 y11 y12 y13) (g4_.l0 (k + 1) y0 y1 y2 y3 y4 y5 y6 y7 y8 y9 y10 y11 y12 y13)) ∧ (∀ y0 y1 y2 y3 y4 y5 y6 y7 y8, LeO (g4_.l1 k y0 y1 y2 y3 y4 y5 y6 y7 y8) (g4_.l1 (k + 1) y0 y1 y2 y3 y4 y5 y6 y7 y8))
  | 0 => ⟨fun _ _ _ _ _ _ _ _ _ _ r h => by simp [g4_.j0] at h, fun _ _ _ _ _ _ _ _ _ _ _ _ _ _ r h => by simp [g4_.l0] at h, fun _ _ _ _ _ _ _ _ _ r h => by simp [g4_.l1] at h⟩
  | k + 1 => by
    obtain ⟨ih0, ih1, ih2⟩ := g4_.mono_l k
    refine ⟨?_, ?_, ?_⟩
    · intro y0 y1 y2 y3 y4 y5 y6 y7 y8 y9
      unfold g4_.j0
      repeat' (with_reducible first | exact ih0 _ _ _ _ _ _ _ _ _ _ | exact ih1 _ _ _ _ _ _ _ _ _ _ _ _ _ _ | exact ih2 _ _ _ _ _ _ _ _ _ | exact g5_.mono _ _ | exact g13_.mono _ _ | exact LeO.refl _ | exact LeO.none _ | refine LeO.ite ?_ ?_ | refine LeO.bind ?_ (fun _ => ?_))
    · intro y0 y1 y2 y3 y4 y5 y6 y7 y8 y9 y10 y11 y12 y13
      unfold g4_.l0
      repeat' (with_reducible first | exact ih0 _ _ _ _ _ _ _ _ _ _ | exact ih1 _ _ _ _ _ _ _ _ _ _ _ _ _ _ | exact ih2 _ _ _ _ _ _ _ _ _ | exact g5_.mono _ _ | exact g13_.mono _ _ | exact LeO.refl _ | exact LeO.none _ | refine LeO.ite ?_ ?_ | refine LeO.bind ?_ (fun _ => ?_))
    · intro y0 y1 y2 y3 y4 y5 y6 y7 y8
      unfold g4_.l1
      repeat' (with_reducible first | exact ih0 _ _ _ _ _ _ _ _ _ _ | exact ih1 _ _ _ _ _ _ _ _ _ _ _ _ _ _ | exact ih2 _ _ _ _ _ _ _ _ _ | exact g5_.mono _ _ | exact g13_.mono _ _ | exact LeO.refl _ | exact LeO.none _ | refine LeO.ite ?_ ?_ | refine LeO.bind ?_ (fun _ => ?_))
theorem g4_.mono : ∀ a0 a1 a2 a3 a4 a5 k, LeO (g4_.f k a0 a1 a2 a3 a4 a5) (g4_.f (k + 1) a0 a1 a2 a3 a4 a5) := by
  intro a0 a1 a2 a3 a4 a5 k
  obtain ⟨ih0, ih1, ih2⟩ := g4_.mono_l k
  unfold g4_.f
  repeat' (with_reducible first | exact ih0 _ _ _ _ _ _ _ _ _ _ | exact ih1 _ _ _ _ _ _ _ _ _ _ _ _ _ _ | exact ih2 _ _ _ _ _ _ _ _ _ | exact g5_.mono _ _ | exact g13_.mono _ _ | exact LeO.refl _ | exact LeO.none _ | refine LeO.ite ?_ ?_ | refine LeO.bind ?_ (fun _ => ?_))
set_option maxHeartbeats 8000000 in
set_option maxRecDepth 100000 in
theorem g4_.calls (k : Nat) (a0_0 : Int) (a0_1 : Int) (A0_2 : Option Addr) (c0_2 : Nat) (l0_2 : List Int) (a0_3 : Int) (a0_4 : Int) (A0_5 : Option Addr) (c0_5 : Nat) (l0_5 : List Int) (r1 : Int) (r2 : Int) (r3 : List Int) (r4 : Int) (r5 : Int) (r6 : List Int) (w : World) (hr0_2 : Kd.C (Kd.int .i64) w A0_2 l0_2.length l0_2) (hc0_2 : l0_2.length ≤ c0_2) (hr0_5 : Kd.C (Kd.int .i64) w A0_5 l0_5.length l0_5) (hc0_5 : l0_5.length ≤ c0_5) (hgl0_0 : w.cell? ⟨0, 0, none⟩ = some (.int .u32 167772160)) (hgl0_1 : w.cell? ⟨0, 1, none⟩ = some (.int .i64 8)) (h : g4_.f k a0_0 a0_1 l0_2 a0_3 a0_4 l0_5 = some (r1, r2, r3, r4, r5, r6)) :
 Calls Tryd.prog 15 #[.agg #[.int .u32 a0_0, .int .i64 a0_1, .slice A0_2 l0_2.length c0_2, .int .i64 a0_3, .int .i64 a0_4, .slice A0_5 l0_5.length c0_5]] w fun e w' => ∃ v2_ v5_ : Value, e = .returned (.agg #[.int .u32 r1, .int .i64 r2, v2_, .int .i64 r4, .int .i64 r5, v5_]) ∧ Kd.R (Kd.int .i64) 3 w' w.heap.size (fun k_ => some k_ ≠ (v5_ : Value).ownBlock) v2_ r3 ∧ Kd.R (Kd.int .i64) 3 w' w.heap.size (fun k_ => some k_ ≠ (v2_ : Value).ownBlock) v5_ r6 ∧ Below w.heap.size w w' := by
 have hu31 := Tryd.underlying31
 have hu29 := Tryd.underlying29
 have hu3 := Tryd.underlying3
 have hu23 := Tryd.underlying23
 have HR0_2 := Aside0.mk hr0_2
 have HC0_2 := Aside0.mk hc0_2
 clear hr0_2 hc0_2
 have HR0_5 := Aside0.mk hr0_5
 have HC0_5 := Aside0.mk hc0_5
 clear hr0_5 hc0_5
 have GL0_0 := Aside0.mk hgl0_0
 clear hgl0_0
 have GL0_1 := Aside0.mk hgl0_1
 clear hgl0_1
 have HB := Aside0.mk (Below.refl w.heap.size w)
 have H : ((addr_Check.f a0_0 a0_1).bind fun t194 => (if t194 = 0 then (g4_.j0 k a0_0 a0_1 l0_2 a0_3 a0_4 l0_5 a0_0 a0_1 (Go.bits .and .i64 a0_3 1023) (Go.bits .and .i64 a0_4 1023)) else (g4_.j0 k a0_0 a0_1 l0_2 a0_3 a0_4 l0_5 167772160 8 (Go.bits .and .i64 a0_3 1023) (Go.bits .and .i64 a0_4 1023)))) = some (r1, r2, r3, r4, r5, r6) := h
 clear h
 replace H := Option.bind_eq_some_iff.mp H
 obtain ⟨t194, A20, H⟩ := H
 replace H : (if t194 = 0 then (g4_.j0 k a0_0 a0_1 l0_2 a0_3 a0_4 l0_5 a0_0 a0_1 (Go.bits .and .i64 a0_3 1023) (Go.bits .and .i64 a0_4 1023)) else (g4_.j0 k a0_0 a0_1 l0_2 a0_3 a0_4 l0_5 167772160 8 (Go.bits .and .i64 a0_3 1023) (Go.bits .and .i64 a0_4 1023))) = some (r1, r2, r3, r4, r5, r6) := H
 have A2 := Aside0.mk A20
 clear A20
 have HC3 := Aside0.mk H
 clear H
 go_enter Tryd.func15, Tryd.ntmps15
 go_upto_if 20 with (first | ((with_reducible refine gate_dst (N := 1) rfl ?_); refine bx 1 (#[.int .u32 a0_0, .int .i64 a0_1, .slice A0_2 l0_2.length c0_2, .int .i64 a0_3, .int .i64 a0_4, .slice A0_5 l0_5.length c0_5]) 31 ?_; intro gb191 hg w4 hbox hb; have n0_ := Aside0.mk (below_step zB hb); have n1_ := Aside0.mk (hbox); have n2_ := Aside0.mk ((zG hg : w.heap.size ≤ gb191)); have n3_ := Aside0.mk ((zG hg : w.heap.size ≤ gb191)); clear HB; have HB := n0_; have BK191 := n1_; have GW191 := n2_; have GE191 := n3_; clear n0_ n1_ n2_ n3_; clear hb hbox hg) | ((with_reducible refine gate_dst (N := 2) rfl ?_); refine bx 2 (#[.int .u32 0, .int .i64 0, .slice none 0 0, .int .i64 0, .int .i64 0, .slice none 0 0]) 31 ?_; intro gb192 hg w5 hbox hb; have n0_ := Aside0.mk (blk_below (g := gb191) (o := .cells #[.int .u32 a0_0, .int .i64 a0_1, .slice A0_2 l0_2.length c0_2, .int .i64 a0_3, .int .i64 a0_4, .slice A0_5 l0_5.length c0_5] 31 (0, 0)) (zK BK191) hb); have n1_ := Aside0.mk (below_step zB hb); have n2_ := Aside0.mk (hbox); have n3_ := Aside0.mk ((zG hg : w.heap.size ≤ gb192)); have n4_ := Aside0.mk ((zG hg : w.heap.size ≤ gb192)); have n5_ := Aside0.mk ((by rw [hg]; exact Nat.ne_of_lt (blk_lt (g := gb191) (o := .cells #[.int .u32 a0_0, .int .i64 a0_1, .slice A0_2 l0_2.length c0_2, .int .i64 a0_3, .int .i64 a0_4, .slice A0_5 l0_5.length c0_5] 31 (0, 0)) (zK BK191)) : gb191 ≠ gb192)); have n6_ := Aside0.mk ((by rw [hg]; exact Nat.ne_of_gt (blk_lt (g := gb191) (o := .cells #[.int .u32 a0_0, .int .i64 a0_1, .slice A0_2 l0_2.length c0_2, .int .i64 a0_3, .int .i64 a0_4, .slice A0_5 l0_5.length c0_5] 31 (0, 0)) (zK BK191)) : gb192 ≠ gb191)); clear BK191; clear HB; have BK191 := n0_; have HB := n1_; have BK192 := n2_; have GW192 := n3_; have GE192 := n4_; have NB191_192 := n5_; have NB192_191 := n6_; clear n0_ n1_ n2_ n3_ n4_ n5_ n6_; clear hb hbox hg; have hnb6 := NB191_192.out; have hnc6 := NB192_191.out; have hcz7_0 : w5.cell? ⟨gb191, 0, none⟩ = some (.int .u32 a0_0) := zT BK191 0; have hcz7_1 : w5.cell? ⟨gb191, 1, none⟩ = some (.int .i64 a0_1) := zT BK191 1; have hcz7_2 : w5.cell? ⟨gb191, 2, none⟩ = some (.slice A0_2 l0_2.length c0_2) := zT BK191 2; have hcz7_3 : w5.cell? ⟨gb191, 3, none⟩ = some (.int .i64 a0_3) := zT BK191 3; have hcz7_4 : w5.cell? ⟨gb191, 4, none⟩ = some (.int .i64 a0_4) := zT BK191 4; have hcz7_5 : w5.cell? ⟨gb191, 5, none⟩ = some (.slice A0_5 l0_5.length c0_5) := zT BK191 5; have hfz7_0 := blk_frozen BK191.out 0; have hfz7_1 := blk_frozen BK191.out 1; have hfz7_2 := blk_frozen BK191.out 2; have hfz7_3 := blk_frozen BK191.out 3; have hfz7_4 := blk_frozen BK191.out 4; have hfz7_5 := blk_frozen BK191.out 5) | ((with_reducible refine gate_dst (N := 3) rfl ?_); refine bx 3 (#[.int .u32 0, .int .i64 0, .slice none 0 0, .int .i64 0, .int .i64 0, .slice none 0 0]) 31 ?_; intro gb193 hg w8 hbox hb; have n0_ := Aside0.mk (blk_below (g := gb191) (o := .cells #[.int .u32 a0_0, .int .i64 a0_1, .slice A0_2 l0_2.length c0_2, .int .i64 a0_3, .int .i64 a0_4, .slice A0_5 l0_5.length c0_5] 31 (0, 0)) (zK BK191) hb); have n1_ := Aside0.mk (blk_below (g := gb192) (o := .cells #[.int .u32 0, .int .i64 0, .slice none 0 0, .int .i64 0, .int .i64 0, .slice none 0 0] 31 (0, 0)) (zK BK192) hb); have n2_ := Aside0.mk (below_step zB hb); have n3_ := Aside0.mk (hbox); have n4_ := Aside0.mk ((zG hg : w.heap.size ≤ gb193)); have n5_ := Aside0.mk ((zG hg : w.heap.size ≤ gb193)); have n6_ := Aside0.mk ((by rw [hg]; exact Nat.ne_of_lt (blk_lt (g := gb191) (o := .cells #[.int .u32 a0_0, .int .i64 a0_1, .slice A0_2 l0_2.length c0_2, .int .i64 a0_3, .int .i64 a0_4, .slice A0_5 l0_5.length c0_5] 31 (0, 0)) (zK BK191)) : gb191 ≠ gb193)); have n7_ := Aside0.mk ((by rw [hg]; exact Nat.ne_of_gt (blk_lt (g := gb191) (o := .cells #[.int .u32 a0_0, .int .i64 a0_1, .slice A0_2 l0_2.length c0_2, .int .i64 a0_3, .int .i64 a0_4, .slice A0_5 l0_5.length c0_5] 31 (0, 0)) (zK BK191)) : gb193 ≠ gb191)); have n8_ := Aside0.mk ((by rw [hg]; exact Nat.ne_of_lt (blk_lt (g := gb192) (o := .cells #[.int .u32 0, .int .i64 0, .slice none 0 0, .int .i64 0, .int .i64 0, .slice none 0 0] 31 (0, 0)) (zK BK192)) : gb192 ≠ gb193)); have n9_ := Aside0.mk ((by rw [hg]; exact Nat.ne_of_gt (blk_lt (g := gb192) (o := .cells #[.int .u32 0, .int .i64 0, .slice none 0 0, .int .i64 0, .int .i64 0, .slice none 0 0] 31 (0, 0)) (zK BK192)) : gb193 ≠ gb192)); clear BK191; clear BK192; clear HB; have BK191 := n0_; have BK192 := n1_; have HB := n2_; have BK193 := n3_; have GW193 := n4_; have GE193 := n5_; have NB191_193 := n6_; have NB193_191 := n7_; have NB192_193 := n8_; have NB193_192 := n9_; clear n0_ n1_ n2_ n3_ n4_ n5_ n6_ n7_ n8_ n9_; clear hb hbox hg; have hnb9 := NB193_191.out; have hnc9 := NB191_193.out; have hnb10 := NB193_192.out; have hnc10 := NB192_193.out; have hcz11_0 : w8.cell? ⟨gb193, 0, none⟩ = some (.int .u32 0) := zT BK193 0; have hcz11_1 : w8.cell? ⟨gb193, 1, none⟩ = some (.int .i64 0) := zT BK193 1; have hcz11_2 : w8.cell? ⟨gb193, 2, none⟩ = some (.slice none 0 0) := zT BK193 2; have hcz11_3 : w8.cell? ⟨gb193, 3, none⟩ = some (.int .i64 0) := zT BK193 3; have hcz11_4 : w8.cell? ⟨gb193, 4, none⟩ = some (.int .i64 0) := zT BK193 4; have hcz11_5 : w8.cell? ⟨gb193, 5, none⟩ = some (.slice none 0 0) := zT BK193 5; have hfz11_0 := blk_frozen BK193.out 0; have hfz11_1 := blk_frozen BK193.out 1; have hfz11_2 := blk_frozen BK193.out 2; have hfz11_3 := blk_frozen BK193.out 3; have hfz11_4 := blk_frozen BK193.out 4; have hfz11_5 := blk_frozen BK193.out 5; have hcz12_0 : w8.cell? ⟨gb191, 0, none⟩ = some (.int .u32 a0_0) := zT BK191 0; have hcz12_1 : w8.cell? ⟨gb191, 1, none⟩ = some (.int .i64 a0_1) := zT BK191 1; have hcz12_2 : w8.cell? ⟨gb191, 2, none⟩ = some (.slice A0_2 l0_2.length c0_2) := zT BK191 2; have hcz12_3 : w8.cell? ⟨gb191, 3, none⟩ = some (.int .i64 a0_3) := zT BK191 3; have hcz12_4 : w8.cell? ⟨gb191, 4, none⟩ = some (.int .i64 a0_4) := zT BK191 4; have hcz12_5 : w8.cell? ⟨gb191, 5, none⟩ = some (.slice A0_5 l0_5.length c0_5) := zT BK191 5; have hfz12_0 := blk_frozen BK191.out 0; have hfz12_1 := blk_frozen BK191.out 1; have hfz12_2 := blk_frozen BK191.out 2; have hfz12_3 := blk_frozen BK191.out 3; have hfz12_4 := blk_frozen BK191.out 4; have hfz12_5 := blk_frozen BK191.out 5) | ((with_reducible refine gate_callee (f := 25) rfl ?_); refine goesL_ (some 19) rfl rfl Tryd.func25 (by kernel_rfl) rfl #[.agg #[.int .u32 a0_0, .int .i64 a0_1]] rfl zM ?_; (with_reducible refine (addr_Check.calls a0_0 a0_1 t194 _ A2.out).mono ?_); rintro e w13 ⟨rfl, hb⟩; refine ⟨_, rfl, ?_⟩; have n0_ := Aside0.mk (blk_below (g := gb191) (o := .cells #[.int .u32 a0_0, .int .i64 a0_1, .slice A0_2 l0_2.length c0_2, .int .i64 a0_3, .int .i64 a0_4, .slice A0_5 l0_5.length c0_5] 31 (0, 0)) (by (with_reducible repeat (first | refine blk_drewN ?_ _ | refine blk_drew ?_ | refine blk_alloc ?_ _)); refine blk_far ?_ NB191_193.out _; (with_reducible repeat (first | refine blk_drewN ?_ _ | refine blk_drew ?_ | refine blk_alloc ?_ _)); refine blk_far ?_ NB191_193.out _; (with_reducible repeat (first | refine blk_drewN ?_ _ | refine blk_drew ?_ | refine blk_alloc ?_ _)); refine blk_far ?_ NB191_193.out _; (with_reducible repeat (first | refine blk_drewN ?_ _ | refine blk_drew ?_ | refine blk_alloc ?_ _)); refine blk_far ?_ NB191_193.out _; (with_reducible repeat (first | refine blk_drewN ?_ _ | refine blk_drew ?_ | refine blk_alloc ?_ _)); refine blk_far ?_ NB191_193.out _; (with_reducible repeat (first | refine blk_drewN ?_ _ | refine blk_drew ?_ | refine blk_alloc ?_ _)); refine blk_far ?_ NB191_193.out _; (with_reducible repeat (first | refine blk_drewN ?_ _ | refine blk_drew ?_ | refine blk_alloc ?_ _)); exact BK191.out) hb); have n1_ := Aside0.mk (blk_below (g := gb192) (o := .cells #[.int .u32 0, .int .i64 0, .slice none 0 0, .int .i64 0, .int .i64 0, .slice none 0 0] 31 (0, 0)) (by (with_reducible repeat (first | refine blk_drewN ?_ _ | refine blk_drew ?_ | refine blk_alloc ?_ _)); refine blk_far ?_ NB192_193.out _; (with_reducible repeat (first | refine blk_drewN ?_ _ | refine blk_drew ?_ | refine blk_alloc ?_ _)); refine blk_far ?_ NB192_193.out _; (with_reducible repeat (first | refine blk_drewN ?_ _ | refine blk_drew ?_ | refine blk_alloc ?_ _)); refine blk_far ?_ NB192_193.out _; (with_reducible repeat (first | refine blk_drewN ?_ _ | refine blk_drew ?_ | refine blk_alloc ?_ _)); refine blk_far ?_ NB192_193.out _; (with_reducible repeat (first | refine blk_drewN ?_ _ | refine blk_drew ?_ | refine blk_alloc ?_ _)); refine blk_far ?_ NB192_193.out _; (with_reducible repeat (first | refine blk_drewN ?_ _ | refine blk_drew ?_ | refine blk_alloc ?_ _)); refine blk_far ?_ NB192_193.out _; (with_reducible repeat (first | refine blk_drewN ?_ _ | refine blk_drew ?_ | refine blk_alloc ?_ _)); exact BK192.out) hb); have n2_ := Aside0.mk (blk_below (g := gb193) (o := .cells #[.int .u32 a0_0, .int .i64 a0_1, .slice none 0 0, .int .i64 (Go.bits .and .i64 a0_3 1023), .int .i64 (Go.bits .and .i64 a0_4 1023), .slice none 0 0] 31 (0, 0)) (by (with_reducible repeat (first | refine blk_drewN ?_ _ | refine blk_drew ?_ | refine blk_alloc ?_ _)); refine blk_put (cs := #[.int .u32 a0_0, .int .i64 a0_1, .slice none 0 0, .int .i64 (Go.bits .and .i64 a0_3 1023), .int .i64 (Go.bits .and .i64 a0_4 1023), .slice none 0 0]) ?_ 5 _ rfl; (with_reducible repeat (first | refine blk_drewN ?_ _ | refine blk_drew ?_ | refine blk_alloc ?_ _)); refine blk_put (cs := #[.int .u32 a0_0, .int .i64 a0_1, .slice none 0 0, .int .i64 (Go.bits .and .i64 a0_3 1023), .int .i64 0, .slice none 0 0]) ?_ 4 _ rfl; (with_reducible repeat (first | refine blk_drewN ?_ _ | refine blk_drew ?_ | refine blk_alloc ?_ _)); refine blk_put (cs := #[.int .u32 a0_0, .int .i64 a0_1, .slice none 0 0, .int .i64 0, .int .i64 0, .slice none 0 0]) ?_ 3 _ rfl; (with_reducible repeat (first | refine blk_drewN ?_ _ | refine blk_drew ?_ | refine blk_alloc ?_ _)); refine blk_put (cs := #[.int .u32 a0_0, .int .i64 a0_1, .slice none 0 0, .int .i64 0, .int .i64 0, .slice none 0 0]) ?_ 2 _ rfl; (with_reducible repeat (first | refine blk_drewN ?_ _ | refine blk_drew ?_ | refine blk_alloc ?_ _)); refine blk_put (cs := #[.int .u32 a0_0, .int .i64 0, .slice none 0 0, .int .i64 0, .int .i64 0, .slice none 0 0]) ?_ 1 _ rfl; (with_reducible repeat (first | refine blk_drewN ?_ _ | refine blk_drew ?_ | refine blk_alloc ?_ _)); refine blk_put (cs := #[.int .u32 0, .int .i64 0, .slice none 0 0, .int .i64 0, .int .i64 0, .slice none 0 0]) ?_ 0 _ rfl; (with_reducible repeat (first | refine blk_drewN ?_ _ | refine blk_drew ?_ | refine blk_alloc ?_ _)); exact BK193.out) hb); have n3_ := Aside0.mk (below_step zB hb); clear BK191; clear BK192; clear BK193; clear HB; have BK191 := n0_; have BK192 := n1_; have BK193 := n2_; have HB := n3_; clear n0_ n1_ n2_ n3_; (try clear hb); (try clear hb2); (try clear hk); (try clear hi)))
 (try simp only [Act.put, List.setIfInBounds_toArray, List.set_cons_zero, List.set_cons_succ])
 go_cut [] (fun wc => ∃ (kq : Nat) (x194000_2 : Int) (x194001_2 : Int), Aside0 (g4_.j0 kq a0_0 a0_1 l0_2 a0_3 a0_4 l0_5 x194000_2 x194001_2 (Go.bits .and .i64 a0_3 1023) (Go.bits .and .i64 a0_4 1023) = some (r1, r2, r3, r4, r5, r6)) ∧ Aside0 (kq ≤ k) ∧ Aside0 (wc.heap[gb191]? = some (.cells #[.int .u32 a0_0, .int .i64 a0_1, (.slice A0_2 l0_2.length c0_2), .int .i64 a0_3, .int .i64 a0_4, (.slice A0_5 l0_5.length c0_5)] 31 (0, 0))) ∧ Aside0 (wc.heap[gb192]? = some (.cells #[.int .u32 0, .int .i64 0, (.slice none 0 0), .int .i64 0, .int .i64 0, (.slice none 0 0)] 31 (0, 0))) ∧ Aside0 (wc.heap[gb193]? = some (.cells #[.int .u32 x194000_2, .int .i64 x194001_2, (.slice none 0 0), .int .i64 (Go.bits .and .i64 a0_3 1023), .int .i64 (Go.bits .and .i64 a0_4 1023), (.slice none 0 0)] 31 (0, 0))) ∧ Aside0 (Below w.heap.size w wc))
 case first =>
  have H := HC3.out
  clear HC3
  by_cases c14 : t194 = 0
  ·
   rw [if_pos c14] at H
   have c14b0 : (t194 == 0) = true := beq_iff_eq.mpr c14
   have c14b1 : (t194 != 0) = false := bne_eq_false_iff_eq.mpr c14
   clear c14
   (first | rw [c14b0] | (simp only [i64_w, i32_w]; rw [c14b0]) | skip)
   have H' := Aside0.mk H
   clear H
   go_wp2
   go_meet
   case rel => exact ⟨_, (a0_0), (a0_1), H', ⟨by first | omega | exact Nat.le_refl _⟩, ⟨zK BK191⟩, ⟨zK BK192⟩, ⟨zK BK193⟩, ⟨zB⟩⟩
  rw [if_neg c14] at H
  have c14b0 : (t194 == 0) = false := beq_eq_false_iff_ne.mpr c14
  have c14b1 : (t194 != 0) = true := bne_iff_ne.mpr c14
  (first | rw [c14b0] | (simp only [i64_w, i32_w]; rw [c14b0]) | skip)
  have H' := Aside0.mk H
  clear H
  have hgl0_0 := zL HB GL0_0.out
  have hgl0_1 := zL HB GL0_1.out
  have hnb15 := NB193_191.out
  have hnc15 := NB191_193.out
  have hnb16 := NB193_192.out
  have hnc16 := NB192_193.out
  have hcz17_0 : w13.cell? ⟨gb193, 0, none⟩ = some (.int .u32 a0_0) := zT BK193 0
  have hcz17_1 : w13.cell? ⟨gb193, 1, none⟩ = some (.int .i64 a0_1) := zT BK193 1
  have hcz17_2 : w13.cell? ⟨gb193, 2, none⟩ = some (.slice none 0 0) := zT BK193 2
  have hcz17_3 : w13.cell? ⟨gb193, 3, none⟩ = some (.int .i64 (Go.bits .and .i64 a0_3 1023)) := zT BK193 3
  have hcz17_4 : w13.cell? ⟨gb193, 4, none⟩ = some (.int .i64 (Go.bits .and .i64 a0_4 1023)) := zT BK193 4
  have hcz17_5 : w13.cell? ⟨gb193, 5, none⟩ = some (.slice none 0 0) := zT BK193 5
  have hfz17_0 := blk_frozen BK193.out 0
  have hfz17_1 := blk_frozen BK193.out 1
  have hfz17_2 := blk_frozen BK193.out 2
  have hfz17_3 := blk_frozen BK193.out 3
  have hfz17_4 := blk_frozen BK193.out 4
  have hfz17_5 := blk_frozen BK193.out 5
  go_wp2
  go_meet
  case rel => exact ⟨_, (167772160), (8), H', ⟨by first | omega | exact Nat.le_refl _⟩, ⟨by (with_reducible repeat (first | refine blk_drewN ?_ _ | refine blk_drew ?_ | refine blk_alloc ?_ _)); refine blk_far ?_ NB191_193.out _; (with_reducible repeat (first | refine blk_drewN ?_ _ | refine blk_drew ?_ | refine blk_alloc ?_ _)); refine blk_far ?_ NB191_193.out _; (with_reducible repeat (first | refine blk_drewN ?_ _ | refine blk_drew ?_ | refine blk_alloc ?_ _)); exact BK191.out⟩, ⟨by (with_reducible repeat (first | refine blk_drewN ?_ _ | refine blk_drew ?_ | refine blk_alloc ?_ _)); refine blk_far ?_ NB192_193.out _; (with_reducible repeat (first | refine blk_drewN ?_ _ | refine blk_drew ?_ | refine blk_alloc ?_ _)); refine blk_far ?_ NB192_193.out _; (with_reducible repeat (first | refine blk_drewN ?_ _ | refine blk_drew ?_ | refine blk_alloc ?_ _)); exact BK192.out⟩, ⟨by (with_reducible repeat (first | refine blk_drewN ?_ _ | refine blk_drew ?_ | refine blk_alloc ?_ _)); refine blk_put (cs := #[.int .u32 167772160, .int .i64 a0_1, .slice none 0 0, .int .i64 (Go.bits .and .i64 a0_3 1023), .int .i64 (Go.bits .and .i64 a0_4 1023), .slice none 0 0]) ?_ 1 _ rfl; (with_reducible repeat (first | refine blk_drewN ?_ _ | refine blk_drew ?_ | refine blk_alloc ?_ _)); refine blk_put (cs := #[.int .u32 a0_0, .int .i64 a0_1, .slice none 0 0, .int .i64 (Go.bits .and .i64 a0_3 1023), .int .i64 (Go.bits .and .i64 a0_4 1023), .slice none 0 0]) ?_ 0 _ rfl; (with_reducible repeat (first | refine blk_drewN ?_ _ | refine blk_drew ?_ | refine blk_alloc ?_ _)); exact BK193.out⟩, ⟨zB⟩⟩
 clear HC3
 try clear c1
 try clear c2
 try clear p2
 try clear c6
 try clear c9
 try clear c10
 try clear c14
 try clear c14b0
 try clear c14b1
 try clear c15
 try clear c16
 try clear hcz11_0
 try clear hcz11_1
 try clear hcz11_2
 try clear hcz11_3
 try clear hcz11_4
 try clear hcz11_5
 try clear hcz12_0
 try clear hcz12_1
 try clear hcz12_2
 try clear hcz12_3
 try clear hcz12_4
 try clear hcz12_5
 try clear hcz17_0
 try clear hcz17_1
 try clear hcz17_2
 try clear hcz17_3
 try clear hcz17_4
 try clear hcz17_5
 try clear hcz7_0
 try clear hcz7_1
 try clear hcz7_2
 try clear hcz7_3
 try clear hcz7_4
 try clear hcz7_5
 try clear hfz11_0
 try clear hfz11_1
 try clear hfz11_2
 try clear hfz11_3
 try clear hfz11_4
 try clear hfz11_5
 try clear hfz12_0
 try clear hfz12_1
 try clear hfz12_2
 try clear hfz12_3
 try clear hfz12_4
 try clear hfz12_5
 try clear hfz17_0
 try clear hfz17_1
 try clear hfz17_2
 try clear hfz17_3
 try clear hfz17_4
 try clear hfz17_5
 try clear hfz7_0
 try clear hfz7_1
 try clear hfz7_2
 try clear hfz7_3
 try clear hfz7_4
 try clear hfz7_5
 obtain ⟨kq, x194000_2, x194001_2, HA, HJ2, BK191, BK192, BK193, HB⟩ := hcut
 rcases kq with _ | kj2
 · exact absurd HA.out (by simp [g4_.j0])
 have H := HA.out
 clear HA
 simp only [g4_.j0] at H
 replace H := Option.bind_eq_some_iff.mp H
 obtain ⟨t195, A180, H⟩ := H
 replace H : (g4_.l0 kj2 t195 (t195.length : Int) 0 a0_0 a0_1 l0_2 a0_3 a0_4 l0_5 x194000_2 x194001_2 ([] : List Int) (Go.bits .and .i64 a0_3 1023) (Go.bits .and .i64 a0_4 1023)) = some (r1, r2, r3, r4, r5, r6) := H
 have A18 := Aside0.mk A180
 clear A180
 have H' := Aside0.mk H
 clear H
 have hnb19 := NB191_192.out
 have hnc19 := NB192_191.out
 have hnb20 := NB191_193.out
 have hnc20 := NB193_191.out
 have hcz21_0 : wc.cell? ⟨gb191, 0, none⟩ = some (.int .u32 a0_0) := zT BK191 0
 have hcz21_1 : wc.cell? ⟨gb191, 1, none⟩ = some (.int .i64 a0_1) := zT BK191 1
 have hcz21_2 : wc.cell? ⟨gb191, 2, none⟩ = some (.slice A0_2 l0_2.length c0_2) := zT BK191 2
 have hcz21_3 : wc.cell? ⟨gb191, 3, none⟩ = some (.int .i64 a0_3) := zT BK191 3
 have hcz21_4 : wc.cell? ⟨gb191, 4, none⟩ = some (.int .i64 a0_4) := zT BK191 4
 have hcz21_5 : wc.cell? ⟨gb191, 5, none⟩ = some (.slice A0_5 l0_5.length c0_5) := zT BK191 5
 have hfz21_0 := blk_frozen BK191.out 0
 have hfz21_1 := blk_frozen BK191.out 1
 have hfz21_2 := blk_frozen BK191.out 2
 have hfz21_3 := blk_frozen BK191.out 3
 have hfz21_4 := blk_frozen BK191.out 4
 have hfz21_5 := blk_frozen BK191.out 5
 go_wp2_with (first | ((with_reducible refine gate_callee (f := 26) rfl ?_); refine goesL_ (some 25) rfl rfl Tryd.func26 (by kernel_rfl) rfl #[.slice A0_2 l0_2.length c0_2, .int .i64 6] rfl zM ?_; (with_reducible refine (g14_.calls (fun k_ => k_ < w.heap.size) _ _ l0_2 6 t195 _ ?side1 A18.out).mono ?_); (case side1 => exact Kd.V_mk HC0_2.out (Kd.F_below (Kd.C_F (Kd.heap_int .i64) HR0_2.out) zB)); rintro e w22 ⟨v196, rfl, ho0, hb⟩; refine ⟨_, rfl, ?_⟩; have n0_ := Aside0.mk (Kd.V_lower (Kd.V_mono (ok' := fun k_ => k_ ≠ gb191 ∧ k_ ≠ gb192 ∧ k_ ≠ gb193) ho0 (fun k_ hk_ => ⟨Or.elim hk_ (fun hs_ => fun e_ => Nat.not_le.2 hs_ (by rw [e_]; exact GW191.out)) (fun hn_ => (Kd.freshB (g := gb191) (o := .cells #[.int .u32 a0_0, .int .i64 a0_1, .slice A0_2 l0_2.length c0_2, .int .i64 a0_3, .int .i64 a0_4, .slice A0_5 l0_5.length c0_5] 31 (0, 0)) (zK BK191) k_ hn_)), Or.elim hk_ (fun hs_ => fun e_ => Nat.not_le.2 hs_ (by rw [e_]; exact GW192.out)) (fun hn_ => (Kd.freshB (g := gb192) (o := .cells #[.int .u32 0, .int .i64 0, .slice none 0 0, .int .i64 0, .int .i64 0, .slice none 0 0] 31 (0, 0)) (zK BK192) k_ hn_)), Or.elim hk_ (fun hs_ => fun e_ => Nat.not_le.2 hs_ (by rw [e_]; exact GW193.out)) (fun hn_ => (Kd.freshB (g := gb193) (o := .cells #[.int .u32 x194000_2, .int .i64 x194001_2, .slice none 0 0, .int .i64 (Go.bits .and .i64 a0_3 1023), .int .i64 (Go.bits .and .i64 a0_4 1023), .slice none 0 0] 31 (0, 0)) (zK BK193) k_ hn_))⟩)) (below_size zB)); have n1_ := Aside0.mk (blk_below (g := gb191) (o := .cells #[.int .u32 a0_0, .int .i64 a0_1, .slice A0_2 l0_2.length c0_2, .int .i64 a0_3, .int .i64 a0_4, .slice A0_5 l0_5.length c0_5] 31 (0, 0)) (zK BK191) hb); have n2_ := Aside0.mk (blk_below (g := gb192) (o := .cells #[.int .u32 0, .int .i64 0, .slice none 0 0, .int .i64 0, .int .i64 0, .slice none 0 0] 31 (0, 0)) (zK BK192) hb); have n3_ := Aside0.mk (blk_below (g := gb193) (o := .cells #[.int .u32 x194000_2, .int .i64 x194001_2, .slice none 0 0, .int .i64 (Go.bits .and .i64 a0_3 1023), .int .i64 (Go.bits .and .i64 a0_4 1023), .slice none 0 0] 31 (0, 0)) (zK BK193) hb); have n4_ := Aside0.mk (below_step zB hb); clear BK191; clear BK192; clear BK193; clear HB; have HO197 := n0_; have BK191 := n1_; have BK192 := n2_; have BK193 := n3_; have HB := n4_; clear n0_ n1_ n2_ n3_ n4_; (try clear hb); (try clear hb2); (try clear hk); (try clear hi); (try clear ho0); obtain ⟨Ao23, co23, eo23⟩ := Kd.V_slice HO197.out; subst eo23))
 go_loopg [27] kj2 (fun kq v27 w' => ∃ (x27_2 : Int) (x194002_2 : List Int) (u194002 : Value), v27 = .int .i64 x27_2 ∧ Aside0 (g4_.l0 kq t195 (t195.length : Int) x27_2 a0_0 a0_1 l0_2 a0_3 a0_4 l0_5 x194000_2 x194001_2 x194002_2 (Go.bits .and .i64 a0_3 1023) (Go.bits .and .i64 a0_4 1023) = some (r1, r2, r3, r4, r5, r6)) ∧ Aside0 (kq ≤ kj2) ∧ Aside0 (Kd.V (Kd.int .i64) 3 w' w.heap.size (fun k_ => some k_ ≠ (u194002 : Value).ownBlock ∧ k_ ≠ gb191 ∧ k_ ≠ gb192 ∧ k_ ≠ gb193) (.slice Ao23 t195.length co23) t195) ∧ Aside0 (Kd.R (Kd.int .i64) 3 w' w.heap.size (fun _ => True) u194002 x194002_2) ∧ Aside0 (w'.heap[gb191]? = some (.cells #[.int .u32 a0_0, .int .i64 a0_1, (.slice A0_2 l0_2.length c0_2), .int .i64 a0_3, .int .i64 a0_4, (.slice A0_5 l0_5.length c0_5)] 31 (0, 0))) ∧ Aside0 (w'.heap[gb192]? = some (.cells #[.int .u32 0, .int .i64 0, (.slice none 0 0), .int .i64 0, .int .i64 0, (.slice none 0 0)] 31 (0, 0))) ∧ Aside0 (w'.heap[gb193]? = some (.cells #[.int .u32 x194000_2, .int .i64 x194001_2, u194002, .int .i64 (Go.bits .and .i64 a0_3 1023), .int .i64 (Go.bits .and .i64 a0_4 1023), (.slice none 0 0)] 31 (0, 0))) ∧ Aside0 (Below w.heap.size w w'))
 case atStart => exact ⟨(0), (([] : List Int)), (.slice none 0 0), zR, H', ⟨Nat.le_refl _⟩, ⟨by (with_reducible repeat (first | apply Kd.V_alloc | apply Kd.V_drewN | apply Kd.V_drew)); exact Kd.V_mono HO197.out (fun _ hk => ⟨(by simp [Value.ownBlock]), ⟨hk.1, ⟨hk.2.1, hk.2.2⟩⟩⟩)⟩, ⟨by first | exact Kd.R_nil _ _ _ _ _ | exact Kd.N_nil _ _ _ _ _ | exact Kd.V_nil _ _ _ _ _ | exact Kd.Q_nil _ _ _ _ _ | exact Kd.S_nil _ _ _ _ _⟩, ⟨zK BK191⟩, ⟨zK BK192⟩, ⟨zK BK193⟩, ⟨zB⟩⟩
 clear H'
 try clear c1
 try clear c2
 try clear p2
 try clear c6
 try clear c9
 try clear c10
 try clear c14
 try clear c14b0
 try clear c14b1
 try clear c15
 try clear c16
 try clear c19
 try clear c20
 try clear hcz11_0
 try clear hcz11_1
 try clear hcz11_2
 try clear hcz11_3
 try clear hcz11_4
 try clear hcz11_5
 try clear hcz12_0
 try clear hcz12_1
 try clear hcz12_2
 try clear hcz12_3
 try clear hcz12_4
 try clear hcz12_5
 try clear hcz17_0
 try clear hcz17_1
 try clear hcz17_2
 try clear hcz17_3
 try clear hcz17_4
 try clear hcz17_5
 try clear hcz21_0
 try clear hcz21_1
 try clear hcz21_2
 try clear hcz21_3
 try clear hcz21_4
 try clear hcz21_5
 try clear hcz7_0
 try clear hcz7_1
 try clear hcz7_2
 try clear hcz7_3
 try clear hcz7_4
 try clear hcz7_5
 try clear hfz11_0
 try clear hfz11_1
 try clear hfz11_2
 try clear hfz11_3
 try clear hfz11_4
 try clear hfz11_5
 try clear hfz12_0
 try clear hfz12_1
 try clear hfz12_2
 try clear hfz12_3
 try clear hfz12_4
 try clear hfz12_5
 try clear hfz17_0
 try clear hfz17_1
 try clear hfz17_2
 try clear hfz17_3
 try clear hfz17_4
 try clear hfz17_5
 try clear hfz21_0
 try clear hfz21_1
 try clear hfz21_2
 try clear hfz21_3
 try clear hfz21_4
 try clear hfz21_5
 try clear hfz7_0
 try clear hfz7_1
 try clear hfz7_2
 try clear hfz7_3
 try clear hfz7_4
 try clear hfz7_5
 try clear p2
 obtain ⟨x27_2, x194002_2, u194002, rfl, HA, HK2, HO_25, HO_194002, BK191, BK192, BK193, HB⟩ := hrel
 rcases gk with _ | k2
 · exact absurd HA.out (by simp [g4_.l0])
 have H := HA.out
 clear HA
 simp only [g4_.l0] at H
 by_cases c24 : x27_2 < (t195.length : Int)
 ·
  rw [if_pos c24] at H
  have c24b0 : decide (x27_2 < (t195.length : Int)) = true := decide_eq_true c24
  clear c24
  by_cases c25 : 0 ≤ x27_2
  rotate_left
  · rw [if_neg c25] at H; exact absurd H (by simp)
  rw [if_pos c25] at H
  have c25b0 : decide (0 ≤ x27_2) = true := decide_eq_true c25
  clear c25
  by_cases c26 : x27_2 < (t195.length : Int)
  rotate_left
  · rw [if_neg c26] at H; exact absurd H (by simp)
  rw [if_pos c26] at H
  have c26b0 : decide (x27_2 < (t195.length : Int)) = true := decide_eq_true c26
  clear c26
  by_cases c27 : x194002_2.length < 17592186044416
  rotate_left
  · rw [if_neg c27] at H; exact absurd H (by simp)
  rw [if_pos c27] at H
  have LMc27 := Aside0.mk c27
  clear c27
  obtain ⟨y199, hy199⟩ : ∃ y_ : List Int, y_ = (x194002_2 ++ [wrap64 (1 + (Go.bits .and .i64 (rd t195 x27_2) 15))]) := ⟨_, rfl⟩
  replace H : (g4_.l0 k2 t195 (t195.length : Int) (wrap64 (x27_2 + 1)) a0_0 a0_1 l0_2 a0_3 a0_4 l0_5 x194000_2 x194001_2 y199 (Go.bits .and .i64 a0_3 1023) (Go.bits .and .i64 a0_4 1023)) = some (r1, r2, r3, r4, r5, r6) := by first | (rw [hy199]; with_reducible exact H) | (have H2_ := (Option.bind_some _ _).symm.trans H; rw [hy199]; with_reducible exact H2_) | (have H2_ := (Option.bind_some _ _).symm.trans H; with_reducible exact H2_) | with_reducible exact H | (rw [hy199]; exact H) | exact H
  have Ny199 := Aside0.mk hy199
  clear hy199
  have H' := Aside0.mk H
  clear H
  have p198 : 0 ≤ (x27_2 : Int) := od
  have q198 : x27_2 < (t195.length : Int) := od
  obtain ⟨ad198, e198, hx198_0⟩ := Kd.at_int (Kd.V_reads' HO_25.out).2.2 x27_2 p198 q198
  cases e198
  replace p198 := eq_true p198
  replace q198 := eq_true q198
  have hnb28 := NB193_191.out
  have hnc28 := NB191_193.out
  have hnb29 := NB193_192.out
  have hnc29 := NB192_193.out
  have hcz30_0 : wr.cell? ⟨gb193, 0, none⟩ = some (.int .u32 x194000_2) := zT BK193 0
  have hcz30_1 : wr.cell? ⟨gb193, 1, none⟩ = some (.int .i64 x194001_2) := zT BK193 1
  have hcz30_2 : wr.cell? ⟨gb193, 2, none⟩ = some (u194002) := zT BK193 2
  have hcz30_3 : wr.cell? ⟨gb193, 3, none⟩ = some (.int .i64 (Go.bits .and .i64 a0_3 1023)) := zT BK193 3
  have hcz30_4 : wr.cell? ⟨gb193, 4, none⟩ = some (.int .i64 (Go.bits .and .i64 a0_4 1023)) := zT BK193 4
  have hcz30_5 : wr.cell? ⟨gb193, 5, none⟩ = some (.slice none 0 0) := zT BK193 5
  have hfz30_0 := blk_frozen BK193.out 0
  have hfz30_1 := blk_frozen BK193.out 1
  have hfz30_2 := blk_frozen BK193.out 2
  have hfz30_3 := blk_frozen BK193.out 3
  have hfz30_4 := blk_frozen BK193.out 4
  have hfz30_5 := blk_frozen BK193.out 5
  go_wp2_with (first | ((with_reducible refine gate_builtin (b := .append) (xs := #[.tmp 32, .tmp 36]) rfl ?_); at_builtin; refine Kd.R_append (Kd.int .i64) (w0 := w) w.heap.size rfl (.tmp 32) (.tmp 36) 23 3 (.int .i64 0) 8 rfl Tryd.underlying23 info3 rfl (by decide) (by omega) u194002 x194002_2 (wrap64 (1 + (Go.bits .and .i64 (rd t195 x27_2) 15))) [.int .i64 (wrap64 (1 + (Go.bits .and .i64 (rd t195 x27_2) 15)))] (fun _ => True) (fun _ => False) rfl rfl ?aP (fun _ hk => hk.elim) ?aF ?aO ?aB ?aS ?aL ?_; (case aP => exact rfl); (case aB => exact zB); (case aF => exact (fun _ _ => trivial)); (case aO => exact (zO HO_194002)); (case aS => exact (below_size zB)); (case aL => have := LMc27.out; omega); intro v200 w31 ho hb hg hat; rw [← Ny199.out] at ho; have n0_ := Aside0.mk (Kd.V_afterv (ok := (fun k_ => k_ ≠ gb191 ∧ k_ ≠ gb192 ∧ k_ ≠ gb193)) (by (with_reducible repeat (first | apply Kd.V_alloc | apply Kd.V_drewN | apply Kd.V_drew)); exact Kd.V_mono HO_25.out (fun _ hk => ⟨⟨hk.2.1, ⟨hk.2.2.1, hk.2.2.2⟩⟩, hk.1⟩)) hg hat); have n1_ := Aside0.mk (blk_grown (g := gb191) (o := .cells #[.int .u32 a0_0, .int .i64 a0_1, .slice A0_2 l0_2.length c0_2, .int .i64 a0_3, .int .i64 a0_4, .slice A0_5 l0_5.length c0_5] 31 (0, 0)) (zK BK191) hg (Kd.R_ne HO_194002.out BK191.out (by decide))); have n2_ := Aside0.mk (blk_grown (g := gb192) (o := .cells #[.int .u32 0, .int .i64 0, .slice none 0 0, .int .i64 0, .int .i64 0, .slice none 0 0] 31 (0, 0)) (zK BK192) hg (Kd.R_ne HO_194002.out BK192.out (by decide))); have n3_ := Aside0.mk (blk_grown (g := gb193) (o := .cells #[.int .u32 x194000_2, .int .i64 x194001_2, u194002, .int .i64 (Go.bits .and .i64 a0_3 1023), .int .i64 (Go.bits .and .i64 a0_4 1023), .slice none 0 0] 31 (0, 0)) (zK BK193) hg (Kd.R_ne HO_194002.out BK193.out (by decide))); have n4_ := Aside0.mk (hb); have n5_ := Aside0.mk (ho); clear HO_25; clear BK191; clear BK192; clear BK193; clear HB; clear HO_194002; have HO_25 := n0_; have BK191 := n1_; have BK192 := n2_; have BK193 := n3_; have HB := n4_; have HO201 := n5_; clear n0_ n1_ n2_ n3_ n4_ n5_; clear ho hb hg hat; obtain ⟨Ao32, co32, eo32⟩ := Kd.R_slice HO201.out; subst eo32; have hcz33_0 : w31.cell? ⟨gb193, 0, none⟩ = some (.int .u32 x194000_2) := zT BK193 0; have hcz33_1 : w31.cell? ⟨gb193, 1, none⟩ = some (.int .i64 x194001_2) := zT BK193 1; have hcz33_2 : w31.cell? ⟨gb193, 2, none⟩ = some (u194002) := zT BK193 2; have hcz33_3 : w31.cell? ⟨gb193, 3, none⟩ = some (.int .i64 (Go.bits .and .i64 a0_3 1023)) := zT BK193 3; have hcz33_4 : w31.cell? ⟨gb193, 4, none⟩ = some (.int .i64 (Go.bits .and .i64 a0_4 1023)) := zT BK193 4; have hcz33_5 : w31.cell? ⟨gb193, 5, none⟩ = some (.slice none 0 0) := zT BK193 5; have hfz33_0 := blk_frozen BK193.out 0; have hfz33_1 := blk_frozen BK193.out 1; have hfz33_2 := blk_frozen BK193.out 2; have hfz33_3 := blk_frozen BK193.out 3; have hfz33_4 := blk_frozen BK193.out 4; have hfz33_5 := blk_frozen BK193.out 5))
  go_roundg k2
  case measure => have := HJ2.out; have := HK2.out; omega
  case rel => exact ⟨(wrap64 (x27_2 + 1)), (y199), (.slice Ao32 y199.length co32), zR, H', ⟨by have := HJ2.out; have := HK2.out; omega⟩, ⟨by (with_reducible repeat (first | apply Kd.V_alloc | apply Kd.V_drewN | apply Kd.V_drew)); exact Kd.V_mono (Kd.V_far (p := ⟨gb193, 2, none⟩) (Kd.V_mono HO_25.out (fun k_ hk => (⟨hk, hk.1.2.2⟩ : _ ∧ k_ ≠ gb193))) (fun _ hk => hk.2) (.slice Ao32 y199.length co32)) (fun _ hk => ⟨hk.1.2, ⟨hk.1.1.1, ⟨hk.1.1.2.1, hk.1.1.2.2⟩⟩⟩)⟩, ⟨by (with_reducible repeat (first | apply Kd.R_alloc | apply Kd.R_drewN | apply Kd.R_drew)); exact Kd.R_mono (Kd.R_far (p := ⟨gb193, 2, none⟩) (Kd.R_types HO201.out BK193.out (by decide)) (fun _ hk => hk.2) (.slice Ao32 y199.length co32)) (fun _ hk => trivial)⟩, ⟨by (with_reducible repeat (first | refine blk_drewN ?_ _ | refine blk_drew ?_ | refine blk_alloc ?_ _)); refine blk_far ?_ NB191_193.out _; (with_reducible repeat (first | refine blk_drewN ?_ _ | refine blk_drew ?_ | refine blk_alloc ?_ _)); exact BK191.out⟩, ⟨by (with_reducible repeat (first | refine blk_drewN ?_ _ | refine blk_drew ?_ | refine blk_alloc ?_ _)); refine blk_far ?_ NB192_193.out _; (with_reducible repeat (first | refine blk_drewN ?_ _ | refine blk_drew ?_ | refine blk_alloc ?_ _)); exact BK192.out⟩, ⟨by (with_reducible repeat (first | refine blk_drewN ?_ _ | refine blk_drew ?_ | refine blk_alloc ?_ _)); refine blk_put (cs := #[.int .u32 x194000_2, .int .i64 x194001_2, u194002, .int .i64 (Go.bits .and .i64 a0_3 1023), .int .i64 (Go.bits .and .i64 a0_4 1023), .slice none 0 0]) ?_ 2 _ rfl; (with_reducible repeat (first | refine blk_drewN ?_ _ | refine blk_drew ?_ | refine blk_alloc ?_ _)); exact BK193.out⟩, ⟨zB⟩⟩
 rw [if_neg c24] at H
 have c24b0 : decide (x27_2 < (t195.length : Int)) = false := decide_eq_false c24
 clear c24
 replace H := Option.bind_eq_some_iff.mp H
 obtain ⟨t202, A340, H⟩ := H
 replace H : (g4_.l1 k2 t202 (t202.length : Int) 0 x194000_2 x194001_2 x194002_2 (Go.bits .and .i64 a0_3 1023) (Go.bits .and .i64 a0_4 1023) ([] : List Int)) = some (r1, r2, r3, r4, r5, r6) := H
 have A34 := Aside0.mk A340
 clear A340
 have H' := Aside0.mk H
 clear H
 have hnb35 := NB191_192.out
 have hnc35 := NB192_191.out
 have hnb36 := NB191_193.out
 have hnc36 := NB193_191.out
 have hcz37_0 : wr.cell? ⟨gb191, 0, none⟩ = some (.int .u32 a0_0) := zT BK191 0
 have hcz37_1 : wr.cell? ⟨gb191, 1, none⟩ = some (.int .i64 a0_1) := zT BK191 1
 have hcz37_2 : wr.cell? ⟨gb191, 2, none⟩ = some (.slice A0_2 l0_2.length c0_2) := zT BK191 2
 have hcz37_3 : wr.cell? ⟨gb191, 3, none⟩ = some (.int .i64 a0_3) := zT BK191 3
 have hcz37_4 : wr.cell? ⟨gb191, 4, none⟩ = some (.int .i64 a0_4) := zT BK191 4
 have hcz37_5 : wr.cell? ⟨gb191, 5, none⟩ = some (.slice A0_5 l0_5.length c0_5) := zT BK191 5
 have hfz37_0 := blk_frozen BK191.out 0
 have hfz37_1 := blk_frozen BK191.out 1
 have hfz37_2 := blk_frozen BK191.out 2
 have hfz37_3 := blk_frozen BK191.out 3
 have hfz37_4 := blk_frozen BK191.out 4
 have hfz37_5 := blk_frozen BK191.out 5
 go_wp2_with (first | ((with_reducible refine gate_callee (f := 26) rfl ?_); refine goesL_ (some 42) rfl rfl Tryd.func26 (by kernel_rfl) rfl #[.slice A0_5 l0_5.length c0_5, .int .i64 4] rfl zM ?_; (with_reducible refine (g14_.calls (fun k_ => k_ < w.heap.size) _ _ l0_5 4 t202 _ ?side1 A34.out).mono ?_); (case side1 => exact Kd.V_mk HC0_5.out (Kd.F_below (Kd.C_F (Kd.heap_int .i64) HR0_5.out) zB)); rintro e w38 ⟨v203, rfl, ho0, hb⟩; refine ⟨_, rfl, ?_⟩; have n0_ := Aside0.mk (Kd.V_below (by (with_reducible repeat (first | apply Kd.V_alloc | apply Kd.V_drewN | apply Kd.V_drew)); exact HO_25.out) hb); have n1_ := Aside0.mk (Kd.R_below (zO HO_194002) hb); have n2_ := Aside0.mk (Kd.V_lower (Kd.V_mono (ok' := fun k_ => some k_ ≠ (u194002 : Value).ownBlock ∧ k_ ≠ gb191 ∧ k_ ≠ gb192 ∧ k_ ≠ gb193) ho0 (fun k_ hk_ => ⟨Or.elim hk_ (fun hs_ => fun e_ => Nat.not_le.2 hs_ (Kd.R_base HO_194002.out k_ e_.symm)) (fun hn_ => (Kd.fresh' (Kd.R_lt (zO HO_194002)) k_ hn_)), Or.elim hk_ (fun hs_ => fun e_ => Nat.not_le.2 hs_ (by rw [e_]; exact GW191.out)) (fun hn_ => (Kd.freshB (g := gb191) (o := .cells #[.int .u32 a0_0, .int .i64 a0_1, .slice A0_2 l0_2.length c0_2, .int .i64 a0_3, .int .i64 a0_4, .slice A0_5 l0_5.length c0_5] 31 (0, 0)) (zK BK191) k_ hn_)), Or.elim hk_ (fun hs_ => fun e_ => Nat.not_le.2 hs_ (by rw [e_]; exact GW192.out)) (fun hn_ => (Kd.freshB (g := gb192) (o := .cells #[.int .u32 0, .int .i64 0, .slice none 0 0, .int .i64 0, .int .i64 0, .slice none 0 0] 31 (0, 0)) (zK BK192) k_ hn_)), Or.elim hk_ (fun hs_ => fun e_ => Nat.not_le.2 hs_ (by rw [e_]; exact GW193.out)) (fun hn_ => (Kd.freshB (g := gb193) (o := .cells #[.int .u32 x194000_2, .int .i64 x194001_2, u194002, .int .i64 (Go.bits .and .i64 a0_3 1023), .int .i64 (Go.bits .and .i64 a0_4 1023), .slice none 0 0] 31 (0, 0)) (zK BK193) k_ hn_))⟩)) (below_size zB)); have n3_ := Aside0.mk (blk_below (g := gb191) (o := .cells #[.int .u32 a0_0, .int .i64 a0_1, .slice A0_2 l0_2.length c0_2, .int .i64 a0_3, .int .i64 a0_4, .slice A0_5 l0_5.length c0_5] 31 (0, 0)) (zK BK191) hb); have n4_ := Aside0.mk (blk_below (g := gb192) (o := .cells #[.int .u32 0, .int .i64 0, .slice none 0 0, .int .i64 0, .int .i64 0, .slice none 0 0] 31 (0, 0)) (zK BK192) hb); have n5_ := Aside0.mk (blk_below (g := gb193) (o := .cells #[.int .u32 x194000_2, .int .i64 x194001_2, u194002, .int .i64 (Go.bits .and .i64 a0_3 1023), .int .i64 (Go.bits .and .i64 a0_4 1023), .slice none 0 0] 31 (0, 0)) (zK BK193) hb); have n6_ := Aside0.mk (below_step zB hb); clear HO_25; clear HO_194002; clear BK191; clear BK192; clear BK193; clear HB; have HO_25 := n0_; have HO_194002 := n1_; have HO204 := n2_; have BK191 := n3_; have BK192 := n4_; have BK193 := n5_; have HB := n6_; clear n0_ n1_ n2_ n3_ n4_ n5_ n6_; (try clear hb); (try clear hb2); (try clear hk); (try clear hi); (try clear ho0); obtain ⟨Ao39, co39, eo39⟩ := Kd.V_slice HO204.out; subst eo39))
 go_loopg [44] k2 (fun kq v44 w' => ∃ (x44_3 : Int) (x194005_3 : List Int) (u194005 : Value), v44 = .int .i64 x44_3 ∧ Aside0 (g4_.l1 kq t202 (t202.length : Int) x44_3 x194000_2 x194001_2 x194002_2 (Go.bits .and .i64 a0_3 1023) (Go.bits .and .i64 a0_4 1023) x194005_3 = some (r1, r2, r3, r4, r5, r6)) ∧ Aside0 (kq ≤ k2) ∧ Aside0 (Kd.V (Kd.int .i64) 3 w' w.heap.size (fun k_ => some k_ ≠ (u194002 : Value).ownBlock ∧ some k_ ≠ (u194005 : Value).ownBlock ∧ k_ ≠ gb191 ∧ k_ ≠ gb192 ∧ k_ ≠ gb193) (.slice Ao39 t202.length co39) t202) ∧ Aside0 (Kd.R (Kd.int .i64) 3 w' w.heap.size (fun k_ => some k_ ≠ (u194005 : Value).ownBlock) u194002 x194002_2) ∧ Aside0 (Kd.R (Kd.int .i64) 3 w' w.heap.size (fun k_ => some k_ ≠ (u194002 : Value).ownBlock) u194005 x194005_3) ∧ Aside0 (w'.heap[gb191]? = some (.cells #[.int .u32 a0_0, .int .i64 a0_1, (.slice A0_2 l0_2.length c0_2), .int .i64 a0_3, .int .i64 a0_4, (.slice A0_5 l0_5.length c0_5)] 31 (0, 0))) ∧ Aside0 (w'.heap[gb192]? = some (.cells #[.int .u32 0, .int .i64 0, (.slice none 0 0), .int .i64 0, .int .i64 0, (.slice none 0 0)] 31 (0, 0))) ∧ Aside0 (w'.heap[gb193]? = some (.cells #[.int .u32 x194000_2, .int .i64 x194001_2, u194002, .int .i64 (Go.bits .and .i64 a0_3 1023), .int .i64 (Go.bits .and .i64 a0_4 1023), u194005] 31 (0, 0))) ∧ Aside0 (Below w.heap.size w w'))
 case atStart => exact ⟨(0), (([] : List Int)), (.slice none 0 0), zR, H', ⟨Nat.le_refl _⟩, ⟨by (with_reducible repeat (first | apply Kd.V_alloc | apply Kd.V_drewN | apply Kd.V_drew)); exact Kd.V_mono HO204.out (fun _ hk => ⟨hk.1, ⟨(by simp [Value.ownBlock]), ⟨hk.2.1, ⟨hk.2.2.1, hk.2.2.2⟩⟩⟩⟩)⟩, ⟨by (with_reducible repeat (first | apply Kd.R_alloc | apply Kd.R_drewN | apply Kd.R_drew)); exact Kd.R_mono HO_194002.out (fun _ hk => (by simp [Value.ownBlock]))⟩, ⟨by first | exact Kd.R_nil _ _ _ _ _ | exact Kd.N_nil _ _ _ _ _ | exact Kd.V_nil _ _ _ _ _ | exact Kd.Q_nil _ _ _ _ _ | exact Kd.S_nil _ _ _ _ _⟩, ⟨zK BK191⟩, ⟨zK BK192⟩, ⟨zK BK193⟩, ⟨zB⟩⟩
 clear H'
 try clear c1
 try clear p1
 try clear q1
 try clear hx1
 try clear c2
 try clear p2
 try clear c3
 try clear c6
 try clear p6
 try clear c9
 try clear c10
 try clear c14
 try clear c14b0
 try clear c14b1
 try clear c15
 try clear c16
 try clear c19
 try clear p19
 try clear q19
 try clear hx19
 try clear c20
 try clear c24
 try clear c24b0
 try clear c25
 try clear c25b0
 try clear c26
 try clear c26b0
 try clear c27
 try clear c28
 try clear c29
 try clear c35
 try clear c36
 try clear hcz11_0
 try clear hcz11_1
 try clear hcz11_2
 try clear hcz11_3
 try clear hcz11_4
 try clear hcz11_5
 try clear hcz12_0
 try clear hcz12_1
 try clear hcz12_2
 try clear hcz12_3
 try clear hcz12_4
 try clear hcz12_5
 try clear hcz17_0
 try clear hcz17_1
 try clear hcz17_2
 try clear hcz17_3
 try clear hcz17_4
 try clear hcz17_5
 try clear hcz21_0
 try clear hcz21_1
 try clear hcz21_2
 try clear hcz21_3
 try clear hcz21_4
 try clear hcz21_5
 try clear hcz30_0
 try clear hcz30_1
 try clear hcz30_2
 try clear hcz30_3
 try clear hcz30_4
 try clear hcz30_5
 try clear hcz33_0
 try clear hcz33_1
 try clear hcz33_2
 try clear hcz33_3
 try clear hcz33_4
 try clear hcz33_5
 try clear hcz37_0
 try clear hcz37_1
 try clear hcz37_2
 try clear hcz37_3
 try clear hcz37_4
 try clear hcz37_5
 try clear hcz7_0
 try clear hcz7_1
 try clear hcz7_2
 try clear hcz7_3
 try clear hcz7_4
 try clear hcz7_5
 try clear hfz11_0
 try clear hfz11_1
 try clear hfz11_2
 try clear hfz11_3
 try clear hfz11_4
 try clear hfz11_5
 try clear hfz12_0
 try clear hfz12_1
 try clear hfz12_2
 try clear hfz12_3
 try clear hfz12_4
 try clear hfz12_5
 try clear hfz17_0
 try clear hfz17_1
 try clear hfz17_2
 try clear hfz17_3
 try clear hfz17_4
 try clear hfz17_5
 try clear hfz21_0
 try clear hfz21_1
 try clear hfz21_2
 try clear hfz21_3
 try clear hfz21_4
 try clear hfz21_5
 try clear hfz30_0
 try clear hfz30_1
 try clear hfz30_2
 try clear hfz30_3
 try clear hfz30_4
 try clear hfz30_5
 try clear hfz33_0
 try clear hfz33_1
 try clear hfz33_2
 try clear hfz33_3
 try clear hfz33_4
 try clear hfz33_5
 try clear hfz37_0
 try clear hfz37_1
 try clear hfz37_2
 try clear hfz37_3
 try clear hfz37_4
 try clear hfz37_5
 try clear hfz7_0
 try clear hfz7_1
 try clear hfz7_2
 try clear hfz7_3
 try clear hfz7_4
 try clear hfz7_5
 try clear hx198_0
 try clear p198
 try clear p2
 try clear q198
 obtain ⟨x44_3, x194005_3, u194005, rfl, HA, HK3, HO_42, HO_194002, HO_194005, BK191, BK192, BK193, HB⟩ := hrel
 rcases gk with _ | k3
 · exact absurd HA.out (by simp [g4_.l1])
 have H := HA.out
 clear HA
 simp only [g4_.l1] at H
 by_cases c40 : x44_3 < (t202.length : Int)
 rotate_left
 ·
  rw [if_neg c40] at H
  have c40b0 : decide (x44_3 < (t202.length : Int)) = false := decide_eq_false c40
  clear c40
  replace H := Option.bind_eq_some_iff.mp H
  obtain ⟨t209, A500, H⟩ := H
  replace H : ((g5_.f k3 t209).bind fun t210 => (some (x194000_2, x194001_2, x194002_2, (Go.bits .and .i64 a0_3 1023), (Go.bits .and .i64 a0_4 1023), t210))) = some (r1, r2, r3, r4, r5, r6) := H
  have A50 := Aside0.mk A500
  clear A500
  replace H := Option.bind_eq_some_iff.mp H
  obtain ⟨t210, A510, H⟩ := H
  replace H : (some (x194000_2, x194001_2, x194002_2, (Go.bits .and .i64 a0_3 1023), (Go.bits .and .i64 a0_4 1023), t210)) = some (r1, r2, r3, r4, r5, r6) := H
  have A51 := Aside0.mk A510
  clear A510
  simp only [Option.some.injEq, Prod.mk.injEq] at H
  obtain ⟨rfl, rfl, rfl, rfl, rfl, rfl⟩ := H
  have hnb52 := NB193_191.out
  have hnc52 := NB191_193.out
  have hnb53 := NB193_192.out
  have hnc53 := NB192_193.out
  have hcz54_0 : wr.cell? ⟨gb193, 0, none⟩ = some (.int .u32 x194000_2) := zT BK193 0
  have hcz54_1 : wr.cell? ⟨gb193, 1, none⟩ = some (.int .i64 x194001_2) := zT BK193 1
  have hcz54_2 : wr.cell? ⟨gb193, 2, none⟩ = some (u194002) := zT BK193 2
  have hcz54_3 : wr.cell? ⟨gb193, 3, none⟩ = some (.int .i64 (Go.bits .and .i64 a0_3 1023)) := zT BK193 3
  have hcz54_4 : wr.cell? ⟨gb193, 4, none⟩ = some (.int .i64 (Go.bits .and .i64 a0_4 1023)) := zT BK193 4
  have hcz54_5 : wr.cell? ⟨gb193, 5, none⟩ = some (u194005) := zT BK193 5
  have hfz54_0 := blk_frozen BK193.out 0
  have hfz54_1 := blk_frozen BK193.out 1
  have hfz54_2 := blk_frozen BK193.out 2
  have hfz54_3 := blk_frozen BK193.out 3
  have hfz54_4 := blk_frozen BK193.out 4
  have hfz54_5 := blk_frozen BK193.out 5
  obtain ⟨Ao55, co55, eo55⟩ := Kd.R_slice HO_194005.out
  subst eo55
  go_wp2_with (first | ((with_reducible refine gate_callee (f := 27) rfl ?_); refine goesL_ (some 59) rfl rfl Tryd.func27 (by kernel_rfl) rfl #[.slice Ao55 x194005_3.length co55] rfl zM ?_; (with_reducible refine (g13_.calls k3 (fun k_ => some k_ = (.slice Ao55 x194005_3.length co55 : Value).ownBlock) (.slice Ao55 x194005_3.length co55) x194005_3 t209 w _ ?side1 ?side2 A50.out).mono ?_); (case side1 => repeat (first | (with_reducible first | exact HB.out | apply below_alloc | apply pw_below_drewN | apply below_drew1 | refine below_set ?_ GE191.out | refine below_set ?_ GE192.out | refine below_set ?_ GE193.out) | exact HB.out)); (case side2 => exact Kd.R_tight rfl HO_194005.out); rintro e w56 ⟨rfl, hy0, hb, hkp⟩; refine ⟨_, rfl, ?_⟩; have n0_ := Aside0.mk (Kd.V_mono (ok' := fun k_ => some k_ ≠ (u194002 : Value).ownBlock ∧ some k_ ≠ (.slice Ao55 x194005_3.length co55 : Value).ownBlock ∧ k_ ≠ gb191 ∧ k_ ≠ gb192 ∧ k_ ≠ gb193) (Kd.V_keptB (HO_42.out) hkp (fun k_ hk_ hs_ => (hk_.2.1) hs_)) (fun k_ hk_ => ⟨hk_.1.1, hk_.1.2.1, hk_.1.2.2.1, hk_.1.2.2.2.1, hk_.1.2.2.2.2⟩)); have n1_ := Aside0.mk (Kd.R_mono (ok' := fun k_ => some k_ ≠ (.slice Ao55 x194005_3.length co55 : Value).ownBlock) (Kd.R_keptB (HO_194002.out) hkp (fun k_ hk_ hs_ => (hk_) hs_)) (fun k_ hk_ => hk_.1)); have n2_ := Aside0.mk (Kd.R_reok rfl hy0 (fun k_ e_ => HO_194005.out.1 k_ e_)); have n3_ := Aside0.mk (blk_kept (zK BK191) hkp (fun hs_ => (fun e_ => (Kd.R_ne HO_194005.out BK191.out (by decide)) e_) hs_)); have n4_ := Aside0.mk (blk_kept (zK BK192) hkp (fun hs_ => (fun e_ => (Kd.R_ne HO_194005.out BK192.out (by decide)) e_) hs_)); have n5_ := Aside0.mk (blk_kept (zK BK193) hkp (fun hs_ => (fun e_ => (Kd.R_ne HO_194005.out BK193.out (by decide)) e_) hs_)); have n6_ := Aside0.mk (hb); clear HO_42; clear HO_194002; clear HO_194005; clear BK191; clear BK192; clear BK193; clear HB; have HO_42 := n0_; have HO_194002 := n1_; have HO_194005 := n2_; have BK191 := n3_; have BK192 := n4_; have BK193 := n5_; have HB := n6_; clear n0_ n1_ n2_ n3_ n4_ n5_ n6_; (try clear hb); (try clear hkp); (try clear hy0); have hcz57_0 : w56.cell? ⟨gb193, 0, none⟩ = some (.int .u32 x194000_2) := zT BK193 0; have hcz57_1 : w56.cell? ⟨gb193, 1, none⟩ = some (.int .i64 x194001_2) := zT BK193 1; have hcz57_2 : w56.cell? ⟨gb193, 2, none⟩ = some (u194002) := zT BK193 2; have hcz57_3 : w56.cell? ⟨gb193, 3, none⟩ = some (.int .i64 (Go.bits .and .i64 a0_3 1023)) := zT BK193 3; have hcz57_4 : w56.cell? ⟨gb193, 4, none⟩ = some (.int .i64 (Go.bits .and .i64 a0_4 1023)) := zT BK193 4; have hcz57_5 : w56.cell? ⟨gb193, 5, none⟩ = some (.slice Ao55 x194005_3.length co55) := zT BK193 5; have hfz57_0 := blk_frozen BK193.out 0; have hfz57_1 := blk_frozen BK193.out 1; have hfz57_2 := blk_frozen BK193.out 2; have hfz57_3 := blk_frozen BK193.out 3; have hfz57_4 := blk_frozen BK193.out 4; have hfz57_5 := blk_frozen BK193.out 5) | ((with_reducible refine gate_callee (f := 28) rfl ?_); refine goesL_ (some 62) rfl rfl Tryd.func28 (by kernel_rfl) rfl #[.slice Ao55 x194005_3.length co55] rfl zM ?_; (with_reducible refine (g5_.calls k3 (fun k_ => some k_ = (.slice Ao55 x194005_3.length co55 : Value).ownBlock) (.slice Ao55 x194005_3.length co55) t209 t210 w _ ?side1 ?side2 A51.out).mono ?_); (case side1 => repeat (first | (with_reducible first | exact HB.out | apply below_alloc | apply pw_below_drewN | apply below_drew1 | refine below_set ?_ GE191.out | refine below_set ?_ GE192.out | refine below_set ?_ GE193.out) | exact HB.out)); (case side2 => exact Kd.R_tight rfl HO_194005.out); rintro e w58 ⟨v211, rfl, ho0, hb, hkp⟩; refine ⟨_, rfl, ?_⟩; have n0_ := Aside0.mk (Kd.V_mono (ok' := fun k_ => some k_ ≠ (u194002 : Value).ownBlock ∧ k_ ≠ gb191 ∧ k_ ≠ gb192 ∧ k_ ≠ gb193 ∧ some k_ ≠ (v211 : Value).ownBlock) (Kd.V_keptB (HO_42.out) hkp (fun k_ hk_ hs_ => (hk_.2.1) hs_)) (fun k_ hk_ => ⟨hk_.1.1, hk_.1.2.2.1, hk_.1.2.2.2.1, hk_.1.2.2.2.2, fun e_ => Or.elim (ho0.1 k_ e_.symm) (fun hs_ => hk_.2.1 hs_) (fun hn_ => Nat.not_le.2 hk_.2.2 hn_)⟩)); have n1_ := Aside0.mk (Kd.R_mono (ok' := fun k_ => some k_ ≠ (v211 : Value).ownBlock) (Kd.R_keptB (HO_194002.out) hkp (fun k_ hk_ hs_ => (hk_) hs_)) (fun k_ hk_ => fun e_ => Or.elim (ho0.1 k_ e_.symm) (fun hs_ => hk_.2.1 hs_) (fun hn_ => Nat.not_le.2 hk_.2.2 hn_))); have n2_ := Aside0.mk (blk_kept (zK BK191) hkp (fun hs_ => (fun e_ => (Kd.R_ne HO_194005.out BK191.out (by decide)) e_) hs_)); have n3_ := Aside0.mk (blk_kept (zK BK192) hkp (fun hs_ => (fun e_ => (Kd.R_ne HO_194005.out BK192.out (by decide)) e_) hs_)); have n4_ := Aside0.mk (blk_kept (zK BK193) hkp (fun hs_ => (fun e_ => (Kd.R_ne HO_194005.out BK193.out (by decide)) e_) hs_)); have n5_ := Aside0.mk (Kd.R_mono (ok' := fun k_ => some k_ ≠ (u194002 : Value).ownBlock) ho0 (fun k_ hk_ => Or.elim hk_ (fun hs_ => fun e_ => (((HO_194002.out).1 k_ e_.symm)) hs_) (fun hn_ => (Kd.fresh' (Kd.R_lt (zO HO_194002)) k_ hn_)))); have n6_ := Aside0.mk (hb); clear HO_42; clear HO_194002; clear BK191; clear BK192; clear BK193; clear HB; clear HO_194005; have HO_42 := n0_; have HO_194002 := n1_; have BK191 := n2_; have BK192 := n3_; have BK193 := n4_; have HO212 := n5_; have HB := n6_; clear n0_ n1_ n2_ n3_ n4_ n5_ n6_; (try clear hb); (try clear hkp); (try clear ho0); obtain ⟨Ao59, co59, eo59⟩ := Kd.R_slice HO212.out; subst eo59; have hcz60_0 : w58.cell? ⟨gb193, 0, none⟩ = some (.int .u32 x194000_2) := zT BK193 0; have hcz60_1 : w58.cell? ⟨gb193, 1, none⟩ = some (.int .i64 x194001_2) := zT BK193 1; have hcz60_2 : w58.cell? ⟨gb193, 2, none⟩ = some (u194002) := zT BK193 2; have hcz60_3 : w58.cell? ⟨gb193, 3, none⟩ = some (.int .i64 (Go.bits .and .i64 a0_3 1023)) := zT BK193 3; have hcz60_4 : w58.cell? ⟨gb193, 4, none⟩ = some (.int .i64 (Go.bits .and .i64 a0_4 1023)) := zT BK193 4; have hcz60_5 : w58.cell? ⟨gb193, 5, none⟩ = some (.slice Ao55 x194005_3.length co55) := zT BK193 5; have hfz60_0 := blk_frozen BK193.out 0; have hfz60_1 := blk_frozen BK193.out 1; have hfz60_2 := blk_frozen BK193.out 2; have hfz60_3 := blk_frozen BK193.out 3; have hfz60_4 := blk_frozen BK193.out 4; have hfz60_5 := blk_frozen BK193.out 5; have hnb61 := NB192_191.out; have hnc61 := NB191_192.out; have hcz62_0 : w58.cell? ⟨gb192, 0, none⟩ = some (.int .u32 0) := zT BK192 0; have hcz62_1 : w58.cell? ⟨gb192, 1, none⟩ = some (.int .i64 0) := zT BK192 1; have hcz62_2 : w58.cell? ⟨gb192, 2, none⟩ = some (.slice none 0 0) := zT BK192 2; have hcz62_3 : w58.cell? ⟨gb192, 3, none⟩ = some (.int .i64 0) := zT BK192 3; have hcz62_4 : w58.cell? ⟨gb192, 4, none⟩ = some (.int .i64 0) := zT BK192 4; have hcz62_5 : w58.cell? ⟨gb192, 5, none⟩ = some (.slice none 0 0) := zT BK192 5; have hfz62_0 := blk_frozen BK192.out 0; have hfz62_1 := blk_frozen BK192.out 1; have hfz62_2 := blk_frozen BK192.out 2; have hfz62_3 := blk_frozen BK192.out 3; have hfz62_4 := blk_frozen BK192.out 4; have hfz62_5 := blk_frozen BK192.out 5; obtain ⟨Ao63, co63, eo63⟩ := Kd.R_slice HO_194002.out; subst eo63))
  refine bodyPost_ret (results_cell_row rfl _ _ gb192 31 #[.int .u32 x194000_2, .int .i64 x194001_2, .slice Ao63 x194002_2.length co63, .int .i64 (Go.bits .and .i64 a0_3 1023), .int .i64 (Go.bits .and .i64 a0_4 1023), .slice Ao59 t210.length co59] (0, 0) _ rfl (by (with_reducible repeat (first | refine blk_drewN ?_ _ | refine blk_drew ?_ | refine blk_alloc ?_ _)); refine blk_put (cs := #[.int .u32 x194000_2, .int .i64 x194001_2, .slice Ao63 x194002_2.length co63, .int .i64 (Go.bits .and .i64 a0_3 1023), .int .i64 (Go.bits .and .i64 a0_4 1023), .slice none 0 0]) ?_ 5 _ rfl; (with_reducible repeat (first | refine blk_drewN ?_ _ | refine blk_drew ?_ | refine blk_alloc ?_ _)); refine blk_put (cs := #[.int .u32 x194000_2, .int .i64 x194001_2, .slice Ao63 x194002_2.length co63, .int .i64 (Go.bits .and .i64 a0_3 1023), .int .i64 0, .slice none 0 0]) ?_ 4 _ rfl; (with_reducible repeat (first | refine blk_drewN ?_ _ | refine blk_drew ?_ | refine blk_alloc ?_ _)); refine blk_put (cs := #[.int .u32 x194000_2, .int .i64 x194001_2, .slice Ao63 x194002_2.length co63, .int .i64 0, .int .i64 0, .slice none 0 0]) ?_ 3 _ rfl; (with_reducible repeat (first | refine blk_drewN ?_ _ | refine blk_drew ?_ | refine blk_alloc ?_ _)); refine blk_put (cs := #[.int .u32 x194000_2, .int .i64 x194001_2, .slice none 0 0, .int .i64 0, .int .i64 0, .slice none 0 0]) ?_ 2 _ rfl; (with_reducible repeat (first | refine blk_drewN ?_ _ | refine blk_drew ?_ | refine blk_alloc ?_ _)); refine blk_put (cs := #[.int .u32 x194000_2, .int .i64 0, .slice none 0 0, .int .i64 0, .int .i64 0, .slice none 0 0]) ?_ 1 _ rfl; (with_reducible repeat (first | refine blk_drewN ?_ _ | refine blk_drew ?_ | refine blk_alloc ?_ _)); refine blk_put (cs := #[.int .u32 0, .int .i64 0, .slice none 0 0, .int .i64 0, .int .i64 0, .slice none 0 0]) ?_ 0 _ rfl; (with_reducible repeat (first | refine blk_drewN ?_ _ | refine blk_drew ?_ | refine blk_alloc ?_ _)); refine blk_far ?_ NB192_193.out _; (with_reducible repeat (first | refine blk_drewN ?_ _ | refine blk_drew ?_ | refine blk_alloc ?_ _)); exact BK192.out) Tryd.underlying31 rfl (by kernel_rfl)) rfl ?_
  exact ⟨_, _, zE, by (with_reducible repeat (first | apply Kd.R_alloc | apply Kd.R_drewN | apply Kd.R_drew)); exact Kd.R_mono (Kd.R_far (p := ⟨gb192, 5, none⟩) (Kd.R_far (p := ⟨gb192, 4, none⟩) (Kd.R_far (p := ⟨gb192, 3, none⟩) (Kd.R_far (p := ⟨gb192, 2, none⟩) (Kd.R_far (p := ⟨gb192, 1, none⟩) (Kd.R_far (p := ⟨gb192, 0, none⟩) (Kd.R_far (p := ⟨gb193, 5, none⟩) (Kd.R_types (Kd.R_types HO_194002.out BK193.out (by decide)) BK192.out (by decide)) (fun _ hk => hk.1.2) (.slice Ao59 t210.length co59)) (fun _ hk => hk.2) (.int .u32 x194000_2)) (fun _ hk => hk.2) (.int .i64 x194001_2)) (fun _ hk => hk.2) (.slice Ao63 x194002_2.length co63)) (fun _ hk => hk.2) (.int .i64 (Go.bits .and .i64 a0_3 1023))) (fun _ hk => hk.2) (.int .i64 (Go.bits .and .i64 a0_4 1023))) (fun _ hk => hk.2) (.slice Ao59 t210.length co59)) (fun _ hk => hk.1.1), by (with_reducible repeat (first | apply Kd.R_alloc | apply Kd.R_drewN | apply Kd.R_drew)); exact Kd.R_mono (Kd.R_far (p := ⟨gb192, 5, none⟩) (Kd.R_far (p := ⟨gb192, 4, none⟩) (Kd.R_far (p := ⟨gb192, 3, none⟩) (Kd.R_far (p := ⟨gb192, 2, none⟩) (Kd.R_far (p := ⟨gb192, 1, none⟩) (Kd.R_far (p := ⟨gb192, 0, none⟩) (Kd.R_far (p := ⟨gb193, 5, none⟩) (Kd.R_types (Kd.R_types HO212.out BK193.out (by decide)) BK192.out (by decide)) (fun _ hk => hk.1.2) (.slice Ao59 t210.length co59)) (fun _ hk => hk.2) (.int .u32 x194000_2)) (fun _ hk => hk.2) (.int .i64 x194001_2)) (fun _ hk => hk.2) (.slice Ao63 x194002_2.length co63)) (fun _ hk => hk.2) (.int .i64 (Go.bits .and .i64 a0_3 1023))) (fun _ hk => hk.2) (.int .i64 (Go.bits .and .i64 a0_4 1023))) (fun _ hk => hk.2) (.slice Ao59 t210.length co59)) (fun _ hk => hk.1.1), zB⟩
 rw [if_pos c40] at H
 have c40b0 : decide (x44_3 < (t202.length : Int)) = true := decide_eq_true c40
 clear c40
 by_cases c41 : 0 ≤ x44_3
 rotate_left
 · rw [if_neg c41] at H; exact absurd H (by simp)
 rw [if_pos c41] at H
 have c41b0 : decide (0 ≤ x44_3) = true := decide_eq_true c41
 clear c41
 by_cases c42 : x44_3 < (t202.length : Int)
 rotate_left
 · rw [if_neg c42] at H; exact absurd H (by simp)
 rw [if_pos c42] at H
 have c42b0 : decide (x44_3 < (t202.length : Int)) = true := decide_eq_true c42
 clear c42
 by_cases c43 : x194005_3.length < 17592186044416
 rotate_left
 · rw [if_neg c43] at H; exact absurd H (by simp)
 rw [if_pos c43] at H
 have LMc43 := Aside0.mk c43
 clear c43
 obtain ⟨y206, hy206⟩ : ∃ y_ : List Int, y_ = (x194005_3 ++ [wrap64 (1 + (Go.bits .and .i64 (rd t202 x44_3) 15))]) := ⟨_, rfl⟩
 replace H : (g4_.l1 k3 t202 (t202.length : Int) (wrap64 (x44_3 + 1)) x194000_2 x194001_2 x194002_2 (Go.bits .and .i64 a0_3 1023) (Go.bits .and .i64 a0_4 1023) y206) = some (r1, r2, r3, r4, r5, r6) := by first | (rw [hy206]; with_reducible exact H) | (have H2_ := (Option.bind_some _ _).symm.trans H; rw [hy206]; with_reducible exact H2_) | (have H2_ := (Option.bind_some _ _).symm.trans H; with_reducible exact H2_) | with_reducible exact H | (rw [hy206]; exact H) | exact H
 have Ny206 := Aside0.mk hy206
 clear hy206
 have H' := Aside0.mk H
 clear H
 have p205 : 0 ≤ (x44_3 : Int) := od
 have q205 : x44_3 < (t202.length : Int) := od
 obtain ⟨ad205, e205, hx205_0⟩ := Kd.at_int (Kd.V_reads' HO_42.out).2.2 x44_3 p205 q205
 cases e205
 replace p205 := eq_true p205
 replace q205 := eq_true q205
 have hnb44 := NB193_191.out
 have hnc44 := NB191_193.out
 have hnb45 := NB193_192.out
 have hnc45 := NB192_193.out
 have hcz46_0 : wr.cell? ⟨gb193, 0, none⟩ = some (.int .u32 x194000_2) := zT BK193 0
 have hcz46_1 : wr.cell? ⟨gb193, 1, none⟩ = some (.int .i64 x194001_2) := zT BK193 1
 have hcz46_2 : wr.cell? ⟨gb193, 2, none⟩ = some (u194002) := zT BK193 2
 have hcz46_3 : wr.cell? ⟨gb193, 3, none⟩ = some (.int .i64 (Go.bits .and .i64 a0_3 1023)) := zT BK193 3
 have hcz46_4 : wr.cell? ⟨gb193, 4, none⟩ = some (.int .i64 (Go.bits .and .i64 a0_4 1023)) := zT BK193 4
 have hcz46_5 : wr.cell? ⟨gb193, 5, none⟩ = some (u194005) := zT BK193 5
 have hfz46_0 := blk_frozen BK193.out 0
 have hfz46_1 := blk_frozen BK193.out 1
 have hfz46_2 := blk_frozen BK193.out 2
 have hfz46_3 := blk_frozen BK193.out 3
 have hfz46_4 := blk_frozen BK193.out 4
 have hfz46_5 := blk_frozen BK193.out 5
 go_wp2_with (first | ((with_reducible refine gate_builtin (b := .append) (xs := #[.tmp 49, .tmp 53]) rfl ?_); at_builtin; refine Kd.R_append (Kd.int .i64) (w0 := w) w.heap.size rfl (.tmp 49) (.tmp 53) 23 3 (.int .i64 0) 8 rfl Tryd.underlying23 info3 rfl (by decide) (by omega) u194005 x194005_3 (wrap64 (1 + (Go.bits .and .i64 (rd t202 x44_3) 15))) [.int .i64 (wrap64 (1 + (Go.bits .and .i64 (rd t202 x44_3) 15)))] (fun k_ => some k_ ≠ (u194002 : Value).ownBlock) (fun _ => False) rfl rfl ?aP (fun _ hk => hk.elim) ?aF ?aO ?aB ?aS ?aL ?_; (case aP => exact rfl); (case aB => exact zB); (case aF => exact (fun k_ hk => Kd.fresh' (Kd.R_lt (zO HO_194002)) k_ hk)); (case aO => exact (zO HO_194005)); (case aS => exact (below_size zB)); (case aL => have := LMc43.out; omega); intro v207 w47 ho hb hg hat; rw [← Ny206.out] at ho; have n0_ := Aside0.mk (Kd.V_afterv (ok := (fun k_ => some k_ ≠ (u194002 : Value).ownBlock ∧ k_ ≠ gb191 ∧ k_ ≠ gb192 ∧ k_ ≠ gb193)) (by (with_reducible repeat (first | apply Kd.V_alloc | apply Kd.V_drewN | apply Kd.V_drew)); exact Kd.V_mono HO_42.out (fun _ hk => ⟨⟨hk.1, ⟨hk.2.2.1, ⟨hk.2.2.2.1, hk.2.2.2.2⟩⟩⟩, hk.2.1⟩)) hg hat); have n1_ := Aside0.mk (Kd.R_after (ok := (fun _ => True)) (by (with_reducible repeat (first | apply Kd.R_alloc | apply Kd.R_drewN | apply Kd.R_drew)); exact Kd.R_mono HO_194002.out (fun _ hk => ⟨trivial, hk⟩)) hg hat); have n2_ := Aside0.mk (blk_grown (g := gb191) (o := .cells #[.int .u32 a0_0, .int .i64 a0_1, .slice A0_2 l0_2.length c0_2, .int .i64 a0_3, .int .i64 a0_4, .slice A0_5 l0_5.length c0_5] 31 (0, 0)) (zK BK191) hg (Kd.R_ne HO_194005.out BK191.out (by decide))); have n3_ := Aside0.mk (blk_grown (g := gb192) (o := .cells #[.int .u32 0, .int .i64 0, .slice none 0 0, .int .i64 0, .int .i64 0, .slice none 0 0] 31 (0, 0)) (zK BK192) hg (Kd.R_ne HO_194005.out BK192.out (by decide))); have n4_ := Aside0.mk (blk_grown (g := gb193) (o := .cells #[.int .u32 x194000_2, .int .i64 x194001_2, u194002, .int .i64 (Go.bits .and .i64 a0_3 1023), .int .i64 (Go.bits .and .i64 a0_4 1023), u194005] 31 (0, 0)) (zK BK193) hg (Kd.R_ne HO_194005.out BK193.out (by decide))); have n5_ := Aside0.mk (hb); have n6_ := Aside0.mk (ho); clear HO_42; clear HO_194002; clear BK191; clear BK192; clear BK193; clear HB; clear HO_194005; have HO_42 := n0_; have HO_194002 := n1_; have BK191 := n2_; have BK192 := n3_; have BK193 := n4_; have HB := n5_; have HO208 := n6_; clear n0_ n1_ n2_ n3_ n4_ n5_ n6_; clear ho hb hg hat; obtain ⟨Ao48, co48, eo48⟩ := Kd.R_slice HO208.out; subst eo48; have hcz49_0 : w47.cell? ⟨gb193, 0, none⟩ = some (.int .u32 x194000_2) := zT BK193 0; have hcz49_1 : w47.cell? ⟨gb193, 1, none⟩ = some (.int .i64 x194001_2) := zT BK193 1; have hcz49_2 : w47.cell? ⟨gb193, 2, none⟩ = some (u194002) := zT BK193 2; have hcz49_3 : w47.cell? ⟨gb193, 3, none⟩ = some (.int .i64 (Go.bits .and .i64 a0_3 1023)) := zT BK193 3; have hcz49_4 : w47.cell? ⟨gb193, 4, none⟩ = some (.int .i64 (Go.bits .and .i64 a0_4 1023)) := zT BK193 4; have hcz49_5 : w47.cell? ⟨gb193, 5, none⟩ = some (u194005) := zT BK193 5; have hfz49_0 := blk_frozen BK193.out 0; have hfz49_1 := blk_frozen BK193.out 1; have hfz49_2 := blk_frozen BK193.out 2; have hfz49_3 := blk_frozen BK193.out 3; have hfz49_4 := blk_frozen BK193.out 4; have hfz49_5 := blk_frozen BK193.out 5))
 go_roundg k3
 case measure => have := HJ2.out; have := HK2.out; have := HK3.out; omega
 case rel => exact ⟨(wrap64 (x44_3 + 1)), (y206), (.slice Ao48 y206.length co48), zR, H', ⟨by have := HJ2.out; have := HK2.out; have := HK3.out; omega⟩, ⟨by (with_reducible repeat (first | apply Kd.V_alloc | apply Kd.V_drewN | apply Kd.V_drew)); exact Kd.V_mono (Kd.V_far (p := ⟨gb193, 5, none⟩) (Kd.V_mono HO_42.out (fun k_ hk => (⟨hk, hk.1.2.2.2⟩ : _ ∧ k_ ≠ gb193))) (fun _ hk => hk.2) (.slice Ao48 y206.length co48)) (fun _ hk => ⟨hk.1.1.1, ⟨hk.1.2, ⟨hk.1.1.2.1, ⟨hk.1.1.2.2.1, hk.1.1.2.2.2⟩⟩⟩⟩)⟩, ⟨by (with_reducible repeat (first | apply Kd.R_alloc | apply Kd.R_drewN | apply Kd.R_drew)); exact Kd.R_mono (Kd.R_far (p := ⟨gb193, 5, none⟩) (Kd.R_types HO_194002.out BK193.out (by decide)) (fun _ hk => hk.2) (.slice Ao48 y206.length co48)) (fun _ hk => hk.1.2)⟩, ⟨by (with_reducible repeat (first | apply Kd.R_alloc | apply Kd.R_drewN | apply Kd.R_drew)); exact Kd.R_mono (Kd.R_far (p := ⟨gb193, 5, none⟩) (Kd.R_types HO208.out BK193.out (by decide)) (fun _ hk => hk.2) (.slice Ao48 y206.length co48)) (fun _ hk => hk.1)⟩, ⟨by (with_reducible repeat (first | refine blk_drewN ?_ _ | refine blk_drew ?_ | refine blk_alloc ?_ _)); refine blk_far ?_ NB191_193.out _; (with_reducible repeat (first | refine blk_drewN ?_ _ | refine blk_drew ?_ | refine blk_alloc ?_ _)); exact BK191.out⟩, ⟨by (with_reducible repeat (first | refine blk_drewN ?_ _ | refine blk_drew ?_ | refine blk_alloc ?_ _)); refine blk_far ?_ NB192_193.out _; (with_reducible repeat (first | refine blk_drewN ?_ _ | refine blk_drew ?_ | refine blk_alloc ?_ _)); exact BK192.out⟩, ⟨by (with_reducible repeat (first | refine blk_drewN ?_ _ | refine blk_drew ?_ | refine blk_alloc ?_ _)); refine blk_put (cs := #[.int .u32 x194000_2, .int .i64 x194001_2, u194002, .int .i64 (Go.bits .and .i64 a0_3 1023), .int .i64 (Go.bits .and .i64 a0_4 1023), u194005]) ?_ 5 _ rfl; (with_reducible repeat (first | refine blk_drewN ?_ _ | refine blk_drew ?_ | refine blk_alloc ?_ _)); exact BK193.out⟩, ⟨zB⟩⟩
/-! ### g9_: function 10 -/
def g9_.l0 : Nat → List Int → List Int → Int → Int → Option (Bool)
  | 0, _, _, _, _ => none
  | k + 1, x0, x1, x12, x13 => if x13 < x12 then (if 0 ≤ x13 then (if x13 < (x0.length : Int) then (if x13 < (x1.length : Int) then (if (rd x0 x13) = (rd x1 x13) then (g9_.l0 k x0 x1 x12 (wrap64 (x13 + 1))) else (some false)) else (none)) else (none)) else (none)) else (some true)
def g9_.f (k : Nat) (l0 : List Int) (l1 : List Int) : Option (Bool) := if (l0.length : Int) = (l1.length : Int) then (g9_.l0 k l0 l1 (l0.length : Int) 0) else (some false)
theorem g9_.mono_l : ∀ k, (∀ y0 y1 y2 y3, LeO (g9_.l0 k y0 y1 y2 y3) (g9_.l0 (k + 1) y0 y1 y2 y3))
  | 0 => fun _ _ _ _ r h => by simp [g9_.l0] at h
  | k + 1 => by
    have ih0 := g9_.mono_l k
    · intro y0 y1 y2 y3
      unfold g9_.l0
      repeat' (with_reducible first | exact ih0 _ _ _ _ | exact LeO.refl _ | exact LeO.none _ | refine LeO.ite ?_ ?_ | refine LeO.bind ?_ (fun _ => ?_))
theorem g9_.mono : ∀ a0 a1 k, LeO (g9_.f k a0 a1) (g9_.f (k + 1) a0 a1) := by
  intro a0 a1 k
  have ih0 := g9_.mono_l k
  unfold g9_.f
  repeat' (with_reducible first | exact ih0 _ _ _ _ | exact LeO.refl _ | exact LeO.none _ | refine LeO.ite ?_ ?_ | refine LeO.bind ?_ (fun _ => ?_))
set_option maxHeartbeats 8000000 in
set_option maxRecDepth 100000 in
theorem g9_.calls (k : Nat) (A0 : Option Addr) (c0 : Nat) (l0 : List Int) (A1 : Option Addr) (c1 : Nat) (l1 : List Int) (r : Bool) (w : World) (hr0 : Kd.C (Kd.int .i64) w A0 l0.length l0) (hc0 : l0.length ≤ c0) (hr1 : Kd.C (Kd.int .i64) w A1 l1.length l1) (hc1 : l1.length ≤ c1) (h : g9_.f k l0 l1 = some r) :
 Calls Tryd.prog 10 #[.slice A0 l0.length c0, .slice A1 l1.length c1] w fun e w' => e = .returned (.bool r) ∧ Drawn0 w w' := by
 have hu3 := Tryd.underlying3
 have HR0 := Aside0.mk hr0
 have HC0 := Aside0.mk hc0
 clear hr0 hc0
 have HR1 := Aside0.mk hr1
 have HC1 := Aside0.mk hc1
 clear hr1 hc1
 have H : (if (l0.length : Int) = (l1.length : Int) then (g9_.l0 k l0 l1 (l0.length : Int) 0) else (some false)) = some r := h
 clear h
 by_cases c3 : (l0.length : Int) = (l1.length : Int)
 rotate_left
 ·
  rw [if_neg c3] at H
  have c3b0 : ((l0.length : Int) == (l1.length : Int)) = false := beq_eq_false_iff_ne.mpr c3
  have c3b1 : ((l0.length : Int) != (l1.length : Int)) = true := bne_iff_ne.mpr c3
  have c3b2 : (l0.length == l1.length) = false := by first | simpa using c3 | (simp at c3 ⊢; omega)
  obtain rfl := Option.some.inj H
  go_enter Tryd.func10, Tryd.ntmps10
  go_wp2
  repeat (go_quiet (fail); try go_wp2)
  go_ret
  exact ⟨zR, by repeat (first | exact Drawn0.refl _ | apply Drawn0.step)⟩
 rw [if_pos c3] at H
 have c3b0 : ((l0.length : Int) == (l1.length : Int)) = true := beq_iff_eq.mpr c3
 have c3b1 : ((l0.length : Int) != (l1.length : Int)) = false := bne_eq_false_iff_eq.mpr c3
 have c3b2 : (l0.length == l1.length) = true := by first | simpa using c3 | (simp at c3 ⊢; omega)
 clear c3
 have H' := Aside0.mk H
 clear H
 go_enter Tryd.func10, Tryd.ntmps10
 go_wp2
 repeat (go_quiet (fail); try go_wp2)
 go_loopg [13] k (fun kq v13 w' => ∃ (x13_1 : Int), v13 = .int .i64 x13_1 ∧ Aside0 (g9_.l0 kq l0 l1 (l0.length : Int) x13_1 = some r) ∧ Aside0 (kq ≤ k) ∧ Drawn0 w w')
 case atStart => exact ⟨(0), zR, H', ⟨Nat.le_refl _⟩, by repeat (first | exact Drawn0.refl _ | apply Drawn0.step)⟩
 clear H'
 try clear c1
 try clear p2
 try clear c3
 try clear c3b0
 try clear c3b1
 try clear c3b2
 obtain ⟨x13_1, rfl, HA, HK1, ⟨m1, rfl⟩⟩ := hrel
 rcases gk with _ | k1
 · exact absurd HA.out (by simp [g9_.l0])
 have H := HA.out
 clear HA
 simp only [g9_.l0] at H
 by_cases c4 : x13_1 < (l0.length : Int)
 rotate_left
 ·
  rw [if_neg c4] at H
  have c4b0 : decide (x13_1 < (l0.length : Int)) = false := decide_eq_false c4
  clear c4
  obtain rfl := Option.some.inj H
  go_wp2
  repeat (go_quiet (fail); try go_wp2)
  go_ret
  exact ⟨zR, by repeat (first | exact Drawn0.refl _ | apply Drawn0.step)⟩
 rw [if_pos c4] at H
 have c4b0 : decide (x13_1 < (l0.length : Int)) = true := decide_eq_true c4
 clear c4
 by_cases c5 : 0 ≤ x13_1
 rotate_left
 · rw [if_neg c5] at H; exact absurd H (by simp)
 rw [if_pos c5] at H
 have c5b0 : decide (0 ≤ x13_1) = true := decide_eq_true c5
 clear c5
 by_cases c6 : x13_1 < (l0.length : Int)
 rotate_left
 · rw [if_neg c6] at H; exact absurd H (by simp)
 rw [if_pos c6] at H
 have c6b0 : decide (x13_1 < (l0.length : Int)) = true := decide_eq_true c6
 clear c6
 by_cases c7 : x13_1 < (l1.length : Int)
 rotate_left
 · rw [if_neg c7] at H; exact absurd H (by simp)
 rw [if_pos c7] at H
 have c7b0 : decide (x13_1 < (l1.length : Int)) = true := decide_eq_true c7
 clear c7
 by_cases c8 : (rd l0 x13_1) = (rd l1 x13_1)
 rotate_left
 ·
  rw [if_neg c8] at H
  have c8b0 : ((rd l0 x13_1) == (rd l1 x13_1)) = false := beq_eq_false_iff_ne.mpr c8
  have c8b1 : ((rd l0 x13_1) != (rd l1 x13_1)) = true := bne_iff_ne.mpr c8
  obtain rfl := Option.some.inj H
  have p263 : 0 ≤ (x13_1 : Int) := od
  have q263 : x13_1 < (l0.length : Int) := od
  obtain ⟨ad263, e263, hx263_0⟩ := Kd.at_int HR0.out x13_1 p263 q263
  cases e263
  replace p263 := eq_true p263
  replace q263 := eq_true q263
  have p264 : 0 ≤ (x13_1 : Int) := od
  have q264 : x13_1 < (l1.length : Int) := od
  obtain ⟨ad264, e264, hx264_0⟩ := Kd.at_int HR1.out x13_1 p264 q264
  cases e264
  replace p264 := eq_true p264
  replace q264 := eq_true q264
  go_wp2
  repeat (go_quiet (fail); try go_wp2)
  go_ret
  exact ⟨zR, by repeat (first | exact Drawn0.refl _ | apply Drawn0.step)⟩
 rw [if_pos c8] at H
 have c8b0 : ((rd l0 x13_1) == (rd l1 x13_1)) = true := beq_iff_eq.mpr c8
 have c8b1 : ((rd l0 x13_1) != (rd l1 x13_1)) = false := bne_eq_false_iff_eq.mpr c8
 clear c8
 have H' := Aside0.mk H
 clear H
 have p263 : 0 ≤ (x13_1 : Int) := od
 have q263 : x13_1 < (l0.length : Int) := od
 obtain ⟨ad263, e263, hx263_0⟩ := Kd.at_int HR0.out x13_1 p263 q263
 cases e263
 replace p263 := eq_true p263
 replace q263 := eq_true q263
 have p264 : 0 ≤ (x13_1 : Int) := od
 have q264 : x13_1 < (l1.length : Int) := od
 obtain ⟨ad264, e264, hx264_0⟩ := Kd.at_int HR1.out x13_1 p264 q264
 cases e264
 replace p264 := eq_true p264
 replace q264 := eq_true q264
 go_wp2
 repeat (go_quiet (fail); try go_wp2)
 go_roundg k1
 case measure => have := HK1.out; omega
 case rel => exact ⟨(wrap64 (x13_1 + 1)), zR, H', ⟨by have := HK1.out; omega⟩, by repeat (first | exact Drawn0.refl _ | apply Drawn0.step)⟩
end Go.Proofs.YtplcdbhklepkgaaDoor.PG
