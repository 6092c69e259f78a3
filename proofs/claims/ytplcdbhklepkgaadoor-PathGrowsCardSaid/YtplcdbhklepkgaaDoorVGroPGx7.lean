-- Made by gen.py, a program of this session's, over the kit's print.
import Derived.Test.YtplcdbhklepkgaaDoorVGroShort
import Derived.Test.YtplcdbhklepkgaaDoorVGroPGx0
import Derived.Test.YtplcdbhklepkgaaDoorVGroPGx2
import Derived.Test.YtplcdbhklepkgaaDoorVGroPGx6
namespace Go.Proofs.YtplcdbhklepkgaaDoor.PG
open Go.RowKit Go.Proofs.YtplcdbhklepkgaaDoorW.PrintWords Go.Proofs.YtplcdbhklepkgaaDoorW.PrintLast Go.Proofs.YtplcdbhklepkgaaDoorW.PrintMore Go.Proofs.YtplcdbhklepkgaaDoor.GenWords
attribute [local go_sem] max2_int min2_int max_two min_two max_three min_three max_four min_four   -- for this text's walks alone
set_option linter.unusedVariables false
set_option linter.unusedSimpArgs false

/-! ### path_Check: function 34 -/
mutual
def path_Check.j0 : Nat → Bool → Int → Int → List Int → Int → Int → List Int → Option (Int)
  | 0, _, _, _, _, _, _, _ => none
  | k + 1, x12, x326000, x326001, x326002, x326003, x326004, x326005 => if x12 = true then (some 2) else ((g3_.f k x326002).bind fun t327 => (if t327 = true then (path_Check.j1 k true x326000 x326001 x326002 x326003 x326004 x326005) else ((g3_.f k x326005).bind fun t328 => (path_Check.j1 k t328 x326000 x326001 x326002 x326003 x326004 x326005))))
def path_Check.j1 : Nat → Bool → Int → Int → List Int → Int → Int → List Int → Option (Int)
  | 0, _, _, _, _, _, _, _ => none
  | k + 1, x23, x326000, x326001, x326002, x326003, x326004, x326005 => if x23 = true then (some 10) else (if (mn x326003 x326004) < 0 then (some 10) else (if (mx x326003 x326004) > 1000000 then (some 10) else (path_Check.l0 k 1 x326000 x326001 x326002 x326003 x326004 x326005)))
def path_Check.l0 : Nat → Int → Int → Int → List Int → Int → Int → List Int → Option (Int)
  | 0, _, _, _, _, _, _, _ => none
  | k + 1, x5, x326000, x326001, x326002, x326003, x326004, x326005 => if x5 < (x326005.length : Int) then (if 0 ≤ (wrap64 (x5 - 1)) then (if (wrap64 (x5 - 1)) < (x326005.length : Int) then (if 0 ≤ x5 then (if (rd x326005 (wrap64 (x5 - 1))) ≥ (rd x326005 x5) then (some 3) else (path_Check.l0 k (wrap64 (x5 + 1)) x326000 x326001 x326002 x326003 x326004 x326005)) else (none)) else (none)) else (none)) else (some 0)
end
def path_Check.f (k : Nat) (a0_0 : Int) (a0_1 : Int) (l0_2 : List Int) (a0_3 : Int) (a0_4 : Int) (l0_5 : List Int) : Option (Int) := (addr_Check.f a0_0 a0_1).bind fun t326 => (if t326 = 0 then (if (l0_2.length : Int) > 32 then (path_Check.j0 k true a0_0 a0_1 l0_2 a0_3 a0_4 l0_5) else (path_Check.j0 k (decide ((l0_5.length : Int) > 8)) a0_0 a0_1 l0_2 a0_3 a0_4 l0_5)) else (some t326))
theorem path_Check.mono_l : ∀ k, (∀ y0 y1 y2 y3 y4 y5 y6, LeO (path_Check.j0 k y0 y1 y2 y3 y4 y5 y6) (path_Check.j0 (k + 1) y0 y1 y2 y3 y4 y5 y6)) ∧ (∀ y0 y1 y2 y3 y4 y5 y6, LeO (path_Check.j1 k y0 y1 y2 y3 y4 y5 y6) (path_Check.j1 (k + 1) y0 y1 y2 y3 y4 y5 y6)) ∧ (∀ y0 y1 y2 y3 y4 y5 y6, LeO (path_Check.l0 k y0 y1 y2 y3 y4 y5 y6) (path_Check.l0 (k + 1) y0 y1 y2 y3 y4 y5 y6))
  | 0 => ⟨fun _ _ _ _ _ _ _ r h => by simp [path_Check.j0] at h, fun _ _ _ _ _ _ _ r h => by simp [path_Check.j1] at h, fun _ _ _ _ _ _ _ r h => by simp [path_Check.l0] at h⟩
  | k + 1 => by
    obtain ⟨ih0, ih1, ih2⟩ := path_Check.mono_l k
    refine ⟨?_, ?_, ?_⟩
    · intro y0 y1 y2 y3 y4 y5 y6
      unfold path_Check.j0
      repeat' (with_reducible first | exact ih0 _ _ _ _ _ _ _ | exact ih1 _ _ _ _ _ _ _ | exact ih2 _ _ _ _ _ _ _ | exact g3_.mono _ _ | exact LeO.refl _ | exact LeO.none _ | refine LeO.ite ?_ ?_ | refine LeO.bind ?_ (fun _ => ?_))
    · intro y0 y1 y2 y3 y4 y5 y6
      unfold path_Check.j1
      repeat' (with_reducible first | exact ih0 _ _ _ _ _ _ _ | exact ih1 _ _ _ _ _ _ _ | exact ih2 _ _ _ _ _ _ _ | exact g3_.mono _ _ | exact LeO.refl _ | exact LeO.none _ | refine LeO.ite ?_ ?_ | refine LeO.bind ?_ (fun _ => ?_))
    · intro y0 y1 y2 y3 y4 y5 y6
      unfold path_Check.l0
      repeat' (with_reducible first | exact ih0 _ _ _ _ _ _ _ | exact ih1 _ _ _ _ _ _ _ | exact ih2 _ _ _ _ _ _ _ | exact g3_.mono _ _ | exact LeO.refl _ | exact LeO.none _ | refine LeO.ite ?_ ?_ | refine LeO.bind ?_ (fun _ => ?_))
theorem path_Check.mono : ∀ a0 a1 a2 a3 a4 a5 k, LeO (path_Check.f k a0 a1 a2 a3 a4 a5) (path_Check.f (k + 1) a0 a1 a2 a3 a4 a5) := by
  intro a0 a1 a2 a3 a4 a5 k
  obtain ⟨ih0, ih1, ih2⟩ := path_Check.mono_l k
  unfold path_Check.f
  repeat' (with_reducible first | exact ih0 _ _ _ _ _ _ _ | exact ih1 _ _ _ _ _ _ _ | exact ih2 _ _ _ _ _ _ _ | exact g3_.mono _ _ | exact LeO.refl _ | exact LeO.none _ | refine LeO.ite ?_ ?_ | refine LeO.bind ?_ (fun _ => ?_))
set_option maxHeartbeats 8000000 in
set_option maxRecDepth 100000 in
theorem path_Check.calls (k : Nat) (a0_0 : Int) (a0_1 : Int) (A0_2 : Option Addr) (c0_2 : Nat) (l0_2 : List Int) (a0_3 : Int) (a0_4 : Int) (A0_5 : Option Addr) (c0_5 : Nat) (l0_5 : List Int) (r : Int) (w : World) (hr0_2 : Kd.C (Kd.int .i64) w A0_2 l0_2.length l0_2) (hc0_2 : l0_2.length ≤ c0_2) (hr0_5 : Kd.C (Kd.int .i64) w A0_5 l0_5.length l0_5) (hc0_5 : l0_5.length ≤ c0_5) (h : path_Check.f k a0_0 a0_1 l0_2 a0_3 a0_4 l0_5 = some r) :
 Calls Tryd.prog 34 #[.agg #[.int .u32 a0_0, .int .i64 a0_1, .slice A0_2 l0_2.length c0_2, .int .i64 a0_3, .int .i64 a0_4, .slice A0_5 l0_5.length c0_5]] w fun e w' => e = .returned (.int .i64 r) ∧ Below w.heap.size w w' := by
 have hu31 := Tryd.underlying31
 have hu29 := Tryd.underlying29
 have hu23 := Tryd.underlying23
 have hu3 := Tryd.underlying3
 have HR0_2 := Aside0.mk hr0_2
 have HC0_2 := Aside0.mk hc0_2
 clear hr0_2 hc0_2
 have HR0_5 := Aside0.mk hr0_5
 have HC0_5 := Aside0.mk hc0_5
 clear hr0_5 hc0_5
 have HB := Aside0.mk (Below.refl w.heap.size w)
 have H : ((addr_Check.f a0_0 a0_1).bind fun t326 => (if t326 = 0 then (if (l0_2.length : Int) > 32 then (path_Check.j0 k true a0_0 a0_1 l0_2 a0_3 a0_4 l0_5) else (path_Check.j0 k (decide ((l0_5.length : Int) > 8)) a0_0 a0_1 l0_2 a0_3 a0_4 l0_5)) else (some t326))) = some r := h
 clear h
 replace H := Option.bind_eq_some_iff.mp H
 obtain ⟨t326, A20, H⟩ := H
 replace H : (if t326 = 0 then (if (l0_2.length : Int) > 32 then (path_Check.j0 k true a0_0 a0_1 l0_2 a0_3 a0_4 l0_5) else (path_Check.j0 k (decide ((l0_5.length : Int) > 8)) a0_0 a0_1 l0_2 a0_3 a0_4 l0_5)) else (some t326)) = some r := H
 have A2 := Aside0.mk A20
 clear A20
 by_cases c3 : t326 = 0
 rotate_left
 ·
  rw [if_neg c3] at H
  have c3b0 : (t326 == 0) = false := beq_eq_false_iff_ne.mpr c3
  have c3b1 : (t326 != 0) = true := bne_iff_ne.mpr c3
  obtain rfl := Option.some.inj H
  go_enter Tryd.func34, Tryd.ntmps34
  go_wp2_with (first | ((with_reducible refine gate_dst (N := 1) rfl ?_); (try (refine gate_guard (by rfl) ?_; dsimp only)); refine bx 1 (#[.int .u32 a0_0, .int .i64 a0_1, .slice A0_2 l0_2.length c0_2, .int .i64 a0_3, .int .i64 a0_4, .slice A0_5 l0_5.length c0_5]) 31 ?_; intro gb325 hg w35 hbox hb; have n0_ := Aside0.mk (below_step zB hb); have n1_ := Aside0.mk (hbox); have n2_ := Aside0.mk ((zG hg : w.heap.size ≤ gb325)); have n3_ := Aside0.mk ((zG hg : w.heap.size ≤ gb325)); clear HB; have HB := n0_; have BK325 := n1_; have GW325 := n2_; have GE325 := n3_; clear n0_ n1_ n2_ n3_; clear hb hbox hg; have hcz36_0 : w35.cell? ⟨gb325, 0, none⟩ = some (.int .u32 a0_0) := zT BK325 0; have hcz36_1 : w35.cell? ⟨gb325, 1, none⟩ = some (.int .i64 a0_1) := zT BK325 1; have hcz36_2 : w35.cell? ⟨gb325, 2, none⟩ = some (.slice A0_2 l0_2.length c0_2) := zT BK325 2; have hcz36_3 : w35.cell? ⟨gb325, 3, none⟩ = some (.int .i64 a0_3) := zT BK325 3; have hcz36_4 : w35.cell? ⟨gb325, 4, none⟩ = some (.int .i64 a0_4) := zT BK325 4; have hcz36_5 : w35.cell? ⟨gb325, 5, none⟩ = some (.slice A0_5 l0_5.length c0_5) := zT BK325 5; have hfz36_0 := blk_frozen BK325.out 0; have hfz36_1 := blk_frozen BK325.out 1; have hfz36_2 := blk_frozen BK325.out 2; have hfz36_3 := blk_frozen BK325.out 3; have hfz36_4 := blk_frozen BK325.out 4; have hfz36_5 := blk_frozen BK325.out 5) | (go_at_call 25; (with_reducible refine (addr_Check.calls a0_0 a0_1 t326 _ A2.out).mono ?_); rintro e w37 ⟨rfl, hb⟩; have n0_ := Aside0.mk (blk_below (g := gb325) (o := .cells #[.int .u32 a0_0, .int .i64 a0_1, .slice A0_2 l0_2.length c0_2, .int .i64 a0_3, .int .i64 a0_4, .slice A0_5 l0_5.length c0_5] 31 (0, 0)) (zK BK325) hb); have n1_ := Aside0.mk (below_step zB hb); clear BK325; clear HB; have BK325 := n0_; have HB := n1_; clear n0_ n1_; (try clear hb); (try clear hb2); (try clear hk); (try clear hi)))
  repeat (go_quiet (first | ((with_reducible refine gate_dst (N := 1) rfl ?_); (try (refine gate_guard (by rfl) ?_; dsimp only)); refine bx 1 (#[.int .u32 a0_0, .int .i64 a0_1, .slice A0_2 l0_2.length c0_2, .int .i64 a0_3, .int .i64 a0_4, .slice A0_5 l0_5.length c0_5]) 31 ?_; intro gb325 hg w35 hbox hb; have n0_ := Aside0.mk (below_step zB hb); have n1_ := Aside0.mk (hbox); have n2_ := Aside0.mk ((zG hg : w.heap.size ≤ gb325)); have n3_ := Aside0.mk ((zG hg : w.heap.size ≤ gb325)); clear HB; have HB := n0_; have BK325 := n1_; have GW325 := n2_; have GE325 := n3_; clear n0_ n1_ n2_ n3_; clear hb hbox hg; have hcz36_0 : w35.cell? ⟨gb325, 0, none⟩ = some (.int .u32 a0_0) := zT BK325 0; have hcz36_1 : w35.cell? ⟨gb325, 1, none⟩ = some (.int .i64 a0_1) := zT BK325 1; have hcz36_2 : w35.cell? ⟨gb325, 2, none⟩ = some (.slice A0_2 l0_2.length c0_2) := zT BK325 2; have hcz36_3 : w35.cell? ⟨gb325, 3, none⟩ = some (.int .i64 a0_3) := zT BK325 3; have hcz36_4 : w35.cell? ⟨gb325, 4, none⟩ = some (.int .i64 a0_4) := zT BK325 4; have hcz36_5 : w35.cell? ⟨gb325, 5, none⟩ = some (.slice A0_5 l0_5.length c0_5) := zT BK325 5; have hfz36_0 := blk_frozen BK325.out 0; have hfz36_1 := blk_frozen BK325.out 1; have hfz36_2 := blk_frozen BK325.out 2; have hfz36_3 := blk_frozen BK325.out 3; have hfz36_4 := blk_frozen BK325.out 4; have hfz36_5 := blk_frozen BK325.out 5) | (go_at_call 25; (with_reducible refine (addr_Check.calls a0_0 a0_1 t326 _ A2.out).mono ?_); rintro e w37 ⟨rfl, hb⟩; have n0_ := Aside0.mk (blk_below (g := gb325) (o := .cells #[.int .u32 a0_0, .int .i64 a0_1, .slice A0_2 l0_2.length c0_2, .int .i64 a0_3, .int .i64 a0_4, .slice A0_5 l0_5.length c0_5] 31 (0, 0)) (zK BK325) hb); have n1_ := Aside0.mk (below_step zB hb); clear BK325; clear HB; have BK325 := n0_; have HB := n1_; clear n0_ n1_; (try clear hb); (try clear hb2); (try clear hk); (try clear hi))); try go_wp2_with (first | ((with_reducible refine gate_dst (N := 1) rfl ?_); (try (refine gate_guard (by rfl) ?_; dsimp only)); refine bx 1 (#[.int .u32 a0_0, .int .i64 a0_1, .slice A0_2 l0_2.length c0_2, .int .i64 a0_3, .int .i64 a0_4, .slice A0_5 l0_5.length c0_5]) 31 ?_; intro gb325 hg w35 hbox hb; have n0_ := Aside0.mk (below_step zB hb); have n1_ := Aside0.mk (hbox); have n2_ := Aside0.mk ((zG hg : w.heap.size ≤ gb325)); have n3_ := Aside0.mk ((zG hg : w.heap.size ≤ gb325)); clear HB; have HB := n0_; have BK325 := n1_; have GW325 := n2_; have GE325 := n3_; clear n0_ n1_ n2_ n3_; clear hb hbox hg; have hcz36_0 : w35.cell? ⟨gb325, 0, none⟩ = some (.int .u32 a0_0) := zT BK325 0; have hcz36_1 : w35.cell? ⟨gb325, 1, none⟩ = some (.int .i64 a0_1) := zT BK325 1; have hcz36_2 : w35.cell? ⟨gb325, 2, none⟩ = some (.slice A0_2 l0_2.length c0_2) := zT BK325 2; have hcz36_3 : w35.cell? ⟨gb325, 3, none⟩ = some (.int .i64 a0_3) := zT BK325 3; have hcz36_4 : w35.cell? ⟨gb325, 4, none⟩ = some (.int .i64 a0_4) := zT BK325 4; have hcz36_5 : w35.cell? ⟨gb325, 5, none⟩ = some (.slice A0_5 l0_5.length c0_5) := zT BK325 5; have hfz36_0 := blk_frozen BK325.out 0; have hfz36_1 := blk_frozen BK325.out 1; have hfz36_2 := blk_frozen BK325.out 2; have hfz36_3 := blk_frozen BK325.out 3; have hfz36_4 := blk_frozen BK325.out 4; have hfz36_5 := blk_frozen BK325.out 5) | (go_at_call 25; (with_reducible refine (addr_Check.calls a0_0 a0_1 t326 _ A2.out).mono ?_); rintro e w37 ⟨rfl, hb⟩; have n0_ := Aside0.mk (blk_below (g := gb325) (o := .cells #[.int .u32 a0_0, .int .i64 a0_1, .slice A0_2 l0_2.length c0_2, .int .i64 a0_3, .int .i64 a0_4, .slice A0_5 l0_5.length c0_5] 31 (0, 0)) (zK BK325) hb); have n1_ := Aside0.mk (below_step zB hb); clear BK325; clear HB; have BK325 := n0_; have HB := n1_; clear n0_ n1_; (try clear hb); (try clear hb2); (try clear hk); (try clear hi))))
  go_ret
  exact ⟨zE, zB⟩
 rw [if_pos c3] at H
 have c3b0 : (t326 == 0) = true := beq_iff_eq.mpr c3
 have c3b1 : (t326 != 0) = false := bne_eq_false_iff_eq.mpr c3
 clear c3
 have HC4 := Aside0.mk H
 clear H
 go_enter Tryd.func34, Tryd.ntmps34
 go_upto_region 5 with (first | ((with_reducible refine gate_dst (N := 1) rfl ?_); (try (refine gate_guard (by rfl) ?_; dsimp only)); refine bx 1 (#[.int .u32 a0_0, .int .i64 a0_1, .slice A0_2 l0_2.length c0_2, .int .i64 a0_3, .int .i64 a0_4, .slice A0_5 l0_5.length c0_5]) 31 ?_; intro gb325 hg w5 hbox hb; have n0_ := Aside0.mk (below_step zB hb); have n1_ := Aside0.mk (hbox); have n2_ := Aside0.mk ((zG hg : w.heap.size ≤ gb325)); have n3_ := Aside0.mk ((zG hg : w.heap.size ≤ gb325)); clear HB; have HB := n0_; have BK325 := n1_; have GW325 := n2_; have GE325 := n3_; clear n0_ n1_ n2_ n3_; clear hb hbox hg; have hcz6_0 : w5.cell? ⟨gb325, 0, none⟩ = some (.int .u32 a0_0) := zT BK325 0; have hcz6_1 : w5.cell? ⟨gb325, 1, none⟩ = some (.int .i64 a0_1) := zT BK325 1; have hcz6_2 : w5.cell? ⟨gb325, 2, none⟩ = some (.slice A0_2 l0_2.length c0_2) := zT BK325 2; have hcz6_3 : w5.cell? ⟨gb325, 3, none⟩ = some (.int .i64 a0_3) := zT BK325 3; have hcz6_4 : w5.cell? ⟨gb325, 4, none⟩ = some (.int .i64 a0_4) := zT BK325 4; have hcz6_5 : w5.cell? ⟨gb325, 5, none⟩ = some (.slice A0_5 l0_5.length c0_5) := zT BK325 5; have hfz6_0 := blk_frozen BK325.out 0; have hfz6_1 := blk_frozen BK325.out 1; have hfz6_2 := blk_frozen BK325.out 2; have hfz6_3 := blk_frozen BK325.out 3; have hfz6_4 := blk_frozen BK325.out 4; have hfz6_5 := blk_frozen BK325.out 5) | (go_at_call 25; (with_reducible refine (addr_Check.calls a0_0 a0_1 t326 _ A2.out).mono ?_); rintro e w7 ⟨rfl, hb⟩; have n0_ := Aside0.mk (blk_below (g := gb325) (o := .cells #[.int .u32 a0_0, .int .i64 a0_1, .slice A0_2 l0_2.length c0_2, .int .i64 a0_3, .int .i64 a0_4, .slice A0_5 l0_5.length c0_5] 31 (0, 0)) (zK BK325) hb); have n1_ := Aside0.mk (below_step zB hb); clear BK325; clear HB; have BK325 := n0_; have HB := n1_; clear n0_ n1_; (try clear hb); (try clear hb2); (try clear hk); (try clear hi)))
 repeat (go_quiet (first | ((with_reducible refine gate_dst (N := 1) rfl ?_); (try (refine gate_guard (by rfl) ?_; dsimp only)); refine bx 1 (#[.int .u32 a0_0, .int .i64 a0_1, .slice A0_2 l0_2.length c0_2, .int .i64 a0_3, .int .i64 a0_4, .slice A0_5 l0_5.length c0_5]) 31 ?_; intro gb325 hg w5 hbox hb; have n0_ := Aside0.mk (below_step zB hb); have n1_ := Aside0.mk (hbox); have n2_ := Aside0.mk ((zG hg : w.heap.size ≤ gb325)); have n3_ := Aside0.mk ((zG hg : w.heap.size ≤ gb325)); clear HB; have HB := n0_; have BK325 := n1_; have GW325 := n2_; have GE325 := n3_; clear n0_ n1_ n2_ n3_; clear hb hbox hg; have hcz6_0 : w5.cell? ⟨gb325, 0, none⟩ = some (.int .u32 a0_0) := zT BK325 0; have hcz6_1 : w5.cell? ⟨gb325, 1, none⟩ = some (.int .i64 a0_1) := zT BK325 1; have hcz6_2 : w5.cell? ⟨gb325, 2, none⟩ = some (.slice A0_2 l0_2.length c0_2) := zT BK325 2; have hcz6_3 : w5.cell? ⟨gb325, 3, none⟩ = some (.int .i64 a0_3) := zT BK325 3; have hcz6_4 : w5.cell? ⟨gb325, 4, none⟩ = some (.int .i64 a0_4) := zT BK325 4; have hcz6_5 : w5.cell? ⟨gb325, 5, none⟩ = some (.slice A0_5 l0_5.length c0_5) := zT BK325 5; have hfz6_0 := blk_frozen BK325.out 0; have hfz6_1 := blk_frozen BK325.out 1; have hfz6_2 := blk_frozen BK325.out 2; have hfz6_3 := blk_frozen BK325.out 3; have hfz6_4 := blk_frozen BK325.out 4; have hfz6_5 := blk_frozen BK325.out 5) | (go_at_call 25; (with_reducible refine (addr_Check.calls a0_0 a0_1 t326 _ A2.out).mono ?_); rintro e w7 ⟨rfl, hb⟩; have n0_ := Aside0.mk (blk_below (g := gb325) (o := .cells #[.int .u32 a0_0, .int .i64 a0_1, .slice A0_2 l0_2.length c0_2, .int .i64 a0_3, .int .i64 a0_4, .slice A0_5 l0_5.length c0_5] 31 (0, 0)) (zK BK325) hb); have n1_ := Aside0.mk (below_step zB hb); clear BK325; clear HB; have BK325 := n0_; have HB := n1_; clear n0_ n1_; (try clear hb); (try clear hb2); (try clear hk); (try clear hi))); go_upto_region 5 with (first | ((with_reducible refine gate_dst (N := 1) rfl ?_); (try (refine gate_guard (by rfl) ?_; dsimp only)); refine bx 1 (#[.int .u32 a0_0, .int .i64 a0_1, .slice A0_2 l0_2.length c0_2, .int .i64 a0_3, .int .i64 a0_4, .slice A0_5 l0_5.length c0_5]) 31 ?_; intro gb325 hg w5 hbox hb; have n0_ := Aside0.mk (below_step zB hb); have n1_ := Aside0.mk (hbox); have n2_ := Aside0.mk ((zG hg : w.heap.size ≤ gb325)); have n3_ := Aside0.mk ((zG hg : w.heap.size ≤ gb325)); clear HB; have HB := n0_; have BK325 := n1_; have GW325 := n2_; have GE325 := n3_; clear n0_ n1_ n2_ n3_; clear hb hbox hg; have hcz6_0 : w5.cell? ⟨gb325, 0, none⟩ = some (.int .u32 a0_0) := zT BK325 0; have hcz6_1 : w5.cell? ⟨gb325, 1, none⟩ = some (.int .i64 a0_1) := zT BK325 1; have hcz6_2 : w5.cell? ⟨gb325, 2, none⟩ = some (.slice A0_2 l0_2.length c0_2) := zT BK325 2; have hcz6_3 : w5.cell? ⟨gb325, 3, none⟩ = some (.int .i64 a0_3) := zT BK325 3; have hcz6_4 : w5.cell? ⟨gb325, 4, none⟩ = some (.int .i64 a0_4) := zT BK325 4; have hcz6_5 : w5.cell? ⟨gb325, 5, none⟩ = some (.slice A0_5 l0_5.length c0_5) := zT BK325 5; have hfz6_0 := blk_frozen BK325.out 0; have hfz6_1 := blk_frozen BK325.out 1; have hfz6_2 := blk_frozen BK325.out 2; have hfz6_3 := blk_frozen BK325.out 3; have hfz6_4 := blk_frozen BK325.out 4; have hfz6_5 := blk_frozen BK325.out 5) | (go_at_call 25; (with_reducible refine (addr_Check.calls a0_0 a0_1 t326 _ A2.out).mono ?_); rintro e w7 ⟨rfl, hb⟩; have n0_ := Aside0.mk (blk_below (g := gb325) (o := .cells #[.int .u32 a0_0, .int .i64 a0_1, .slice A0_2 l0_2.length c0_2, .int .i64 a0_3, .int .i64 a0_4, .slice A0_5 l0_5.length c0_5] 31 (0, 0)) (zK BK325) hb); have n1_ := Aside0.mk (below_step zB hb); clear BK325; clear HB; have BK325 := n0_; have HB := n1_; clear n0_ n1_; (try clear hb); (try clear hb2); (try clear hk); (try clear hi))))
 (try simp only [Act.put, List.setIfInBounds_toArray, List.set_cons_zero, List.set_cons_succ])
 go_cut [12] (fun v12 wc => ∃ (kq : Nat) (x12_3 : Bool), v12 = .bool x12_3 ∧ Aside0 (path_Check.j0 kq x12_3 a0_0 a0_1 l0_2 a0_3 a0_4 l0_5 = some r) ∧ Aside0 (kq ≤ k) ∧ Aside0 (wc.heap[gb325]? = some (.cells #[.int .u32 a0_0, .int .i64 a0_1, (.slice A0_2 l0_2.length c0_2), .int .i64 a0_3, .int .i64 a0_4, (.slice A0_5 l0_5.length c0_5)] 31 (0, 0))) ∧ Aside0 (Below w.heap.size w wc))
 case first =>
  have H := HC4.out
  clear HC4
  by_cases c8 : (l0_2.length : Int) > 32
  ·
   rw [if_pos c8] at H
   have c8b0 : decide (32 < (l0_2.length : Int)) = true := decide_eq_true c8
   have c8b1 : decide (32 < l0_2.length) = true := decide_eq_true (by omega)
   clear c8
   (first | rw [c8b0] | (simp only [i64_w, i32_w]; rw [c8b0]) | skip)
   have H' := Aside0.mk H
   clear H
   have hcz9_0 : w7.cell? ⟨gb325, 0, none⟩ = some (.int .u32 a0_0) := zT BK325 0
   have hcz9_1 : w7.cell? ⟨gb325, 1, none⟩ = some (.int .i64 a0_1) := zT BK325 1
   have hcz9_2 : w7.cell? ⟨gb325, 2, none⟩ = some (.slice A0_2 l0_2.length c0_2) := zT BK325 2
   have hcz9_3 : w7.cell? ⟨gb325, 3, none⟩ = some (.int .i64 a0_3) := zT BK325 3
   have hcz9_4 : w7.cell? ⟨gb325, 4, none⟩ = some (.int .i64 a0_4) := zT BK325 4
   have hcz9_5 : w7.cell? ⟨gb325, 5, none⟩ = some (.slice A0_5 l0_5.length c0_5) := zT BK325 5
   have hfz9_0 := blk_frozen BK325.out 0
   have hfz9_1 := blk_frozen BK325.out 1
   have hfz9_2 := blk_frozen BK325.out 2
   have hfz9_3 := blk_frozen BK325.out 3
   have hfz9_4 := blk_frozen BK325.out 4
   have hfz9_5 := blk_frozen BK325.out 5
   go_wp2
   repeat (go_quiet (fail); try go_wp2)
   go_meet
   case rel => exact ⟨_, (true), zR, H', ⟨by first | omega | exact Nat.le_refl _⟩, ⟨zK BK325⟩, ⟨zB⟩⟩
  rw [if_neg c8] at H
  have c8b0 : decide (32 < (l0_2.length : Int)) = false := decide_eq_false c8
  have c8b1 : decide (32 < l0_2.length) = false := decide_eq_false (by omega)
  clear c8
  (first | rw [c8b0] | (simp only [i64_w, i32_w]; rw [c8b0]) | skip)
  have H' := Aside0.mk H
  clear H
  have hcz10_0 : w7.cell? ⟨gb325, 0, none⟩ = some (.int .u32 a0_0) := zT BK325 0
  have hcz10_1 : w7.cell? ⟨gb325, 1, none⟩ = some (.int .i64 a0_1) := zT BK325 1
  have hcz10_2 : w7.cell? ⟨gb325, 2, none⟩ = some (.slice A0_2 l0_2.length c0_2) := zT BK325 2
  have hcz10_3 : w7.cell? ⟨gb325, 3, none⟩ = some (.int .i64 a0_3) := zT BK325 3
  have hcz10_4 : w7.cell? ⟨gb325, 4, none⟩ = some (.int .i64 a0_4) := zT BK325 4
  have hcz10_5 : w7.cell? ⟨gb325, 5, none⟩ = some (.slice A0_5 l0_5.length c0_5) := zT BK325 5
  have hfz10_0 := blk_frozen BK325.out 0
  have hfz10_1 := blk_frozen BK325.out 1
  have hfz10_2 := blk_frozen BK325.out 2
  have hfz10_3 := blk_frozen BK325.out 3
  have hfz10_4 := blk_frozen BK325.out 4
  have hfz10_5 := blk_frozen BK325.out 5
  go_wp2
  repeat (go_quiet (fail); try go_wp2)
  go_meet
  case rel => exact ⟨_, (decide ((l0_5.length : Int) > 8)), zR, H', ⟨by first | omega | exact Nat.le_refl _⟩, ⟨zK BK325⟩, ⟨zB⟩⟩
 clear HC4
 try clear p2
 try clear c3
 try clear c3b0
 try clear c3b1
 try clear c8
 try clear c8b0
 try clear c8b1
 try clear hcz10_0
 try clear hcz10_1
 try clear hcz10_2
 try clear hcz10_3
 try clear hcz10_4
 try clear hcz10_5
 try clear hcz6_0
 try clear hcz6_1
 try clear hcz6_2
 try clear hcz6_3
 try clear hcz6_4
 try clear hcz6_5
 try clear hcz9_0
 try clear hcz9_1
 try clear hcz9_2
 try clear hcz9_3
 try clear hcz9_4
 try clear hcz9_5
 try clear hfz10_0
 try clear hfz10_1
 try clear hfz10_2
 try clear hfz10_3
 try clear hfz10_4
 try clear hfz10_5
 try clear hfz6_0
 try clear hfz6_1
 try clear hfz6_2
 try clear hfz6_3
 try clear hfz6_4
 try clear hfz6_5
 try clear hfz9_0
 try clear hfz9_1
 try clear hfz9_2
 try clear hfz9_3
 try clear hfz9_4
 try clear hfz9_5
 obtain ⟨kq, x12_3, rfl, HA, HJ3, BK325, HB⟩ := hcut
 rcases kq with _ | kj3
 · exact absurd HA.out (by simp [path_Check.j0])
 have H := HA.out
 clear HA
 simp only [path_Check.j0] at H
 by_cases c11 : x12_3 = true
 ·
  subst c11
  have H1 : (some 2) = some r := by rw [if_pos rfl] at H; exact H
  clear H
  have H := H1
  clear H1
  obtain rfl := Option.some.inj H
  go_wp2
  repeat (go_quiet (fail); try go_wp2)
  go_ret
  exact ⟨zE, zB⟩
 replace c11 := Bool.eq_false_iff.mpr c11
 subst c11
 have H1 : ((g3_.f kj3 l0_2).bind fun t327 => (if t327 = true then (path_Check.j1 kj3 true a0_0 a0_1 l0_2 a0_3 a0_4 l0_5) else ((g3_.f kj3 l0_5).bind fun t328 => (path_Check.j1 kj3 t328 a0_0 a0_1 l0_2 a0_3 a0_4 l0_5)))) = some r := by rw [if_neg (show ¬ (false = true) by decide)] at H; exact H
 clear H
 have H := H1
 clear H1
 have HC12 := Aside0.mk H
 clear H
 go_upto_region 7 with (fail)
 repeat (go_quiet (fail); go_upto_region 7 with (fail))
 go_cut [23] (fun v23 wc => ∃ (kq : Nat) (x23_11 : Bool), v23 = .bool x23_11 ∧ Aside0 (path_Check.j1 kq x23_11 a0_0 a0_1 l0_2 a0_3 a0_4 l0_5 = some r) ∧ Aside0 (kq ≤ kj3) ∧ Aside0 (wc.heap[gb325]? = some (.cells #[.int .u32 a0_0, .int .i64 a0_1, (.slice A0_2 l0_2.length c0_2), .int .i64 a0_3, .int .i64 a0_4, (.slice A0_5 l0_5.length c0_5)] 31 (0, 0))) ∧ Aside0 (Below w.heap.size w wc))
 case first =>
  have H := HC12.out
  clear HC12
  replace H := Option.bind_eq_some_iff.mp H
  obtain ⟨t327, A130, H⟩ := H
  replace H : (if t327 = true then (path_Check.j1 kj3 true a0_0 a0_1 l0_2 a0_3 a0_4 l0_5) else ((g3_.f kj3 l0_5).bind fun t328 => (path_Check.j1 kj3 t328 a0_0 a0_1 l0_2 a0_3 a0_4 l0_5))) = some r := H
  have A13 := Aside0.mk A130
  clear A130
  by_cases c14 : t327 = true
  ·
   subst c14
   have H1 : (path_Check.j1 kj3 true a0_0 a0_1 l0_2 a0_3 a0_4 l0_5) = some r := by rw [if_pos rfl] at H; exact H
   clear H
   have H := H1
   clear H1
   have H' := Aside0.mk H
   clear H
   have hcz15_0 : wc.cell? ⟨gb325, 0, none⟩ = some (.int .u32 a0_0) := zT BK325 0
   have hcz15_1 : wc.cell? ⟨gb325, 1, none⟩ = some (.int .i64 a0_1) := zT BK325 1
   have hcz15_2 : wc.cell? ⟨gb325, 2, none⟩ = some (.slice A0_2 l0_2.length c0_2) := zT BK325 2
   have hcz15_3 : wc.cell? ⟨gb325, 3, none⟩ = some (.int .i64 a0_3) := zT BK325 3
   have hcz15_4 : wc.cell? ⟨gb325, 4, none⟩ = some (.int .i64 a0_4) := zT BK325 4
   have hcz15_5 : wc.cell? ⟨gb325, 5, none⟩ = some (.slice A0_5 l0_5.length c0_5) := zT BK325 5
   have hfz15_0 := blk_frozen BK325.out 0
   have hfz15_1 := blk_frozen BK325.out 1
   have hfz15_2 := blk_frozen BK325.out 2
   have hfz15_3 := blk_frozen BK325.out 3
   have hfz15_4 := blk_frozen BK325.out 4
   have hfz15_5 := blk_frozen BK325.out 5
   go_wp2_with (first | (go_at_call 45; (with_reducible refine (g3_.calls kj3 _ _ l0_2  true _ ?side1 ?side2 A13.out).mono ?_); (case side1 => exact zC HR0_2 HB); (case side2 => exact HC0_2.out); rintro e w' ⟨rfl, ⟨nd, rfl⟩⟩; (try first | exact ⟨rfl, _, World.drewN_drewN _ _ _⟩ | exact ⟨rfl, _, Eq.trans (World.drewN_drewN _ _ _) (congrArg (World.drewN _) (Nat.add_assoc _ _ _))⟩)))
   repeat (go_quiet (first | (go_at_call 45; (with_reducible refine (g3_.calls kj3 _ _ l0_2  true _ ?side1 ?side2 A13.out).mono ?_); (case side1 => exact zC HR0_2 HB); (case side2 => exact HC0_2.out); rintro e w' ⟨rfl, ⟨nd, rfl⟩⟩; (try first | exact ⟨rfl, _, World.drewN_drewN _ _ _⟩ | exact ⟨rfl, _, Eq.trans (World.drewN_drewN _ _ _) (congrArg (World.drewN _) (Nat.add_assoc _ _ _))⟩))); try go_wp2_with (first | (go_at_call 45; (with_reducible refine (g3_.calls kj3 _ _ l0_2  true _ ?side1 ?side2 A13.out).mono ?_); (case side1 => exact zC HR0_2 HB); (case side2 => exact HC0_2.out); rintro e w' ⟨rfl, ⟨nd, rfl⟩⟩; (try first | exact ⟨rfl, _, World.drewN_drewN _ _ _⟩ | exact ⟨rfl, _, Eq.trans (World.drewN_drewN _ _ _) (congrArg (World.drewN _) (Nat.add_assoc _ _ _))⟩))))
   go_meet
   case rel => exact ⟨_, (true), zR, H', ⟨by have := HJ3.out; first | omega | exact Nat.le_refl _⟩, ⟨zK BK325⟩, ⟨zB⟩⟩
  replace c14 := Bool.eq_false_iff.mpr c14
  subst c14
  have H1 : ((g3_.f kj3 l0_5).bind fun t328 => (path_Check.j1 kj3 t328 a0_0 a0_1 l0_2 a0_3 a0_4 l0_5)) = some r := by rw [if_neg (show ¬ (false = true) by decide)] at H; exact H
  clear H
  have H := H1
  clear H1
  replace H := Option.bind_eq_some_iff.mp H
  obtain ⟨t328, A160, H⟩ := H
  replace H : (path_Check.j1 kj3 t328 a0_0 a0_1 l0_2 a0_3 a0_4 l0_5) = some r := H
  have A16 := Aside0.mk A160
  clear A160
  have H' := Aside0.mk H
  clear H
  have hcz17_0 : wc.cell? ⟨gb325, 0, none⟩ = some (.int .u32 a0_0) := zT BK325 0
  have hcz17_1 : wc.cell? ⟨gb325, 1, none⟩ = some (.int .i64 a0_1) := zT BK325 1
  have hcz17_2 : wc.cell? ⟨gb325, 2, none⟩ = some (.slice A0_2 l0_2.length c0_2) := zT BK325 2
  have hcz17_3 : wc.cell? ⟨gb325, 3, none⟩ = some (.int .i64 a0_3) := zT BK325 3
  have hcz17_4 : wc.cell? ⟨gb325, 4, none⟩ = some (.int .i64 a0_4) := zT BK325 4
  have hcz17_5 : wc.cell? ⟨gb325, 5, none⟩ = some (.slice A0_5 l0_5.length c0_5) := zT BK325 5
  have hfz17_0 := blk_frozen BK325.out 0
  have hfz17_1 := blk_frozen BK325.out 1
  have hfz17_2 := blk_frozen BK325.out 2
  have hfz17_3 := blk_frozen BK325.out 3
  have hfz17_4 := blk_frozen BK325.out 4
  have hfz17_5 := blk_frozen BK325.out 5
  go_wp2_with (first | (go_at_call 45; (with_reducible refine (g3_.calls kj3 _ _ l0_2  false _ ?side1 ?side2 A13.out).mono ?_); (case side1 => exact zC HR0_2 HB); (case side2 => exact HC0_2.out); rintro e w' ⟨rfl, ⟨nd, rfl⟩⟩; (try first | exact ⟨rfl, _, World.drewN_drewN _ _ _⟩ | exact ⟨rfl, _, Eq.trans (World.drewN_drewN _ _ _) (congrArg (World.drewN _) (Nat.add_assoc _ _ _))⟩)) | (go_at_call 45; (with_reducible refine (g3_.calls kj3 _ _ l0_5  t328 _ ?side1 ?side2 A16.out).mono ?_); (case side1 => repeat (first | exact (Kd.C_below HR0_5.out zB) | (with_reducible refine Kd.C_alloc ?_ _) | (with_reducible refine Kd.C_drewN ?_ _) | (with_reducible refine Kd.C_drew ?_))); (case side2 => exact HC0_5.out); rintro e w' ⟨rfl, ⟨nd, rfl⟩⟩; (try first | exact ⟨rfl, _, World.drewN_drewN _ _ _⟩ | exact ⟨rfl, _, Eq.trans (World.drewN_drewN _ _ _) (congrArg (World.drewN _) (Nat.add_assoc _ _ _))⟩)))
  repeat (go_quiet (first | (go_at_call 45; (with_reducible refine (g3_.calls kj3 _ _ l0_2  false _ ?side1 ?side2 A13.out).mono ?_); (case side1 => exact zC HR0_2 HB); (case side2 => exact HC0_2.out); rintro e w' ⟨rfl, ⟨nd, rfl⟩⟩; (try first | exact ⟨rfl, _, World.drewN_drewN _ _ _⟩ | exact ⟨rfl, _, Eq.trans (World.drewN_drewN _ _ _) (congrArg (World.drewN _) (Nat.add_assoc _ _ _))⟩)) | (go_at_call 45; (with_reducible refine (g3_.calls kj3 _ _ l0_5  t328 _ ?side1 ?side2 A16.out).mono ?_); (case side1 => repeat (first | exact (Kd.C_below HR0_5.out zB) | (with_reducible refine Kd.C_alloc ?_ _) | (with_reducible refine Kd.C_drewN ?_ _) | (with_reducible refine Kd.C_drew ?_))); (case side2 => exact HC0_5.out); rintro e w' ⟨rfl, ⟨nd, rfl⟩⟩; (try first | exact ⟨rfl, _, World.drewN_drewN _ _ _⟩ | exact ⟨rfl, _, Eq.trans (World.drewN_drewN _ _ _) (congrArg (World.drewN _) (Nat.add_assoc _ _ _))⟩))); try go_wp2_with (first | (go_at_call 45; (with_reducible refine (g3_.calls kj3 _ _ l0_2  false _ ?side1 ?side2 A13.out).mono ?_); (case side1 => exact zC HR0_2 HB); (case side2 => exact HC0_2.out); rintro e w' ⟨rfl, ⟨nd, rfl⟩⟩; (try first | exact ⟨rfl, _, World.drewN_drewN _ _ _⟩ | exact ⟨rfl, _, Eq.trans (World.drewN_drewN _ _ _) (congrArg (World.drewN _) (Nat.add_assoc _ _ _))⟩)) | (go_at_call 45; (with_reducible refine (g3_.calls kj3 _ _ l0_5  t328 _ ?side1 ?side2 A16.out).mono ?_); (case side1 => repeat (first | exact (Kd.C_below HR0_5.out zB) | (with_reducible refine Kd.C_alloc ?_ _) | (with_reducible refine Kd.C_drewN ?_ _) | (with_reducible refine Kd.C_drew ?_))); (case side2 => exact HC0_5.out); rintro e w' ⟨rfl, ⟨nd, rfl⟩⟩; (try first | exact ⟨rfl, _, World.drewN_drewN _ _ _⟩ | exact ⟨rfl, _, Eq.trans (World.drewN_drewN _ _ _) (congrArg (World.drewN _) (Nat.add_assoc _ _ _))⟩))))
  go_meet
  case rel => exact ⟨_, (t328), zR, H', ⟨by have := HJ3.out; first | omega | exact Nat.le_refl _⟩, ⟨zK BK325⟩, ⟨zB⟩⟩
 clear HC12
 try clear c1
 try clear p2
 try clear c3
 try clear c3b0
 try clear c3b1
 try clear c8
 try clear c8b0
 try clear c8b1
 try clear c11
 try clear c14
 try clear hcz10_0
 try clear hcz10_1
 try clear hcz10_2
 try clear hcz10_3
 try clear hcz10_4
 try clear hcz10_5
 try clear hcz15_0
 try clear hcz15_1
 try clear hcz15_2
 try clear hcz15_3
 try clear hcz15_4
 try clear hcz15_5
 try clear hcz17_0
 try clear hcz17_1
 try clear hcz17_2
 try clear hcz17_3
 try clear hcz17_4
 try clear hcz17_5
 try clear hcz6_0
 try clear hcz6_1
 try clear hcz6_2
 try clear hcz6_3
 try clear hcz6_4
 try clear hcz6_5
 try clear hcz9_0
 try clear hcz9_1
 try clear hcz9_2
 try clear hcz9_3
 try clear hcz9_4
 try clear hcz9_5
 try clear hfz10_0
 try clear hfz10_1
 try clear hfz10_2
 try clear hfz10_3
 try clear hfz10_4
 try clear hfz10_5
 try clear hfz15_0
 try clear hfz15_1
 try clear hfz15_2
 try clear hfz15_3
 try clear hfz15_4
 try clear hfz15_5
 try clear hfz17_0
 try clear hfz17_1
 try clear hfz17_2
 try clear hfz17_3
 try clear hfz17_4
 try clear hfz17_5
 try clear hfz6_0
 try clear hfz6_1
 try clear hfz6_2
 try clear hfz6_3
 try clear hfz6_4
 try clear hfz6_5
 try clear hfz9_0
 try clear hfz9_1
 try clear hfz9_2
 try clear hfz9_3
 try clear hfz9_4
 try clear hfz9_5
 try clear p2
 obtain ⟨kq, x23_11, rfl, HA, HJ11, BK325, HB⟩ := hcut
 rcases kq with _ | kj11
 · exact absurd HA.out (by simp [path_Check.j1])
 have H := HA.out
 clear HA
 simp only [path_Check.j1] at H
 by_cases c18 : x23_11 = true
 ·
  subst c18
  have H1 : (some 10) = some r := by rw [if_pos rfl] at H; exact H
  clear H
  have H := H1
  clear H1
  obtain rfl := Option.some.inj H
  go_wp2
  repeat (go_quiet (fail); try go_wp2)
  go_ret
  exact ⟨zE, zB⟩
 replace c18 := Bool.eq_false_iff.mpr c18
 subst c18
 have H1 : (if (mn a0_3 a0_4) < 0 then (some 10) else (if (mx a0_3 a0_4) > 1000000 then (some 10) else (path_Check.l0 kj11 1 a0_0 a0_1 l0_2 a0_3 a0_4 l0_5))) = some r := by rw [if_neg (show ¬ (false = true) by decide)] at H; exact H
 clear H
 have H := H1
 clear H1
 obtain ⟨ji19, hji19⟩ : ∃ j_ : Int, (mn a0_3 a0_4) = j_ := ⟨_, rfl⟩
 replace H : (if (ji19) < 0 then (some 10) else (if (mx a0_3 a0_4) > 1000000 then (some 10) else (path_Check.l0 kj11 1 a0_0 a0_1 l0_2 a0_3 a0_4 l0_5))) = some r := by first | (rw [hji19] at H; exact H) | (simp only [hji19] at H ⊢; exact H)
 have hji19_ : (if a0_4 < a0_3 then a0_4 else a0_3) = ji19 := hji19
 by_cases c20 : (ji19) < 0
 ·
  rw [if_pos c20] at H
  have c20b0 : decide ((ji19) < 0) = true := decide_eq_true c20
  clear c20
  obtain rfl := Option.some.inj H
  have hcz21_0 : wc.cell? ⟨gb325, 0, none⟩ = some (.int .u32 a0_0) := zT BK325 0
  have hcz21_1 : wc.cell? ⟨gb325, 1, none⟩ = some (.int .i64 a0_1) := zT BK325 1
  have hcz21_2 : wc.cell? ⟨gb325, 2, none⟩ = some (.slice A0_2 l0_2.length c0_2) := zT BK325 2
  have hcz21_3 : wc.cell? ⟨gb325, 3, none⟩ = some (.int .i64 a0_3) := zT BK325 3
  have hcz21_4 : wc.cell? ⟨gb325, 4, none⟩ = some (.int .i64 a0_4) := zT BK325 4
  have hcz21_5 : wc.cell? ⟨gb325, 5, none⟩ = some (.slice A0_5 l0_5.length c0_5) := zT BK325 5
  have hfz21_0 := blk_frozen BK325.out 0
  have hfz21_1 := blk_frozen BK325.out 1
  have hfz21_2 := blk_frozen BK325.out 2
  have hfz21_3 := blk_frozen BK325.out 3
  have hfz21_4 := blk_frozen BK325.out 4
  have hfz21_5 := blk_frozen BK325.out 5
  go_wp2
  repeat (go_quiet (fail); try go_wp2)
  go_ret
  exact ⟨by first | rfl | (simp [errW_none, errW_some] <;> rfl) | (simp only [← hji19]; first | rfl | (simp [errW_none, errW_some] <;> rfl)) | (simp [*, errW_none, errW_some] <;> rfl), zB⟩
 rw [if_neg c20] at H
 have c20b0 : decide ((ji19) < 0) = false := decide_eq_false c20
 clear c20
 obtain ⟨ji22, hji22⟩ : ∃ j_ : Int, (mx a0_3 a0_4) = j_ := ⟨_, rfl⟩
 replace H : (if (ji22) > 1000000 then (some 10) else (path_Check.l0 kj11 1 a0_0 a0_1 l0_2 a0_3 a0_4 l0_5)) = some r := by first | (rw [hji22] at H; exact H) | (simp only [hji22] at H ⊢; exact H)
 have hji22_ : (if a0_3 < a0_4 then a0_4 else a0_3) = ji22 := hji22
 by_cases c23 : (ji22) > 1000000
 ·
  rw [if_pos c23] at H
  have c23b0 : decide (1000000 < (ji22)) = true := decide_eq_true c23
  clear c23
  obtain rfl := Option.some.inj H
  have hcz24_0 : wc.cell? ⟨gb325, 0, none⟩ = some (.int .u32 a0_0) := zT BK325 0
  have hcz24_1 : wc.cell? ⟨gb325, 1, none⟩ = some (.int .i64 a0_1) := zT BK325 1
  have hcz24_2 : wc.cell? ⟨gb325, 2, none⟩ = some (.slice A0_2 l0_2.length c0_2) := zT BK325 2
  have hcz24_3 : wc.cell? ⟨gb325, 3, none⟩ = some (.int .i64 a0_3) := zT BK325 3
  have hcz24_4 : wc.cell? ⟨gb325, 4, none⟩ = some (.int .i64 a0_4) := zT BK325 4
  have hcz24_5 : wc.cell? ⟨gb325, 5, none⟩ = some (.slice A0_5 l0_5.length c0_5) := zT BK325 5
  have hfz24_0 := blk_frozen BK325.out 0
  have hfz24_1 := blk_frozen BK325.out 1
  have hfz24_2 := blk_frozen BK325.out 2
  have hfz24_3 := blk_frozen BK325.out 3
  have hfz24_4 := blk_frozen BK325.out 4
  have hfz24_5 := blk_frozen BK325.out 5
  go_wp2
  repeat (go_quiet (fail); try go_wp2)
  go_ret
  exact ⟨by first | rfl | (simp [errW_none, errW_some] <;> rfl) | (simp only [← hji19, ← hji22]; first | rfl | (simp [errW_none, errW_some] <;> rfl)) | (simp [*, errW_none, errW_some] <;> rfl), zB⟩
 rw [if_neg c23] at H
 have c23b0 : decide (1000000 < (ji22)) = false := decide_eq_false c23
 clear c23
 have H' := Aside0.mk H
 clear H
 have hcz25_0 : wc.cell? ⟨gb325, 0, none⟩ = some (.int .u32 a0_0) := zT BK325 0
 have hcz25_1 : wc.cell? ⟨gb325, 1, none⟩ = some (.int .i64 a0_1) := zT BK325 1
 have hcz25_2 : wc.cell? ⟨gb325, 2, none⟩ = some (.slice A0_2 l0_2.length c0_2) := zT BK325 2
 have hcz25_3 : wc.cell? ⟨gb325, 3, none⟩ = some (.int .i64 a0_3) := zT BK325 3
 have hcz25_4 : wc.cell? ⟨gb325, 4, none⟩ = some (.int .i64 a0_4) := zT BK325 4
 have hcz25_5 : wc.cell? ⟨gb325, 5, none⟩ = some (.slice A0_5 l0_5.length c0_5) := zT BK325 5
 have hfz25_0 := blk_frozen BK325.out 0
 have hfz25_1 := blk_frozen BK325.out 1
 have hfz25_2 := blk_frozen BK325.out 2
 have hfz25_3 := blk_frozen BK325.out 3
 have hfz25_4 := blk_frozen BK325.out 4
 have hfz25_5 := blk_frozen BK325.out 5
 go_wp2
 repeat (go_quiet (fail); try go_wp2)
 go_loopg [5] kj11 (fun kq v5 w' => ∃ (x5_3 : Int), v5 = .int .i64 x5_3 ∧ Aside0 (path_Check.l0 kq x5_3 a0_0 a0_1 l0_2 a0_3 a0_4 l0_5 = some r) ∧ Aside0 (kq ≤ kj11) ∧ Aside0 (w'.heap[gb325]? = some (.cells #[.int .u32 a0_0, .int .i64 a0_1, (.slice A0_2 l0_2.length c0_2), .int .i64 a0_3, .int .i64 a0_4, (.slice A0_5 l0_5.length c0_5)] 31 (0, 0))) ∧ Aside0 (Below w.heap.size w w'))
 case atStart => exact ⟨(1), zR, H', ⟨Nat.le_refl _⟩, ⟨zK BK325⟩, ⟨zB⟩⟩
 clear H'
 try clear c1
 try clear c2
 try clear p2
 try clear c3
 try clear c3b0
 try clear c3b1
 try clear c8
 try clear c8b0
 try clear c8b1
 try clear c11
 try clear c14
 try clear c18
 try clear c20
 try clear c20b0
 try clear c23
 try clear c23b0
 try clear hcz10_0
 try clear hcz10_1
 try clear hcz10_2
 try clear hcz10_3
 try clear hcz10_4
 try clear hcz10_5
 try clear hcz15_0
 try clear hcz15_1
 try clear hcz15_2
 try clear hcz15_3
 try clear hcz15_4
 try clear hcz15_5
 try clear hcz17_0
 try clear hcz17_1
 try clear hcz17_2
 try clear hcz17_3
 try clear hcz17_4
 try clear hcz17_5
 try clear hcz21_0
 try clear hcz21_1
 try clear hcz21_2
 try clear hcz21_3
 try clear hcz21_4
 try clear hcz21_5
 try clear hcz24_0
 try clear hcz24_1
 try clear hcz24_2
 try clear hcz24_3
 try clear hcz24_4
 try clear hcz24_5
 try clear hcz25_0
 try clear hcz25_1
 try clear hcz25_2
 try clear hcz25_3
 try clear hcz25_4
 try clear hcz25_5
 try clear hcz6_0
 try clear hcz6_1
 try clear hcz6_2
 try clear hcz6_3
 try clear hcz6_4
 try clear hcz6_5
 try clear hcz9_0
 try clear hcz9_1
 try clear hcz9_2
 try clear hcz9_3
 try clear hcz9_4
 try clear hcz9_5
 try clear hfz10_0
 try clear hfz10_1
 try clear hfz10_2
 try clear hfz10_3
 try clear hfz10_4
 try clear hfz10_5
 try clear hfz15_0
 try clear hfz15_1
 try clear hfz15_2
 try clear hfz15_3
 try clear hfz15_4
 try clear hfz15_5
 try clear hfz17_0
 try clear hfz17_1
 try clear hfz17_2
 try clear hfz17_3
 try clear hfz17_4
 try clear hfz17_5
 try clear hfz21_0
 try clear hfz21_1
 try clear hfz21_2
 try clear hfz21_3
 try clear hfz21_4
 try clear hfz21_5
 try clear hfz24_0
 try clear hfz24_1
 try clear hfz24_2
 try clear hfz24_3
 try clear hfz24_4
 try clear hfz24_5
 try clear hfz25_0
 try clear hfz25_1
 try clear hfz25_2
 try clear hfz25_3
 try clear hfz25_4
 try clear hfz25_5
 try clear hfz6_0
 try clear hfz6_1
 try clear hfz6_2
 try clear hfz6_3
 try clear hfz6_4
 try clear hfz6_5
 try clear hfz9_0
 try clear hfz9_1
 try clear hfz9_2
 try clear hfz9_3
 try clear hfz9_4
 try clear hfz9_5
 try clear p2
 obtain ⟨x5_3, rfl, HA, HK3, BK325, HB⟩ := hrel
 rcases gk with _ | k3
 · exact absurd HA.out (by simp [path_Check.l0])
 have H := HA.out
 clear HA
 simp only [path_Check.l0] at H
 by_cases c26 : x5_3 < (l0_5.length : Int)
 rotate_left
 ·
  rw [if_neg c26] at H
  have c26b0 : decide (x5_3 < (l0_5.length : Int)) = false := decide_eq_false c26
  clear c26
  obtain rfl := Option.some.inj H
  have hcz34_0 : wr.cell? ⟨gb325, 0, none⟩ = some (.int .u32 a0_0) := zT BK325 0
  have hcz34_1 : wr.cell? ⟨gb325, 1, none⟩ = some (.int .i64 a0_1) := zT BK325 1
  have hcz34_2 : wr.cell? ⟨gb325, 2, none⟩ = some (.slice A0_2 l0_2.length c0_2) := zT BK325 2
  have hcz34_3 : wr.cell? ⟨gb325, 3, none⟩ = some (.int .i64 a0_3) := zT BK325 3
  have hcz34_4 : wr.cell? ⟨gb325, 4, none⟩ = some (.int .i64 a0_4) := zT BK325 4
  have hcz34_5 : wr.cell? ⟨gb325, 5, none⟩ = some (.slice A0_5 l0_5.length c0_5) := zT BK325 5
  have hfz34_0 := blk_frozen BK325.out 0
  have hfz34_1 := blk_frozen BK325.out 1
  have hfz34_2 := blk_frozen BK325.out 2
  have hfz34_3 := blk_frozen BK325.out 3
  have hfz34_4 := blk_frozen BK325.out 4
  have hfz34_5 := blk_frozen BK325.out 5
  go_wp2
  repeat (go_quiet (fail); try go_wp2)
  go_ret
  exact ⟨by first | rfl | (simp [errW_none, errW_some] <;> rfl) | (simp only [← hji19, ← hji22]; first | rfl | (simp [errW_none, errW_some] <;> rfl)) | (simp [*, errW_none, errW_some] <;> rfl), zB⟩
 rw [if_pos c26] at H
 have c26b0 : decide (x5_3 < (l0_5.length : Int)) = true := decide_eq_true c26
 clear c26
 obtain ⟨ji27, hji27⟩ : ∃ j_ : Int, (wrap64 (x5_3 - 1)) = j_ := ⟨_, rfl⟩
 replace H : (if 0 ≤ (ji27) then (if (ji27) < (l0_5.length : Int) then (if 0 ≤ x5_3 then (if (rd l0_5 (ji27)) ≥ (rd l0_5 x5_3) then (some 3) else (path_Check.l0 k3 (wrap64 (x5_3 + 1)) a0_0 a0_1 l0_2 a0_3 a0_4 l0_5)) else (none)) else (none)) else (none)) = some r := by first | (rw [hji27] at H; exact H) | (simp only [hji27] at H ⊢; exact H)
 have hji27w : (IntKind.i64.wrap (x5_3 - 1)) = ji27 := (i64_w _).trans hji27
 by_cases c28 : 0 ≤ (ji27)
 rotate_left
 · rw [if_neg c28] at H; exact absurd H (by simp)
 rw [if_pos c28] at H
 have c28b0 : decide (0 ≤ (ji27)) = true := decide_eq_true c28
 clear c28
 by_cases c29 : (ji27) < (l0_5.length : Int)
 rotate_left
 · rw [if_neg c29] at H; exact absurd H (by simp)
 rw [if_pos c29] at H
 have c29b0 : decide ((ji27) < (l0_5.length : Int)) = true := decide_eq_true c29
 clear c29
 by_cases c30 : 0 ≤ x5_3
 rotate_left
 · rw [if_neg c30] at H; exact absurd H (by simp)
 rw [if_pos c30] at H
 have c30b0 : decide (0 ≤ x5_3) = true := decide_eq_true c30
 clear c30
 by_cases c31 : (rd l0_5 (ji27)) ≥ (rd l0_5 x5_3)
 ·
  rw [if_pos c31] at H
  have c31b0 : decide ((rd l0_5 x5_3) ≤ (rd l0_5 (ji27))) = true := decide_eq_true c31
  clear c31
  obtain rfl := Option.some.inj H
  have hcz32_0 : wr.cell? ⟨gb325, 0, none⟩ = some (.int .u32 a0_0) := zT BK325 0
  have hcz32_1 : wr.cell? ⟨gb325, 1, none⟩ = some (.int .i64 a0_1) := zT BK325 1
  have hcz32_2 : wr.cell? ⟨gb325, 2, none⟩ = some (.slice A0_2 l0_2.length c0_2) := zT BK325 2
  have hcz32_3 : wr.cell? ⟨gb325, 3, none⟩ = some (.int .i64 a0_3) := zT BK325 3
  have hcz32_4 : wr.cell? ⟨gb325, 4, none⟩ = some (.int .i64 a0_4) := zT BK325 4
  have hcz32_5 : wr.cell? ⟨gb325, 5, none⟩ = some (.slice A0_5 l0_5.length c0_5) := zT BK325 5
  have hfz32_0 := blk_frozen BK325.out 0
  have hfz32_1 := blk_frozen BK325.out 1
  have hfz32_2 := blk_frozen BK325.out 2
  have hfz32_3 := blk_frozen BK325.out 3
  have hfz32_4 := blk_frozen BK325.out 4
  have hfz32_5 := blk_frozen BK325.out 5
  have p329 : 0 ≤ ((ji27) : Int) := od
  have q329 : (ji27) < (l0_5.length : Int) := od
  obtain ⟨ad329, e329, hx329_0⟩ := Kd.at_int HR0_5.out (ji27) p329 q329
  cases e329
  replace hx329_0 := zL HB hx329_0
  replace p329 := eq_true p329
  replace q329 := eq_true q329
  have p330 : 0 ≤ (x5_3 : Int) := od
  have q330 : x5_3 < (l0_5.length : Int) := od
  obtain ⟨ad330, e330, hx330_0⟩ := Kd.at_int HR0_5.out x5_3 p330 q330
  obtain rfl : ad329 = ad330 := (by injection e330)
  replace hx330_0 := zL HB hx330_0
  replace p330 := eq_true p330
  replace q330 := eq_true q330
  go_wp2
  repeat (go_quiet (fail); try go_wp2)
  go_ret
  exact ⟨by first | rfl | (simp [errW_none, errW_some] <;> rfl) | (simp only [← hji19, ← hji22, ← hji27]; first | rfl | (simp [errW_none, errW_some] <;> rfl)) | (simp [*, errW_none, errW_some] <;> rfl), zB⟩
 rw [if_neg c31] at H
 have c31b0 : decide ((rd l0_5 x5_3) ≤ (rd l0_5 (ji27))) = false := decide_eq_false c31
 clear c31
 have H' := Aside0.mk H
 clear H
 have hcz33_0 : wr.cell? ⟨gb325, 0, none⟩ = some (.int .u32 a0_0) := zT BK325 0
 have hcz33_1 : wr.cell? ⟨gb325, 1, none⟩ = some (.int .i64 a0_1) := zT BK325 1
 have hcz33_2 : wr.cell? ⟨gb325, 2, none⟩ = some (.slice A0_2 l0_2.length c0_2) := zT BK325 2
 have hcz33_3 : wr.cell? ⟨gb325, 3, none⟩ = some (.int .i64 a0_3) := zT BK325 3
 have hcz33_4 : wr.cell? ⟨gb325, 4, none⟩ = some (.int .i64 a0_4) := zT BK325 4
 have hcz33_5 : wr.cell? ⟨gb325, 5, none⟩ = some (.slice A0_5 l0_5.length c0_5) := zT BK325 5
 have hfz33_0 := blk_frozen BK325.out 0
 have hfz33_1 := blk_frozen BK325.out 1
 have hfz33_2 := blk_frozen BK325.out 2
 have hfz33_3 := blk_frozen BK325.out 3
 have hfz33_4 := blk_frozen BK325.out 4
 have hfz33_5 := blk_frozen BK325.out 5
 have p329 : 0 ≤ ((ji27) : Int) := od
 have q329 : (ji27) < (l0_5.length : Int) := od
 obtain ⟨ad329, e329, hx329_0⟩ := Kd.at_int HR0_5.out (ji27) p329 q329
 cases e329
 replace hx329_0 := zL HB hx329_0
 replace p329 := eq_true p329
 replace q329 := eq_true q329
 have p330 : 0 ≤ (x5_3 : Int) := od
 have q330 : x5_3 < (l0_5.length : Int) := od
 obtain ⟨ad330, e330, hx330_0⟩ := Kd.at_int HR0_5.out x5_3 p330 q330
 obtain rfl : ad329 = ad330 := (by injection e330)
 replace hx330_0 := zL HB hx330_0
 replace p330 := eq_true p330
 replace q330 := eq_true q330
 go_wp2
 repeat (go_quiet (fail); try go_wp2)
 go_roundg k3
 case measure => have := HJ3.out; have := HJ11.out; have := HK3.out; omega
 case rel => exact ⟨(wrap64 (x5_3 + 1)), zR, H', ⟨by have := HJ3.out; have := HJ11.out; have := HK3.out; omega⟩, ⟨zK BK325⟩, ⟨zB⟩⟩
/-! ### path_wrong: function 29 -/
def path_wrong.f (k : Nat) (a0_0 : Int) (a0_1 : Int) (l0_2 : List Int) (a0_3 : Int) (a0_4 : Int) (l0_5 : List Int) (a1 : Int) : Option (Int) := (path_Check.f k a0_0 a0_1 l0_2 a0_3 a0_4 l0_5).bind fun t332 => (if t332 = 0 then (if a1 < 1 then (some 10) else (if a1 > 65535 then (some 10) else (some 0))) else (some t332))
theorem path_wrong.mono : ∀ a0 a1 a2 a3 a4 a5 a6 k, LeO (path_wrong.f k a0 a1 a2 a3 a4 a5 a6) (path_wrong.f (k + 1) a0 a1 a2 a3 a4 a5 a6) := by
  intro a0 a1 a2 a3 a4 a5 a6 k
  unfold path_wrong.f
  repeat' (with_reducible first | exact path_Check.mono _ _ _ _ _ _ _ | exact LeO.refl _ | exact LeO.none _ | refine LeO.ite ?_ ?_ | refine LeO.bind ?_ (fun _ => ?_))
set_option maxHeartbeats 8000000 in
set_option maxRecDepth 100000 in
theorem path_wrong.calls (k : Nat) (a0_0 : Int) (a0_1 : Int) (A0_2 : Option Addr) (c0_2 : Nat) (l0_2 : List Int) (a0_3 : Int) (a0_4 : Int) (A0_5 : Option Addr) (c0_5 : Nat) (l0_5 : List Int) (a1 : Int) (r : Int) (w : World) (hr0_2 : Kd.C (Kd.int .i64) w A0_2 l0_2.length l0_2) (hc0_2 : l0_2.length ≤ c0_2) (hr0_5 : Kd.C (Kd.int .i64) w A0_5 l0_5.length l0_5) (hc0_5 : l0_5.length ≤ c0_5) (h : path_wrong.f k a0_0 a0_1 l0_2 a0_3 a0_4 l0_5 a1 = some r) :
 Calls Tryd.prog 29 #[.agg #[.int .u32 a0_0, .int .i64 a0_1, .slice A0_2 l0_2.length c0_2, .int .i64 a0_3, .int .i64 a0_4, .slice A0_5 l0_5.length c0_5], .int .i64 a1] w fun e w' => e = .returned (.int .i64 r) ∧ Below w.heap.size w w' := by
 have hu31 := Tryd.underlying31
 have HR0_2 := Aside0.mk hr0_2
 have HC0_2 := Aside0.mk hc0_2
 clear hr0_2 hc0_2
 have HR0_5 := Aside0.mk hr0_5
 have HC0_5 := Aside0.mk hc0_5
 clear hr0_5 hc0_5
 have HB := Aside0.mk (Below.refl w.heap.size w)
 have H : ((path_Check.f k a0_0 a0_1 l0_2 a0_3 a0_4 l0_5).bind fun t332 => (if t332 = 0 then (if a1 < 1 then (some 10) else (if a1 > 65535 then (some 10) else (some 0))) else (some t332))) = some r := h
 clear h
 replace H := Option.bind_eq_some_iff.mp H
 obtain ⟨t332, A30, H⟩ := H
 replace H : (if t332 = 0 then (if a1 < 1 then (some 10) else (if a1 > 65535 then (some 10) else (some 0))) else (some t332)) = some r := H
 have A3 := Aside0.mk A30
 clear A30
 by_cases c4 : t332 = 0
 rotate_left
 ·
  rw [if_neg c4] at H
  have c4b0 : (t332 == 0) = false := beq_eq_false_iff_ne.mpr c4
  have c4b1 : (t332 != 0) = true := bne_iff_ne.mpr c4
  obtain rfl := Option.some.inj H
  go_enter Tryd.func29, Tryd.ntmps29
  go_wp2_with (first | ((with_reducible refine gate_dst (N := 2) rfl ?_); refine bx 2 (#[.int .u32 a0_0, .int .i64 a0_1, .slice A0_2 l0_2.length c0_2, .int .i64 a0_3, .int .i64 a0_4, .slice A0_5 l0_5.length c0_5]) 31 ?_; intro gb331 hg w16 hbox hb; have n0_ := Aside0.mk (below_step zB hb); have n1_ := Aside0.mk (hbox); have n2_ := Aside0.mk ((zG hg : w.heap.size ≤ gb331)); have n3_ := Aside0.mk ((zG hg : w.heap.size ≤ gb331)); clear HB; have HB := n0_; have BK331 := n1_; have GW331 := n2_; have GE331 := n3_; clear n0_ n1_ n2_ n3_; clear hb hbox hg; have hcz17_0 : w16.cell? ⟨gb331, 0, none⟩ = some (.int .u32 a0_0) := zT BK331 0; have hcz17_1 : w16.cell? ⟨gb331, 1, none⟩ = some (.int .i64 a0_1) := zT BK331 1; have hcz17_2 : w16.cell? ⟨gb331, 2, none⟩ = some (.slice A0_2 l0_2.length c0_2) := zT BK331 2; have hcz17_3 : w16.cell? ⟨gb331, 3, none⟩ = some (.int .i64 a0_3) := zT BK331 3; have hcz17_4 : w16.cell? ⟨gb331, 4, none⟩ = some (.int .i64 a0_4) := zT BK331 4; have hcz17_5 : w16.cell? ⟨gb331, 5, none⟩ = some (.slice A0_5 l0_5.length c0_5) := zT BK331 5; have hfz17_0 := blk_frozen BK331.out 0; have hfz17_1 := blk_frozen BK331.out 1; have hfz17_2 := blk_frozen BK331.out 2; have hfz17_3 := blk_frozen BK331.out 3; have hfz17_4 := blk_frozen BK331.out 4; have hfz17_5 := blk_frozen BK331.out 5) | ((with_reducible refine gate_callee (f := 34) rfl ?_); refine goesL_ (some 7) rfl rfl Tryd.func34 (by kernel_rfl) rfl #[.agg #[.int .u32 a0_0, .int .i64 a0_1, .slice A0_2 l0_2.length c0_2, .int .i64 a0_3, .int .i64 a0_4, .slice A0_5 l0_5.length c0_5]] rfl zM ?_; (with_reducible refine (path_Check.calls k a0_0 a0_1 _ _ l0_2 a0_3 a0_4 _ _ l0_5 t332 _ ?side1 ?side2 ?side3 ?side4 A3.out).mono ?_); (case side1 => exact zC HR0_2 HB); (case side2 => exact HC0_2.out); (case side3 => exact zC HR0_5 HB); (case side4 => exact HC0_5.out); rintro e w18 ⟨rfl, hb⟩; refine ⟨_, rfl, ?_⟩; have n0_ := Aside0.mk (blk_below (g := gb331) (o := .cells #[.int .u32 a0_0, .int .i64 a0_1, .slice A0_2 l0_2.length c0_2, .int .i64 a0_3, .int .i64 a0_4, .slice A0_5 l0_5.length c0_5] 31 (0, 0)) (zK BK331) hb); have n1_ := Aside0.mk (below_step zB hb); clear BK331; clear HB; have BK331 := n0_; have HB := n1_; clear n0_ n1_; (try clear hb); (try clear hb2); (try clear hk); (try clear hi)))
  go_ret
  exact ⟨zE, zB⟩
 rw [if_pos c4] at H
 have c4b0 : (t332 == 0) = true := beq_iff_eq.mpr c4
 have c4b1 : (t332 != 0) = false := bne_eq_false_iff_eq.mpr c4
 clear c4
 by_cases c5 : a1 < 1
 ·
  rw [if_pos c5] at H
  have c5b0 : decide (a1 < 1) = true := decide_eq_true c5
  clear c5
  obtain rfl := Option.some.inj H
  go_enter Tryd.func29, Tryd.ntmps29
  go_wp2_with (first | ((with_reducible refine gate_dst (N := 2) rfl ?_); refine bx 2 (#[.int .u32 a0_0, .int .i64 a0_1, .slice A0_2 l0_2.length c0_2, .int .i64 a0_3, .int .i64 a0_4, .slice A0_5 l0_5.length c0_5]) 31 ?_; intro gb331 hg w6 hbox hb; have n0_ := Aside0.mk (below_step zB hb); have n1_ := Aside0.mk (hbox); have n2_ := Aside0.mk ((zG hg : w.heap.size ≤ gb331)); have n3_ := Aside0.mk ((zG hg : w.heap.size ≤ gb331)); clear HB; have HB := n0_; have BK331 := n1_; have GW331 := n2_; have GE331 := n3_; clear n0_ n1_ n2_ n3_; clear hb hbox hg; have hcz7_0 : w6.cell? ⟨gb331, 0, none⟩ = some (.int .u32 a0_0) := zT BK331 0; have hcz7_1 : w6.cell? ⟨gb331, 1, none⟩ = some (.int .i64 a0_1) := zT BK331 1; have hcz7_2 : w6.cell? ⟨gb331, 2, none⟩ = some (.slice A0_2 l0_2.length c0_2) := zT BK331 2; have hcz7_3 : w6.cell? ⟨gb331, 3, none⟩ = some (.int .i64 a0_3) := zT BK331 3; have hcz7_4 : w6.cell? ⟨gb331, 4, none⟩ = some (.int .i64 a0_4) := zT BK331 4; have hcz7_5 : w6.cell? ⟨gb331, 5, none⟩ = some (.slice A0_5 l0_5.length c0_5) := zT BK331 5; have hfz7_0 := blk_frozen BK331.out 0; have hfz7_1 := blk_frozen BK331.out 1; have hfz7_2 := blk_frozen BK331.out 2; have hfz7_3 := blk_frozen BK331.out 3; have hfz7_4 := blk_frozen BK331.out 4; have hfz7_5 := blk_frozen BK331.out 5) | ((with_reducible refine gate_callee (f := 34) rfl ?_); refine goesL_ (some 7) rfl rfl Tryd.func34 (by kernel_rfl) rfl #[.agg #[.int .u32 a0_0, .int .i64 a0_1, .slice A0_2 l0_2.length c0_2, .int .i64 a0_3, .int .i64 a0_4, .slice A0_5 l0_5.length c0_5]] rfl zM ?_; (with_reducible refine (path_Check.calls k a0_0 a0_1 _ _ l0_2 a0_3 a0_4 _ _ l0_5 t332 _ ?side1 ?side2 ?side3 ?side4 A3.out).mono ?_); (case side1 => exact zC HR0_2 HB); (case side2 => exact HC0_2.out); (case side3 => exact zC HR0_5 HB); (case side4 => exact HC0_5.out); rintro e w8 ⟨rfl, hb⟩; refine ⟨_, rfl, ?_⟩; have n0_ := Aside0.mk (blk_below (g := gb331) (o := .cells #[.int .u32 a0_0, .int .i64 a0_1, .slice A0_2 l0_2.length c0_2, .int .i64 a0_3, .int .i64 a0_4, .slice A0_5 l0_5.length c0_5] 31 (0, 0)) (zK BK331) hb); have n1_ := Aside0.mk (below_step zB hb); clear BK331; clear HB; have BK331 := n0_; have HB := n1_; clear n0_ n1_; (try clear hb); (try clear hb2); (try clear hk); (try clear hi)))
  go_ret
  exact ⟨zE, zB⟩
 rw [if_neg c5] at H
 have c5b0 : decide (a1 < 1) = false := decide_eq_false c5
 clear c5
 by_cases c9 : a1 > 65535
 ·
  rw [if_pos c9] at H
  have c9b0 : decide (65535 < a1) = true := decide_eq_true c9
  clear c9
  obtain rfl := Option.some.inj H
  go_enter Tryd.func29, Tryd.ntmps29
  go_wp2_with (first | ((with_reducible refine gate_dst (N := 2) rfl ?_); refine bx 2 (#[.int .u32 a0_0, .int .i64 a0_1, .slice A0_2 l0_2.length c0_2, .int .i64 a0_3, .int .i64 a0_4, .slice A0_5 l0_5.length c0_5]) 31 ?_; intro gb331 hg w10 hbox hb; have n0_ := Aside0.mk (below_step zB hb); have n1_ := Aside0.mk (hbox); have n2_ := Aside0.mk ((zG hg : w.heap.size ≤ gb331)); have n3_ := Aside0.mk ((zG hg : w.heap.size ≤ gb331)); clear HB; have HB := n0_; have BK331 := n1_; have GW331 := n2_; have GE331 := n3_; clear n0_ n1_ n2_ n3_; clear hb hbox hg; have hcz11_0 : w10.cell? ⟨gb331, 0, none⟩ = some (.int .u32 a0_0) := zT BK331 0; have hcz11_1 : w10.cell? ⟨gb331, 1, none⟩ = some (.int .i64 a0_1) := zT BK331 1; have hcz11_2 : w10.cell? ⟨gb331, 2, none⟩ = some (.slice A0_2 l0_2.length c0_2) := zT BK331 2; have hcz11_3 : w10.cell? ⟨gb331, 3, none⟩ = some (.int .i64 a0_3) := zT BK331 3; have hcz11_4 : w10.cell? ⟨gb331, 4, none⟩ = some (.int .i64 a0_4) := zT BK331 4; have hcz11_5 : w10.cell? ⟨gb331, 5, none⟩ = some (.slice A0_5 l0_5.length c0_5) := zT BK331 5; have hfz11_0 := blk_frozen BK331.out 0; have hfz11_1 := blk_frozen BK331.out 1; have hfz11_2 := blk_frozen BK331.out 2; have hfz11_3 := blk_frozen BK331.out 3; have hfz11_4 := blk_frozen BK331.out 4; have hfz11_5 := blk_frozen BK331.out 5) | ((with_reducible refine gate_callee (f := 34) rfl ?_); refine goesL_ (some 7) rfl rfl Tryd.func34 (by kernel_rfl) rfl #[.agg #[.int .u32 a0_0, .int .i64 a0_1, .slice A0_2 l0_2.length c0_2, .int .i64 a0_3, .int .i64 a0_4, .slice A0_5 l0_5.length c0_5]] rfl zM ?_; (with_reducible refine (path_Check.calls k a0_0 a0_1 _ _ l0_2 a0_3 a0_4 _ _ l0_5 t332 _ ?side1 ?side2 ?side3 ?side4 A3.out).mono ?_); (case side1 => exact zC HR0_2 HB); (case side2 => exact HC0_2.out); (case side3 => exact zC HR0_5 HB); (case side4 => exact HC0_5.out); rintro e w12 ⟨rfl, hb⟩; refine ⟨_, rfl, ?_⟩; have n0_ := Aside0.mk (blk_below (g := gb331) (o := .cells #[.int .u32 a0_0, .int .i64 a0_1, .slice A0_2 l0_2.length c0_2, .int .i64 a0_3, .int .i64 a0_4, .slice A0_5 l0_5.length c0_5] 31 (0, 0)) (zK BK331) hb); have n1_ := Aside0.mk (below_step zB hb); clear BK331; clear HB; have BK331 := n0_; have HB := n1_; clear n0_ n1_; (try clear hb); (try clear hb2); (try clear hk); (try clear hi)))
  go_ret
  exact ⟨zE, zB⟩
 rw [if_neg c9] at H
 have c9b0 : decide (65535 < a1) = false := decide_eq_false c9
 clear c9
 obtain rfl := Option.some.inj H
 go_enter Tryd.func29, Tryd.ntmps29
 go_wp2_with (first | ((with_reducible refine gate_dst (N := 2) rfl ?_); refine bx 2 (#[.int .u32 a0_0, .int .i64 a0_1, .slice A0_2 l0_2.length c0_2, .int .i64 a0_3, .int .i64 a0_4, .slice A0_5 l0_5.length c0_5]) 31 ?_; intro gb331 hg w13 hbox hb; have n0_ := Aside0.mk (below_step zB hb); have n1_ := Aside0.mk (hbox); have n2_ := Aside0.mk ((zG hg : w.heap.size ≤ gb331)); have n3_ := Aside0.mk ((zG hg : w.heap.size ≤ gb331)); clear HB; have HB := n0_; have BK331 := n1_; have GW331 := n2_; have GE331 := n3_; clear n0_ n1_ n2_ n3_; clear hb hbox hg; have hcz14_0 : w13.cell? ⟨gb331, 0, none⟩ = some (.int .u32 a0_0) := zT BK331 0; have hcz14_1 : w13.cell? ⟨gb331, 1, none⟩ = some (.int .i64 a0_1) := zT BK331 1; have hcz14_2 : w13.cell? ⟨gb331, 2, none⟩ = some (.slice A0_2 l0_2.length c0_2) := zT BK331 2; have hcz14_3 : w13.cell? ⟨gb331, 3, none⟩ = some (.int .i64 a0_3) := zT BK331 3; have hcz14_4 : w13.cell? ⟨gb331, 4, none⟩ = some (.int .i64 a0_4) := zT BK331 4; have hcz14_5 : w13.cell? ⟨gb331, 5, none⟩ = some (.slice A0_5 l0_5.length c0_5) := zT BK331 5; have hfz14_0 := blk_frozen BK331.out 0; have hfz14_1 := blk_frozen BK331.out 1; have hfz14_2 := blk_frozen BK331.out 2; have hfz14_3 := blk_frozen BK331.out 3; have hfz14_4 := blk_frozen BK331.out 4; have hfz14_5 := blk_frozen BK331.out 5) | ((with_reducible refine gate_callee (f := 34) rfl ?_); refine goesL_ (some 7) rfl rfl Tryd.func34 (by kernel_rfl) rfl #[.agg #[.int .u32 a0_0, .int .i64 a0_1, .slice A0_2 l0_2.length c0_2, .int .i64 a0_3, .int .i64 a0_4, .slice A0_5 l0_5.length c0_5]] rfl zM ?_; (with_reducible refine (path_Check.calls k a0_0 a0_1 _ _ l0_2 a0_3 a0_4 _ _ l0_5 t332 _ ?side1 ?side2 ?side3 ?side4 A3.out).mono ?_); (case side1 => exact zC HR0_2 HB); (case side2 => exact HC0_2.out); (case side3 => exact zC HR0_5 HB); (case side4 => exact HC0_5.out); rintro e w15 ⟨rfl, hb⟩; refine ⟨_, rfl, ?_⟩; have n0_ := Aside0.mk (blk_below (g := gb331) (o := .cells #[.int .u32 a0_0, .int .i64 a0_1, .slice A0_2 l0_2.length c0_2, .int .i64 a0_3, .int .i64 a0_4, .slice A0_5 l0_5.length c0_5] 31 (0, 0)) (zK BK331) hb); have n1_ := Aside0.mk (below_step zB hb); clear BK331; clear HB; have BK331 := n0_; have HB := n1_; clear n0_ n1_; (try clear hb); (try clear hb2); (try clear hk); (try clear hi)))
 go_ret
 exact ⟨zE, zB⟩
end Go.Proofs.YtplcdbhklepkgaaDoor.PG
