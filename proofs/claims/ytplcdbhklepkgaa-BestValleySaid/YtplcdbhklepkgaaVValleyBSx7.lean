-- Made by gen.py, a program of this session's, over the kit's print.
import Derived.Test.YtplcdbhklepkgaaVValleyShort
import Derived.Test.YtplcdbhklepkgaaVValleyBSx0
import Derived.Test.YtplcdbhklepkgaaVValleyBSx2
import Derived.Test.YtplcdbhklepkgaaVValleyBSx5
import Derived.Test.YtplcdbhklepkgaaVValleyBSx6
namespace Go.Proofs.Ytplcdbhklepkgaa.BS
open Go.RowKit Go.Proofs.YtplcdbhklepkgaaW.PrintWords Go.Proofs.YtplcdbhklepkgaaW.PrintLast Go.Proofs.YtplcdbhklepkgaaW.PrintMore Go.Proofs.Ytplcdbhklepkgaa.GenWords
attribute [local go_sem] max2_int min2_int max_two min_two max_three min_three max_four min_four   -- for this text's walks alone
set_option linter.unusedVariables false
set_option linter.unusedSimpArgs false

/-! ### best_chosen: function 41 -/
mutual
def best_chosen.l0 : Nat → Int → List (S52) → Int → List (S52) → Int → Int → List S64 → Option (List Int)
  | 0, _, _, _, _, _, _, _ => none
  | k + 1, x1, x2, x7, x10, x11, x12, x209000 => if x12 < x11 then (if 0 ≤ x12 then (if x12 < (x10.length : Int) then (if 0 ≤ x1 then (if x1 < 16 then (if x12 < 16 then (if 16 * x1 + x12 < (x209000.length : Int) then (if ((rd_T64 x209000 (16 * x1 + x12)).f0) = 0 then (best_chosen.j1 k x1 x2 x7 x12 x10 x11 x12 true x209000 ((rd_T52 x10 x12).f0)) else (if (((rd_T52 x10 x12).f0).length : Int) = 0 then (best_chosen.j1 k x1 x2 x7 x12 x10 x11 x12 true x209000 ((rd_T52 x10 x12).f0)) else ((g15_.f k ((rd_T52 x10 x12).f0) x1).bind fun t224 => (if t224 = true then (best_chosen.j1 k x1 x2 x7 x12 x10 x11 x12 true x209000 ((rd_T52 x10 x12).f0)) else ((g25_.f x209000 ((rd_T52 x10 x12).f0) x1).bind fun t225 => (best_chosen.j1 k x1 x2 x7 x12 x10 x11 x12 (!t225) x209000 ((rd_T52 x10 x12).f0))))))) else (none)) else (none)) else (none)) else (none)) else (none)) else (none)) else (if x7 < 0 then (some ([] : List Int)) else (if 0 ≤ x7 then (if x7 < (x2.length : Int) then ((g14_.f k (([(([x1] : List Int)), (rd_T52 x2 x7).f0] : List (List Int)))).bind fun t218 => (some t218)) else (none)) else (none)))
def best_chosen.j1 : Nat → Int → List (S52) → Int → Int → List (S52) → Int → Int → Bool → List S64 → List Int → Option (List Int)
  | 0, _, _, _, _, _, _, _, _, _, _ => none
  | k + 1, x1, x2, x7, x8, x10, x11, x12, x45, x209000, x223000 => if x45 = true then (best_chosen.l0 k x1 x2 x7 x10 x11 (wrap64 (x12 + 1)) x209000) else (if x7 < 0 then (best_chosen.l0 k x1 x2 x8 x10 x11 (wrap64 (x12 + 1)) x209000) else (if 0 ≤ x1 then (if x1 < 16 then (if 0 ≤ x8 then (if x8 < 16 then (if 16 * x1 + x8 < (x209000.length : Int) then (if 0 ≤ x7 then (if x7 < 16 then (if 16 * x1 + x7 < (x209000.length : Int) then (if ((rd_T64 x209000 (16 * x1 + x8)).f1) > ((rd_T64 x209000 (16 * x1 + x7)).f1) then (best_chosen.l0 k x1 x2 x8 x10 x11 (wrap64 (x12 + 1)) x209000) else (if ((rd_T64 x209000 (16 * x1 + x8)).f1) = ((rd_T64 x209000 (16 * x1 + x7)).f1) then (if x7 < (x2.length : Int) then (if (x223000.length : Int) < (((rd_T52 x2 x7).f0).length : Int) then (best_chosen.l0 k x1 x2 x8 x10 x11 (wrap64 (x12 + 1)) x209000) else (best_chosen.l0 k x1 x2 x7 x10 x11 (wrap64 (x12 + 1)) x209000)) else (none)) else (best_chosen.l0 k x1 x2 x7 x10 x11 (wrap64 (x12 + 1)) x209000))) else (none)) else (none)) else (none)) else (none)) else (none)) else (none)) else (none)) else (none)))
end
def best_chosen.f (k : Nat) (a0_0 : List S64) (a1 : Int) (l2 : List (S52)) : Option (List Int) := best_chosen.l0 k a1 l2 (-1) l2 (l2.length : Int) 0 a0_0
theorem best_chosen.mono_l : ∀ k, (∀ y0 y1 y2 y3 y4 y5 y6, LeO (best_chosen.l0 k y0 y1 y2 y3 y4 y5 y6) (best_chosen.l0 (k + 1) y0 y1 y2 y3 y4 y5 y6)) ∧ (∀ y0 y1 y2 y3 y4 y5 y6 y7 y8 y9, LeO (best_chosen.j1 k y0 y1 y2 y3 y4 y5 y6 y7 y8 y9) (best_chosen.j1 (k + 1) y0 y1 y2 y3 y4 y5 y6 y7 y8 y9))
  | 0 => ⟨fun _ _ _ _ _ _ _ r h => by simp [best_chosen.l0] at h, fun _ _ _ _ _ _ _ _ _ _ r h => by simp [best_chosen.j1] at h⟩
  | k + 1 => by
    obtain ⟨ih0, ih1⟩ := best_chosen.mono_l k
    refine ⟨?_, ?_⟩
    · intro y0 y1 y2 y3 y4 y5 y6
      unfold best_chosen.l0
      repeat' (with_reducible first | exact ih0 _ _ _ _ _ _ _ | exact ih1 _ _ _ _ _ _ _ _ _ _ | exact g14_.mono _ _ | exact g15_.mono _ _ _ | exact LeO.refl _ | exact LeO.none _ | refine LeO.ite ?_ ?_ | refine LeO.bind ?_ (fun _ => ?_))
    · intro y0 y1 y2 y3 y4 y5 y6 y7 y8 y9
      unfold best_chosen.j1
      repeat' (with_reducible first | exact ih0 _ _ _ _ _ _ _ | exact ih1 _ _ _ _ _ _ _ _ _ _ | exact g14_.mono _ _ | exact g15_.mono _ _ _ | exact LeO.refl _ | exact LeO.none _ | refine LeO.ite ?_ ?_ | refine LeO.bind ?_ (fun _ => ?_))
theorem best_chosen.mono : ∀ a0 a1 a2 k, LeO (best_chosen.f k a0 a1 a2) (best_chosen.f (k + 1) a0 a1 a2) := by
  intro a0 a1 a2 k
  obtain ⟨ih0, ih1⟩ := best_chosen.mono_l k
  unfold best_chosen.f
  repeat' (with_reducible first | exact ih0 _ _ _ _ _ _ _ | exact ih1 _ _ _ _ _ _ _ _ _ _ | exact g14_.mono _ _ | exact g15_.mono _ _ _ | exact LeO.refl _ | exact LeO.none _ | refine LeO.ite ?_ ?_ | refine LeO.bind ?_ (fun _ => ?_))
def best_chosen.T6 : Bool × List (List Nat × List Nat) := (true, [([], []), ([0], [0]), ([1], [1]), ([2], [2]), ([2], [2]), ([2], [2]), ([3, 2], [2, 3]), ([6, 4, 2], [2, 4, 6]), ([7, 5, 2], [2, 5, 7]), ([8, 2], [2, 8]), ([9, 2], [2, 9]), ([2], [2]), ([2], [2]), ([2], [2]), ([11, 2], [2, 11]), ([14, 12, 2], [2, 12, 14]), ([15, 13, 2], [2, 13, 15]), ([16, 2], [2, 16]), ([17, 2], [2, 17]), ([10, 18, 2], [2, 10, 18]), ([2, 19], [2, 19]), ([20, 2], [20]), ([21], [21]), ([21], [21]), ([21], [21]), ([22, 21], [21, 22]), ([25, 23, 21], [21, 23, 25]), ([26, 24, 21], [21, 24, 26]), ([27, 21], [21, 27]), ([28, 21], [21, 28]), ([21], [21]), ([21], [21]), ([21], [21]), ([30, 21], [21, 30]), ([33, 31, 21], [21, 31, 33]), ([34, 32, 21], [21, 32, 34]), ([35, 21], [21, 35]), ([36, 21], [21, 36]), ([29, 37, 21], [21, 29, 37]), ([38, 21, 21], [21, 38]), ([39], [39]), ([40, 39], [39, 40]), ([41, 39], [39, 41]), ([39], [39]), ([39], [39]), ([43, 44, 39], [39, 43, 44]), ([45, 39], [39, 45]), ([46, 39], [39, 46]), ([47, 39], [39, 47]), ([42, 48, 39], [39, 42, 48]), ([39, 49, 21], [21, 39, 49]), ([21, 50], [21, 50])])
def best_chosen.B6 : List Nat := [0, 1, 3, 7, 7, 7, 15, 95, 255, 511, 1023, 7, 7, 7, 2055, 22535, 63495, 129031, 260103, 524287, 1048575, 2097151, 4194303, 4194303, 4194303, 8388607, 50331647, 134217727, 268435455, 536870911, 4194303, 4194303, 4194303, 1077936127, 11815354367, 33290190847, 67649929215, 136369405951, 274877906943, 549755813887, 1099511627775, 2199023255551, 4398046511103, 1099511627775, 1099511627775, 27487790694399, 62672162783231, 133040906960895, 273778395316223, 562949953421311, 1125899906842623, 2251799813685247]
theorem best_chosen.tab6 : rtab .any (opsOf Try.f41 6) = best_chosen.T6 := by kernel_rfl
theorem best_chosen.bits6 : waitsOk best_chosen.T6.2 best_chosen.B6 = true := by kernel_rfl
set_option maxHeartbeats 8000000 in
set_option maxRecDepth 100000 in
theorem best_chosen.calls (k : Nat) (gc0_0 : Nat) (a0_0 : List S64) (a1 : Int) (A2 : Option Addr) (c2 : Nat) (l2 : List (S52)) (r : List Int) (w : World) (hcap0_0 : w.heap[gc0_0]? = some (.cells (ag66 a0_0) 66 (0, 0))) (hr2 : Kd.C k52 w A2 l2.length l2) (hc2 : l2.length ≤ c2) (h : best_chosen.f k a0_0 a1 l2 = some r) :
 Calls Try.prog 41 #[.pointer (some ⟨gc0_0, 0, none⟩), .int .i64 a1, .slice A2 l2.length c2] w fun e w' => ∃ v0_ : Value, e = .returned (.agg #[v0_]) ∧ Kd.R (Kd.int .i64) 3 w' w.heap.size (fun _ => True) v0_ r ∧ Below w.heap.size w w' := by
 have hu52 := Try.underlying52
 have hu3 := Try.underlying3
 have hu33 := Try.underlying33
 have HR2 := Aside0.mk hr2
 have HC2 := Aside0.mk hc2
 clear hr2 hc2
 have BK208 := Aside0.mk hcap0_0
 clear hcap0_0
 have HB := Aside0.mk (Below.refl w.heap.size w)
 have H : (best_chosen.l0 k a1 l2 (-1) l2 (l2.length : Int) 0 a0_0) = some r := h
 clear h
 have H' := Aside0.mk H
 clear H
 go_enter Try.func41, Try.ntmps41
 go_wp2_with (first | ((with_reducible refine gate_dst (N := 6) rfl ?_); (try (refine gate_guard (by rfl) ?_; dsimp only)); refine bx 6 (#[.slice none 0 0]) 52 ?_; intro gb209 hg w4 hbox hb; have n0_ := Aside0.mk (blk_below (g := gc0_0) (o := .cells (ag66 a0_0) 66 (0, 0)) (zK BK208) hb); have n1_ := Aside0.mk (below_step zB hb); have n2_ := Aside0.mk (hbox); have n3_ := Aside0.mk ((zG hg : w.heap.size ≤ gb209)); have n4_ := Aside0.mk ((zG hg : w.heap.size ≤ gb209)); have n5_ := Aside0.mk ((by rw [hg]; exact Nat.ne_of_lt (blk_lt (g := gc0_0) (o := .cells (ag66 a0_0) 66 (0, 0)) (zK BK208)) : gc0_0 ≠ gb209)); have n6_ := Aside0.mk ((by rw [hg]; exact Nat.ne_of_gt (blk_lt (g := gc0_0) (o := .cells (ag66 a0_0) 66 (0, 0)) (zK BK208)) : gb209 ≠ gc0_0)); clear BK208; clear HB; have BK208 := n0_; have HB := n1_; have BK209 := n2_; have GW209 := n3_; have GE209 := n4_; have NB208_209 := n5_; have NB209_208 := n6_; clear n0_ n1_ n2_ n3_ n4_ n5_ n6_; clear hb hbox hg))
 go_loopg [7, 12] k (fun kq v7 v12 w' => ∃ (x7_1 : Int) (x12_1 : Int), v7 = .int .i64 x7_1 ∧ v12 = .int .i64 x12_1 ∧ Aside0 (best_chosen.l0 kq a1 l2 x7_1 l2 (l2.length : Int) x12_1 a0_0 = some r) ∧ Aside0 (kq ≤ k) ∧ Aside0 (w'.heap[gc0_0]? = some (.cells (ag66 a0_0) 66 (0, 0))) ∧ Aside0 (w'.heap[gb209]? = some (.cells #[(.slice none 0 0)] 52 (0, 0))) ∧ Aside0 (Below w.heap.size w w'))
 case atStart => exact ⟨((-1)), (0), zR, zR, H', ⟨Nat.le_refl _⟩, ⟨zK BK208⟩, ⟨zK BK209⟩, ⟨zB⟩⟩
 clear H'
 try clear c2
 try clear p2
 try clear c4
 obtain ⟨x7_1, x12_1, rfl, rfl, HA, HK1, BK208, BK209, HB⟩ := hrel
 rcases gk with _ | k1
 · exact absurd HA.out (by simp [best_chosen.l0])
 have H := HA.out
 clear HA
 simp only [best_chosen.l0] at H
 by_cases c5 : x12_1 < (l2.length : Int)
 rotate_left
 ·
  rw [if_neg c5] at H
  have c5b0 : decide (x12_1 < (l2.length : Int)) = false := decide_eq_false c5
  clear c5
  by_cases c60 : x7_1 < 0
  ·
   rw [if_pos c60] at H
   have c60b0 : decide (x7_1 < 0) = true := decide_eq_true c60
   clear c60
   obtain rfl := Option.some.inj H
   have hnb61 := NB209_208.out
   have hnc61 := NB208_209.out
   have hcz62_0 : wr.cell? ⟨gb209, 0, none⟩ = some (.slice none 0 0) := zT BK209 0
   have hfz62_0 := blk_frozen BK209.out 0
   go_wp2
   refine bodyPost_ret (results_cell_row rfl _ _ gb209 52 #[.slice none 0 0] (0, 0) _ rfl (by (with_reducible repeat (first | refine blk_drewN ?_ _ | refine blk_drew ?_ | refine blk_alloc ?_ _)); refine blk_put (cs := #[.slice none 0 0]) ?_ 0 _ rfl; (with_reducible repeat (first | refine blk_drewN ?_ _ | refine blk_drew ?_ | refine blk_alloc ?_ _)); exact BK209.out) Try.underlying52 rfl (by kernel_rfl)) rfl ?_
   exact ⟨_, zE, by first | exact Kd.R_nil _ _ _ _ _ | exact Kd.N_nil _ _ _ _ _ | exact Kd.V_nil _ _ _ _ _ | exact Kd.Q_nil _ _ _ _ _ | exact Kd.S_nil _ _ _ _ _, zB⟩
  rw [if_neg c60] at H
  have c60b0 : decide (x7_1 < 0) = false := decide_eq_false c60
  clear c60
  obtain ⟨y210, hy210⟩ : ∃ y_ : List Int, y_ = (([a1] : List Int)) := ⟨_, rfl⟩
  replace H : (if 0 ≤ x7_1 then (if x7_1 < (l2.length : Int) then ((g14_.f k1 (([y210, (rd_T52 l2 x7_1).f0] : List (List Int)))).bind fun t218 => (some t218)) else (none)) else (none)) = some r := by first | (rw [hy210]; with_reducible exact H) | (have H2_ := (Option.bind_some _ _).symm.trans H; rw [hy210]; with_reducible exact H2_) | (have H2_ := (Option.bind_some _ _).symm.trans H; with_reducible exact H2_) | with_reducible exact H | (rw [hy210]; exact H) | exact H
  have Ny210 := Aside0.mk hy210
  clear hy210
  by_cases c63 : 0 ≤ x7_1
  rotate_left
  · rw [if_neg c63] at H; exact absurd H (by simp)
  rw [if_pos c63] at H
  have c63b0 : decide (0 ≤ x7_1) = true := decide_eq_true c63
  clear c63
  by_cases c64 : x7_1 < (l2.length : Int)
  rotate_left
  · rw [if_neg c64] at H; exact absurd H (by simp)
  rw [if_pos c64] at H
  have c64b0 : decide (x7_1 < (l2.length : Int)) = true := decide_eq_true c64
  clear c64
  obtain ⟨y214, hy214⟩ : ∃ y_ : List (List Int), y_ = (([y210, (rd_T52 l2 x7_1).f0] : List (List Int))) := ⟨_, rfl⟩
  replace H : ((g14_.f k1 y214).bind fun t218 => (some t218)) = some r := by first | (rw [hy214]; with_reducible exact H) | (have H2_ := (Option.bind_some _ _).symm.trans H; rw [hy214]; with_reducible exact H2_) | (have H2_ := (Option.bind_some _ _).symm.trans H; with_reducible exact H2_) | with_reducible exact H | (rw [hy214]; exact H) | exact H
  have Ny214 := Aside0.mk hy214
  clear hy214
  replace H := Option.bind_eq_some_iff.mp H
  obtain ⟨t218, A650, H⟩ := H
  replace H : (some t218) = some r := H
  have A65 := Aside0.mk A650
  clear A650
  obtain rfl := Option.some.inj H
  go_wp2_with (first | ((with_reducible refine gate_dst (N := 104) rfl ?_); (try (refine gate_guard (by rfl) ?_; dsimp only)); refine Kd.R_lit (Kd.int .i64) _ 3 ?hg (N := 104) ?hd (xs := ([a1] : List Int)) (inner := [.int .i64 a1]) (ok := fun _ => True) (okp := fun _ => True) ?hr ?hp (fun _ hk => hk) trivial (Below.refl _ _) (Nat.le_refl _) (by simp) ?_; (case hd => rfl); (case hg => rfl); (case hr => first | (go_simp; done) | (go_simp; rfl)); (case hp => exact (Reps.one (show Kd.M (Kd.int .i64) _ _ _ a1 [.int .i64 a1] from rfl) (Reps.none _ _))); intro v211 w66 ho67 hb hg_ hnew_; clear hg_ hnew_; (first | rw [← Ny210.out] at ho67 | (simp only [Int.reduceToNat] at ho67; rw [← Ny210.out] at ho67)); have n0_ := Aside0.mk (Kd.R_lower ho67 (below_size zB)); have n1_ := Aside0.mk (blk_below (g := gc0_0) (o := .cells (ag66 a0_0) 66 (0, 0)) (zK BK208) hb); have n2_ := Aside0.mk (blk_below (g := gb209) (o := .cells #[.slice none 0 0] 52 (0, 0)) (zK BK209) hb); have n3_ := Aside0.mk (below_step zB hb); clear BK208; clear BK209; clear HB; have HO212 := n0_; have BK208 := n1_; have BK209 := n2_; have HB := n3_; clear n0_ n1_ n2_ n3_; clear hb ho67; have p213 : 0 ≤ (x7_1 : Int) := od; have q213 : x7_1 < (l2.length : Int) := od; obtain ⟨ad213, A213_0, c213_0, e213, hx213_0, hl213_0, hi213_0⟩ := at_T52 HR2.out x7_1 p213 q213; cases e213; replace hx213_0 := zL HB hx213_0; have HR213_0 := Aside0.mk hi213_0; have HC213_0 := Aside0.mk hl213_0; clear hi213_0 hl213_0; replace p213 := eq_true p213; replace q213 := eq_true q213; obtain ⟨Ao70, co70, eo70⟩ := Kd.R_slice HO212.out; subst eo70) | ((with_reducible refine gate_dst (N := 110) rfl ?_); (try (refine gate_guard (by rfl) ?_; dsimp only)); refine litr_event ?hg (N := 110) ?hd (cs := #[.slice Ao70 y210.length co70, .slice A213_0 ((rd_T52 l2 x7_1).f0).length c213_0]) (e := 33) (n := 2) (m := y214.length) ?hm ?hr ?_; (case hd => rfl); (case hg => rfl); (case hm => rw [Ny214.out]; rfl); (case hr => first | (go_simp; done) | (go_simp; rfl)); intro gl68 hg w69 hbox hb; have hy1_ : Kd.C (Kd.int .i64) _ A213_0 ((rd_T52 l2 x7_1).f0).length ((rd_T52 l2 x7_1).f0) := Kd.C_below (by repeat (first | exact (Kd.C_below HR213_0.out HB.out) | (with_reducible refine Kd.C_alloc ?_ _) | (with_reducible refine Kd.C_drewN ?_ _) | (with_reducible refine Kd.C_drew ?_))) hb; have hy0_ : Kd.C (Kd.int .i64) _ Ao70 y210.length y210 := Kd.C_below (by repeat (first | exact (Kd.R_reads' HO212.out).2.2 | (with_reducible refine Kd.C_alloc ?_ _) | (with_reducible refine Kd.C_drewN ?_ _) | (with_reducible refine Kd.C_drew ?_))) hb; have n0_ := Aside0.mk (Kd.R_below (zO HO212) hb); have n1_ := Aside0.mk (blk_below (g := gc0_0) (o := .cells (ag66 a0_0) 66 (0, 0)) (zK BK208) hb); have n2_ := Aside0.mk (blk_below (g := gb209) (o := .cells #[.slice none 0 0] 52 (0, 0)) (zK BK209) hb); have n3_ := Aside0.mk (below_step zB hb); have n4_ := Aside0.mk ((by rw [Ny214.out]; exact Kd.C_lit hbox rfl (by simp) (Reps.one (show ((Kd.slice 3 (Kd.int .i64))).K _ y210 [.slice Ao70 y210.length co70] from ⟨_, _, rfl, (by exact (Kd.R_reads' HO212.out).2.1), hy0_⟩) (Reps.one (show ((Kd.slice 3 (Kd.int .i64))).K _ ((rd_T52 l2 x7_1).f0) [.slice A213_0 ((rd_T52 l2 x7_1).f0).length c213_0] from ⟨_, _, rfl, (by exact HC213_0.out), hy1_⟩) (Reps.none _ _))) : Kd.C (Kd.slice 3 (Kd.int .i64)) w69 (some ⟨gl68, 0, none⟩) y214.length y214)); have n5_ := Aside0.mk ((by rw [Ny214.out]; exact Nat.le_refl _ : y214.length ≤ 2)); clear HO212; clear BK208; clear BK209; clear HB; have HO212 := n0_; have BK208 := n1_; have BK209 := n2_; have HB := n3_; have HR217 := n4_; have HC217 := n5_; clear n0_ n1_ n2_ n3_ n4_ n5_; clear hb hbox hg hy0_ hy1_) | ((with_reducible refine gate_callee (f := 46) rfl ?_); refine goesL_ (some 111) rfl rfl Try.func46 (by kernel_rfl) rfl #[.slice (some ⟨gl68, 0, none⟩) y214.length 2] rfl zM ?_; (with_reducible refine (g14_.calls k1 _ _ y214 t218 _ ?side1 ?side2 A65.out).mono ?_); (case side1 => repeat (first | exact (by repeat (first | (with_reducible exact HR217.out) | (with_reducible refine Kd.C_alloc ?_ _) | (with_reducible refine Kd.C_drewN ?_ _) | (with_reducible refine Kd.C_drew ?_) | exact HR217.out)) | (with_reducible refine Kd.C_alloc ?_ _) | (with_reducible refine Kd.C_drewN ?_ _) | (with_reducible refine Kd.C_drew ?_))); (case side2 => exact HC217.out); rintro e w71 ⟨v219, rfl, ho0, hb⟩; refine ⟨_, rfl, ?_⟩; have n0_ := Aside0.mk (Kd.R_elder' (zO HO212) (Kd.R_base ho0) hb); have n1_ := Aside0.mk (Kd.R_lower (Kd.R_new' ho0 (Kd.R_lt (zO HO212))) (below_size zB)); have n2_ := Aside0.mk (blk_below (g := gc0_0) (o := .cells (ag66 a0_0) 66 (0, 0)) (zK BK208) hb); have n3_ := Aside0.mk (blk_below (g := gb209) (o := .cells #[.slice none 0 0] 52 (0, 0)) (zK BK209) hb); have n4_ := Aside0.mk (Kd.C_below (by repeat (first | (with_reducible exact HR217.out) | (with_reducible refine Kd.C_alloc ?_ _) | (with_reducible refine Kd.C_drewN ?_ _) | (with_reducible refine Kd.C_drew ?_) | exact HR217.out)) hb); have n5_ := Aside0.mk (below_step zB hb); clear HO212; clear BK208; clear BK209; clear HR217; clear HB; have HO212 := n0_; have HO220 := n1_; have BK208 := n2_; have BK209 := n3_; have HR217 := n4_; have HB := n5_; clear n0_ n1_ n2_ n3_ n4_ n5_; (try clear hb); (try clear hb2); (try clear hk); (try clear hi); (try clear ho0); obtain ⟨Ao72, co72, eo72⟩ := Kd.R_slice HO220.out; subst eo72; have hnb73 := NB209_208.out; have hnc73 := NB208_209.out; have hcz74_0 : w71.cell? ⟨gb209, 0, none⟩ = some (.slice none 0 0) := zT BK209 0; have hfz74_0 := blk_frozen BK209.out 0))
  refine bodyPost_ret (results_cell_row rfl _ _ gb209 52 #[.slice Ao72 t218.length co72] (0, 0) _ rfl (by (with_reducible repeat (first | refine blk_drewN ?_ _ | refine blk_drew ?_ | refine blk_alloc ?_ _)); refine blk_put (cs := #[.slice none 0 0]) ?_ 0 _ rfl; (with_reducible repeat (first | refine blk_drewN ?_ _ | refine blk_drew ?_ | refine blk_alloc ?_ _)); exact BK209.out) Try.underlying52 rfl (by kernel_rfl)) rfl ?_
  exact ⟨_, zE, by (with_reducible repeat (first | apply Kd.R_alloc | apply Kd.R_drewN | apply Kd.R_drew)); exact Kd.R_mono (Kd.R_far (p := ⟨gb209, 0, none⟩) (Kd.R_types HO220.out BK209.out (by decide)) (fun _ hk => hk.2) (.slice Ao72 t218.length co72)) (fun _ hk => trivial), zB⟩
 rw [if_pos c5] at H
 have c5b0 : decide (x12_1 < (l2.length : Int)) = true := decide_eq_true c5
 clear c5
 by_cases c6 : 0 ≤ x12_1
 rotate_left
 · rw [if_neg c6] at H; exact absurd H (by simp)
 rw [if_pos c6] at H
 have c6b0 : decide (0 ≤ x12_1) = true := decide_eq_true c6
 clear c6
 by_cases c7 : x12_1 < (l2.length : Int)
 rotate_left
 · rw [if_neg c7] at H; exact absurd H (by simp)
 rw [if_pos c7] at H
 have c7b0 : decide (x12_1 < (l2.length : Int)) = true := decide_eq_true c7
 clear c7
 have HC8 := Aside0.mk H
 clear H
 have p221 : 0 ≤ (x12_1 : Int) := od
 have q221 : x12_1 < (l2.length : Int) := od
 obtain ⟨ad221, A221_0, c221_0, e221, hx221_0, hl221_0, hi221_0⟩ := at_T52 HR2.out x12_1 p221 q221
 cases e221
 replace hx221_0 := zL HB hx221_0
 have HR221_0 := Aside0.mk hi221_0
 have HC221_0 := Aside0.mk hl221_0
 clear hi221_0 hl221_0
 replace p221 := eq_true p221
 replace q221 := eq_true q221
 go_upto_region 5 with (first | ((with_reducible refine gate_dst (N := 9) rfl ?_); (try (refine gate_guard (by rfl) ?_; dsimp only)); refine bx 9 (#[.slice none 0 0]) 52 ?_; intro gb222 hg w9 hbox hb; have n0_ := Aside0.mk (blk_below (g := gc0_0) (o := .cells (ag66 a0_0) 66 (0, 0)) (zK BK208) hb); have n1_ := Aside0.mk (blk_below (g := gb209) (o := .cells #[.slice none 0 0] 52 (0, 0)) (zK BK209) hb); have n2_ := Aside0.mk (below_step zB hb); have n3_ := Aside0.mk (hbox); have n4_ := Aside0.mk ((zG hg : w.heap.size ≤ gb222)); have n5_ := Aside0.mk ((zG hg : w.heap.size ≤ gb222)); have n6_ := Aside0.mk ((by rw [hg]; exact Nat.ne_of_lt (blk_lt (g := gc0_0) (o := .cells (ag66 a0_0) 66 (0, 0)) (zK BK208)) : gc0_0 ≠ gb222)); have n7_ := Aside0.mk ((by rw [hg]; exact Nat.ne_of_gt (blk_lt (g := gc0_0) (o := .cells (ag66 a0_0) 66 (0, 0)) (zK BK208)) : gb222 ≠ gc0_0)); have n8_ := Aside0.mk ((by rw [hg]; exact Nat.ne_of_lt (blk_lt (g := gb209) (o := .cells #[.slice none 0 0] 52 (0, 0)) (zK BK209)) : gb209 ≠ gb222)); have n9_ := Aside0.mk ((by rw [hg]; exact Nat.ne_of_gt (blk_lt (g := gb209) (o := .cells #[.slice none 0 0] 52 (0, 0)) (zK BK209)) : gb222 ≠ gb209)); clear BK208; clear BK209; clear HB; have BK208 := n0_; have BK209 := n1_; have HB := n2_; have BK222 := n3_; have GW222 := n4_; have GE222 := n5_; have NB208_222 := n6_; have NB222_208 := n7_; have NB209_222 := n8_; have NB222_209 := n9_; clear n0_ n1_ n2_ n3_ n4_ n5_ n6_ n7_ n8_ n9_; clear hb hbox hg; have hnb10 := NB222_208.out; have hnc10 := NB208_222.out; have hnb11 := NB222_209.out; have hnc11 := NB209_222.out; have hcz12_0 : w9.cell? ⟨gb222, 0, none⟩ = some (.slice none 0 0) := zT BK222 0; have hfz12_0 := blk_frozen BK222.out 0))
 (try simp only [Act.put, List.setIfInBounds_toArray, List.set_cons_zero, List.set_cons_succ])
 go_cut [45] (fun v45 wc => ∃ (kq : Nat) (x45_7 : Bool), v45 = .bool x45_7 ∧ Aside0 (best_chosen.j1 kq a1 l2 x7_1 x12_1 l2 (l2.length : Int) x12_1 x45_7 a0_0 ((rd_T52 l2 x12_1).f0) = some r) ∧ Aside0 (kq ≤ k1) ∧ Aside0 (wc.heap[gc0_0]? = some (.cells (ag66 a0_0) 66 (0, 0))) ∧ Aside0 (wc.heap[gb209]? = some (.cells #[(.slice none 0 0)] 52 (0, 0))) ∧ Aside0 (wc.heap[gb222]? = some (.cells #[(.slice A221_0 ((rd_T52 l2 x12_1).f0).length c221_0)] 52 (0, 0))) ∧ Aside0 (Below w.heap.size w wc))
 case first =>
  have H := HC8.out
  clear HC8
  by_cases c13 : 0 ≤ a1
  rotate_left
  · rw [if_neg c13] at H; exact absurd H (by simp)
  rw [if_pos c13] at H
  have c13b0 : decide (0 ≤ a1) = true := decide_eq_true c13
  clear c13
  (first | rw [c13b0] | (simp only [i64_w, i32_w]; rw [c13b0]) | skip)
  by_cases c14 : a1 < 16
  rotate_left
  · rw [if_neg c14] at H; exact absurd H (by simp)
  rw [if_pos c14] at H
  have c14b0 : decide (a1 < 16) = true := decide_eq_true c14
  clear c14
  by_cases c15 : x12_1 < 16
  rotate_left
  · rw [if_neg c15] at H; exact absurd H (by simp)
  rw [if_pos c15] at H
  have c15b0 : decide (x12_1 < 16) = true := decide_eq_true c15
  clear c15
  by_cases c16 : 16 * a1 + x12_1 < (a0_0.length : Int)
  rotate_left
  · rw [if_neg c16] at H; exact absurd H (by simp)
  rw [if_pos c16] at H
  have c16b0 : decide (16 * a1 + x12_1 < (a0_0.length : Int)) = true := decide_eq_true c16
  clear c16
  by_cases c17 : ((rd_T64 a0_0 (16 * a1 + x12_1)).f0) = 0
  ·
   rw [if_pos c17] at H
   have c17b0 : (((rd_T64 a0_0 (16 * a1 + x12_1)).f0) == 0) = true := beq_iff_eq.mpr c17
   have c17b1 : (((rd_T64 a0_0 (16 * a1 + x12_1)).f0) != 0) = false := bne_eq_false_iff_eq.mpr c17
   clear c17
   have H' := Aside0.mk H
   clear H
   have hnb18 := NB208_209.out
   have hnc18 := NB209_208.out
   have hnb19 := NB208_222.out
   have hnc19 := NB222_208.out
   have pa223_0 := eq_true (od : 0 ≤ a1)
   have pa223_1 := eq_true (od : a1 < 16)
   have pa223_2 := eq_true (od : 0 ≤ x12_1)
   have pa223_3 := eq_true (od : x12_1 < 16)
   have hx223_0 := arr_cell (enc := ag66_enc) ag66_len BK208.out z64 16 0 (Mi := 16) rfl (i := a1) (j := x12_1) (of_eq_true pa223_0) (of_eq_true pa223_2) (od) (by decide) rfl
   replace hx223_0 : World.cell? _ ⟨gc0_0, (a1 : Int).toNat * 32 + (x12_1 : Int).toNat * 2, none⟩ = some (.int .i64 ((rd_T64 a0_0 (16 * a1 + x12_1)).f0)) := hx223_0
   go_wp2
   go_meet
   case rel => exact ⟨_, (true), zR, H', ⟨by have := HK1.out; first | omega | exact Nat.le_refl _⟩, ⟨by (with_reducible repeat (first | refine blk_drewN ?_ _ | refine blk_drew ?_ | refine blk_alloc ?_ _)); refine blk_far ?_ NB208_222.out _; (with_reducible repeat (first | refine blk_drewN ?_ _ | refine blk_drew ?_ | refine blk_alloc ?_ _)); exact BK208.out⟩, ⟨by (with_reducible repeat (first | refine blk_drewN ?_ _ | refine blk_drew ?_ | refine blk_alloc ?_ _)); refine blk_far ?_ NB209_222.out _; (with_reducible repeat (first | refine blk_drewN ?_ _ | refine blk_drew ?_ | refine blk_alloc ?_ _)); exact BK209.out⟩, ⟨by (with_reducible repeat (first | refine blk_drewN ?_ _ | refine blk_drew ?_ | refine blk_alloc ?_ _)); refine blk_put (cs := #[.slice none 0 0]) ?_ 0 _ rfl; (with_reducible repeat (first | refine blk_drewN ?_ _ | refine blk_drew ?_ | refine blk_alloc ?_ _)); exact BK222.out⟩, ⟨zB⟩⟩
  rw [if_neg c17] at H
  have c17b0 : (((rd_T64 a0_0 (16 * a1 + x12_1)).f0) == 0) = false := beq_eq_false_iff_ne.mpr c17
  have c17b1 : (((rd_T64 a0_0 (16 * a1 + x12_1)).f0) != 0) = true := bne_iff_ne.mpr c17
  by_cases c21 : (((rd_T52 l2 x12_1).f0).length : Int) = 0
  ·
   rw [if_pos c21] at H
   have c21b0 : ((((rd_T52 l2 x12_1).f0).length : Int) == 0) = true := beq_iff_eq.mpr c21
   have c21b1 : ((((rd_T52 l2 x12_1).f0).length : Int) != 0) = false := bne_eq_false_iff_eq.mpr c21
   clear c21
   have H' := Aside0.mk H
   clear H
   have hnb22 := NB208_209.out
   have hnc22 := NB209_208.out
   have hnb23 := NB208_222.out
   have hnc23 := NB222_208.out
   have pa223_0 := eq_true (od : 0 ≤ a1)
   have pa223_1 := eq_true (od : a1 < 16)
   have pa223_2 := eq_true (od : 0 ≤ x12_1)
   have pa223_3 := eq_true (od : x12_1 < 16)
   have hx223_0 := arr_cell (enc := ag66_enc) ag66_len BK208.out z64 16 0 (Mi := 16) rfl (i := a1) (j := x12_1) (of_eq_true pa223_0) (of_eq_true pa223_2) (od) (by decide) rfl
   replace hx223_0 : World.cell? _ ⟨gc0_0, (a1 : Int).toNat * 32 + (x12_1 : Int).toNat * 2, none⟩ = some (.int .i64 ((rd_T64 a0_0 (16 * a1 + x12_1)).f0)) := hx223_0
   have hnb25 := NB222_209.out
   have hnc25 := NB209_222.out
   have hcz26_0 : w9.cell? ⟨gb222, 0, none⟩ = some (.slice none 0 0) := zT BK222 0
   have hfz26_0 := blk_frozen BK222.out 0
   go_wp2
   go_meet
   case rel => exact ⟨_, (true), zR, H', ⟨by have := HK1.out; first | omega | exact Nat.le_refl _⟩, ⟨by (with_reducible repeat (first | refine blk_drewN ?_ _ | refine blk_drew ?_ | refine blk_alloc ?_ _)); refine blk_far ?_ NB208_222.out _; (with_reducible repeat (first | refine blk_drewN ?_ _ | refine blk_drew ?_ | refine blk_alloc ?_ _)); exact BK208.out⟩, ⟨by (with_reducible repeat (first | refine blk_drewN ?_ _ | refine blk_drew ?_ | refine blk_alloc ?_ _)); refine blk_far ?_ NB209_222.out _; (with_reducible repeat (first | refine blk_drewN ?_ _ | refine blk_drew ?_ | refine blk_alloc ?_ _)); exact BK209.out⟩, ⟨by (with_reducible repeat (first | refine blk_drewN ?_ _ | refine blk_drew ?_ | refine blk_alloc ?_ _)); refine blk_put (cs := #[.slice none 0 0]) ?_ 0 _ rfl; (with_reducible repeat (first | refine blk_drewN ?_ _ | refine blk_drew ?_ | refine blk_alloc ?_ _)); exact BK222.out⟩, ⟨zB⟩⟩
  rw [if_neg c21] at H
  have c21b0 : ((((rd_T52 l2 x12_1).f0).length : Int) == 0) = false := beq_eq_false_iff_ne.mpr c21
  have c21b1 : ((((rd_T52 l2 x12_1).f0).length : Int) != 0) = true := bne_iff_ne.mpr c21
  have c21b2 : ¬ (((rd_T52 l2 x12_1).f0) = []) := fun h_ => c21 (by rw [h_]; rfl)
  replace H := Option.bind_eq_some_iff.mp H
  obtain ⟨t224, A270, H⟩ := H
  replace H : (if t224 = true then (best_chosen.j1 k1 a1 l2 x7_1 x12_1 l2 (l2.length : Int) x12_1 true a0_0 ((rd_T52 l2 x12_1).f0)) else ((g25_.f a0_0 ((rd_T52 l2 x12_1).f0) a1).bind fun t225 => (best_chosen.j1 k1 a1 l2 x7_1 x12_1 l2 (l2.length : Int) x12_1 (!t225) a0_0 ((rd_T52 l2 x12_1).f0)))) = some r := H
  have A27 := Aside0.mk A270
  clear A270
  by_cases c28 : t224 = true
  ·
   subst c28
   have H1 : (best_chosen.j1 k1 a1 l2 x7_1 x12_1 l2 (l2.length : Int) x12_1 true a0_0 ((rd_T52 l2 x12_1).f0)) = some r := by rw [if_pos rfl] at H; exact H
   clear H
   have H := H1
   clear H1
   have H' := Aside0.mk H
   clear H
   have hnb29 := NB208_209.out
   have hnc29 := NB209_208.out
   have hnb30 := NB208_222.out
   have hnc30 := NB222_208.out
   have pa223_0 := eq_true (od : 0 ≤ a1)
   have pa223_1 := eq_true (od : a1 < 16)
   have pa223_2 := eq_true (od : 0 ≤ x12_1)
   have pa223_3 := eq_true (od : x12_1 < 16)
   have hx223_0 := arr_cell (enc := ag66_enc) ag66_len BK208.out z64 16 0 (Mi := 16) rfl (i := a1) (j := x12_1) (of_eq_true pa223_0) (of_eq_true pa223_2) (od) (by decide) rfl
   replace hx223_0 : World.cell? _ ⟨gc0_0, (a1 : Int).toNat * 32 + (x12_1 : Int).toNat * 2, none⟩ = some (.int .i64 ((rd_T64 a0_0 (16 * a1 + x12_1)).f0)) := hx223_0
   have hnb32 := NB222_209.out
   have hnc32 := NB209_222.out
   have hcz33_0 : w9.cell? ⟨gb222, 0, none⟩ = some (.slice none 0 0) := zT BK222 0
   have hfz33_0 := blk_frozen BK222.out 0
   go_wp2_with (first | (go_at_call 22; (with_reducible refine (g15_.calls k1 _ _ ((rd_T52 l2 x12_1).f0) a1 true _ ?side1 ?side2 A27.out).mono ?_); (case side1 => exact Kd.C_below HR221_0.out zB); (case side2 => exact HC221_0.out); rintro e w' ⟨rfl, ⟨nd, rfl⟩⟩))
   go_meet
   case rel => exact ⟨_, (true), zR, H', ⟨by have := HK1.out; first | omega | exact Nat.le_refl _⟩, ⟨by (with_reducible repeat (first | refine blk_drewN ?_ _ | refine blk_drew ?_ | refine blk_alloc ?_ _)); refine blk_far ?_ NB208_222.out _; (with_reducible repeat (first | refine blk_drewN ?_ _ | refine blk_drew ?_ | refine blk_alloc ?_ _)); exact BK208.out⟩, ⟨by (with_reducible repeat (first | refine blk_drewN ?_ _ | refine blk_drew ?_ | refine blk_alloc ?_ _)); refine blk_far ?_ NB209_222.out _; (with_reducible repeat (first | refine blk_drewN ?_ _ | refine blk_drew ?_ | refine blk_alloc ?_ _)); exact BK209.out⟩, ⟨by (with_reducible repeat (first | refine blk_drewN ?_ _ | refine blk_drew ?_ | refine blk_alloc ?_ _)); refine blk_put (cs := #[.slice none 0 0]) ?_ 0 _ rfl; (with_reducible repeat (first | refine blk_drewN ?_ _ | refine blk_drew ?_ | refine blk_alloc ?_ _)); exact BK222.out⟩, ⟨zB⟩⟩
  replace c28 := Bool.eq_false_iff.mpr c28
  subst c28
  have H1 : ((g25_.f a0_0 ((rd_T52 l2 x12_1).f0) a1).bind fun t225 => (best_chosen.j1 k1 a1 l2 x7_1 x12_1 l2 (l2.length : Int) x12_1 (!t225) a0_0 ((rd_T52 l2 x12_1).f0))) = some r := by rw [if_neg (show ¬ (false = true) by decide)] at H; exact H
  clear H
  have H := H1
  clear H1
  replace H := Option.bind_eq_some_iff.mp H
  obtain ⟨t225, A340, H⟩ := H
  replace H : (best_chosen.j1 k1 a1 l2 x7_1 x12_1 l2 (l2.length : Int) x12_1 (!t225) a0_0 ((rd_T52 l2 x12_1).f0)) = some r := H
  have A34 := Aside0.mk A340
  clear A340
  have H' := Aside0.mk H
  clear H
  have hnb35 := NB208_209.out
  have hnc35 := NB209_208.out
  have hnb36 := NB208_222.out
  have hnc36 := NB222_208.out
  have pa223_0 := eq_true (od : 0 ≤ a1)
  have pa223_1 := eq_true (od : a1 < 16)
  have pa223_2 := eq_true (od : 0 ≤ x12_1)
  have pa223_3 := eq_true (od : x12_1 < 16)
  have hx223_0 := arr_cell (enc := ag66_enc) ag66_len BK208.out z64 16 0 (Mi := 16) rfl (i := a1) (j := x12_1) (of_eq_true pa223_0) (of_eq_true pa223_2) (od) (by decide) rfl
  replace hx223_0 : World.cell? _ ⟨gc0_0, (a1 : Int).toNat * 32 + (x12_1 : Int).toNat * 2, none⟩ = some (.int .i64 ((rd_T64 a0_0 (16 * a1 + x12_1)).f0)) := hx223_0
  have hnb38 := NB222_209.out
  have hnc38 := NB209_222.out
  have hcz39_0 : w9.cell? ⟨gb222, 0, none⟩ = some (.slice none 0 0) := zT BK222 0
  have hfz39_0 := blk_frozen BK222.out 0
  go_wp2_with (first | (go_at_call 22; (with_reducible refine (g15_.calls k1 _ _ ((rd_T52 l2 x12_1).f0) a1 false _ ?side1 ?side2 A27.out).mono ?_); (case side1 => exact Kd.C_below HR221_0.out zB); (case side2 => exact HC221_0.out); rintro e w' ⟨rfl, ⟨nd, rfl⟩⟩) | (go_at_call 45; (with_reducible refine (g25_.calls gc0_0 a0_0 _ _ ((rd_T52 l2 x12_1).f0) a1 t225 _ ?side1 ?side2 ?side3 A34.out).mono ?_); (case side1 => exact (by (with_reducible repeat (first | refine blk_drewN ?_ _ | refine blk_drew ?_ | refine blk_alloc ?_ _)); refine blk_far ?_ NB208_222.out _; (with_reducible repeat (first | refine blk_drewN ?_ _ | refine blk_drew ?_ | refine blk_alloc ?_ _)); exact BK208.out)); (case side2 => exact Kd.C_below HR221_0.out zB); (case side3 => exact HC221_0.out); rintro e w40 ⟨rfl, hb⟩; have n0_ := Aside0.mk (blk_below (g := gc0_0) (o := .cells (ag66 a0_0) 66 (0, 0)) (by (with_reducible repeat (first | refine blk_drewN ?_ _ | refine blk_drew ?_ | refine blk_alloc ?_ _)); refine blk_far ?_ NB208_222.out _; (with_reducible repeat (first | refine blk_drewN ?_ _ | refine blk_drew ?_ | refine blk_alloc ?_ _)); exact BK208.out) hb); have n1_ := Aside0.mk (blk_below (g := gb209) (o := .cells #[.slice none 0 0] 52 (0, 0)) (by (with_reducible repeat (first | refine blk_drewN ?_ _ | refine blk_drew ?_ | refine blk_alloc ?_ _)); refine blk_far ?_ NB209_222.out _; (with_reducible repeat (first | refine blk_drewN ?_ _ | refine blk_drew ?_ | refine blk_alloc ?_ _)); exact BK209.out) hb); have n2_ := Aside0.mk (blk_below (g := gb222) (o := .cells #[.slice A221_0 ((rd_T52 l2 x12_1).f0).length c221_0] 52 (0, 0)) (by (with_reducible repeat (first | refine blk_drewN ?_ _ | refine blk_drew ?_ | refine blk_alloc ?_ _)); refine blk_put (cs := #[.slice none 0 0]) ?_ 0 _ rfl; (with_reducible repeat (first | refine blk_drewN ?_ _ | refine blk_drew ?_ | refine blk_alloc ?_ _)); exact BK222.out) hb); have n3_ := Aside0.mk (below_step zB hb); clear BK208; clear BK209; clear BK222; clear HB; have BK208 := n0_; have BK209 := n1_; have BK222 := n2_; have HB := n3_; clear n0_ n1_ n2_ n3_; (try clear hb); (try clear hb2); (try clear hk); (try clear hi)))
  go_meet
  case rel => exact ⟨_, (!t225), zR, H', ⟨by have := HK1.out; first | omega | exact Nat.le_refl _⟩, ⟨zK BK208⟩, ⟨zK BK209⟩, ⟨zK BK222⟩, ⟨zB⟩⟩
 clear HC8
 try clear c1
 try clear c2
 try clear p2
 try clear q2
 try clear hx2
 try clear c3
 try clear c4
 try clear c5
 try clear c5b0
 try clear c6
 try clear c6b0
 try clear c7
 try clear c7b0
 try clear c10
 try clear c11
 try clear c13
 try clear c13b0
 try clear c14
 try clear c14b0
 try clear c15
 try clear c15b0
 try clear c16
 try clear c16b0
 try clear c17
 try clear c17b0
 try clear c17b1
 try clear c18
 try clear c19
 try clear c21
 try clear c21b0
 try clear c21b1
 try clear c21b2
 try clear c22
 try clear p22
 try clear q22
 try clear hx22
 try clear c23
 try clear c25
 try clear c28
 try clear c29
 try clear c30
 try clear c32
 try clear c35
 try clear c36
 try clear c38
 try clear hcz12_0
 try clear hcz26_0
 try clear hcz33_0
 try clear hcz39_0
 try clear hfz12_0
 try clear hfz26_0
 try clear hfz33_0
 try clear hfz39_0
 try clear hx221_0
 try clear hx223_0
 try clear p2
 try clear p221
 try clear q221
 obtain ⟨kq, x45_7, rfl, HA, HJ7, BK208, BK209, BK222, HB⟩ := hcut
 rcases kq with _ | kj7
 · exact absurd HA.out (by simp [best_chosen.j1])
 have H := HA.out
 clear HA
 simp only [best_chosen.j1] at H
 by_cases c41 : x45_7 = true
 ·
  subst c41
  have H1 : (best_chosen.l0 kj7 a1 l2 x7_1 l2 (l2.length : Int) (wrap64 (x12_1 + 1)) a0_0) = some r := by rw [if_pos rfl] at H; exact H
  clear H
  have H := H1
  clear H1
  have H' := Aside0.mk H
  clear H
  go_wp2
  go_roundg kj7
  case measure => have := HK1.out; have := HJ7.out; omega
  case rel => exact ⟨(x7_1), (wrap64 (x12_1 + 1)), zR, zR, H', ⟨by have := HK1.out; have := HJ7.out; omega⟩, ⟨zK BK208⟩, ⟨zK BK209⟩, ⟨zB⟩⟩
 replace c41 := Bool.eq_false_iff.mpr c41
 subst c41
 have H1 : (if x7_1 < 0 then (best_chosen.l0 kj7 a1 l2 x12_1 l2 (l2.length : Int) (wrap64 (x12_1 + 1)) a0_0) else (if 0 ≤ a1 then (if a1 < 16 then (if 0 ≤ x12_1 then (if x12_1 < 16 then (if 16 * a1 + x12_1 < (a0_0.length : Int) then (if 0 ≤ x7_1 then (if x7_1 < 16 then (if 16 * a1 + x7_1 < (a0_0.length : Int) then (if ((rd_T64 a0_0 (16 * a1 + x12_1)).f1) > ((rd_T64 a0_0 (16 * a1 + x7_1)).f1) then (best_chosen.l0 kj7 a1 l2 x12_1 l2 (l2.length : Int) (wrap64 (x12_1 + 1)) a0_0) else (if ((rd_T64 a0_0 (16 * a1 + x12_1)).f1) = ((rd_T64 a0_0 (16 * a1 + x7_1)).f1) then (if x7_1 < (l2.length : Int) then (if (((rd_T52 l2 x12_1).f0).length : Int) < (((rd_T52 l2 x7_1).f0).length : Int) then (best_chosen.l0 kj7 a1 l2 x12_1 l2 (l2.length : Int) (wrap64 (x12_1 + 1)) a0_0) else (best_chosen.l0 kj7 a1 l2 x7_1 l2 (l2.length : Int) (wrap64 (x12_1 + 1)) a0_0)) else (none)) else (best_chosen.l0 kj7 a1 l2 x7_1 l2 (l2.length : Int) (wrap64 (x12_1 + 1)) a0_0))) else (none)) else (none)) else (none)) else (none)) else (none)) else (none)) else (none)) else (none))) = some r := by rw [if_neg (show ¬ (false = true) by decide)] at H; exact H
 clear H
 have H := H1
 clear H1
 by_cases c42 : x7_1 < 0
 ·
  rw [if_pos c42] at H
  have c42b0 : decide (x7_1 < 0) = true := decide_eq_true c42
  clear c42
  have H' := Aside0.mk H
  clear H
  try go_wp2
  have n0_ := Aside0.mk (blk_drew BK208.out)
  have n1_ := Aside0.mk (blk_drew BK209.out)
  have n2_ := Aside0.mk (blk_drew BK222.out)
  have n3_ := Aside0.mk (below_drew1 HB.out)
  clear BK208
  clear BK209
  clear BK222
  clear HB
  have BK208 := n0_
  have BK209 := n1_
  have BK222 := n2_
  have HB := n3_
  clear n0_ n1_ n2_ n3_
  refine start_ (n := 52) (S := fun w' => True) (ds := []) (bm 52 0) (by kernel_rfl) rfl rfl trivial (fun hHeld => ?_); refine with_tabW best_chosen.tab6 best_chosen.bits6 (fun HT_ HW_ => ?_)
  generalize wc.drew = w43 at BK208 BK209 BK222 HB hHeld ⊢
  refine pu 0 (some 46) (bm 52 1) HT_ ?_
  refine pu 1 (some 47) (bm 52 3) HT_ ?_
  refine pu 2 (some 48) (bm 52 7) HT_ ?_
  refine pn 3 (some 49) (bm 52 15) HT_ ?_
  refine pn 4 (some 50) (bm 52 31) HT_ ?_
  refine pn 5 (some 51) (bm 52 63) HT_ ?_
  refine pn 6 (some 52) (bm 52 127) HT_ ?_
  refine pn 7 (some 53) (bm 52 255) HT_ ?_
  refine pn 8 (some 54) (bm 52 511) HT_ ?_
  refine pn 9 (some 55) (bm 52 1023) HT_ ?_
  refine pn 10 (some 56) (bm 52 2047) HT_ ?_
  refine pn 11 (some 57) (bm 52 4095) HT_ ?_
  refine pn 12 (some 58) (bm 52 8191) HT_ ?_
  refine pn 13 (some 59) (bm 52 16383) HT_ ?_
  refine pn 14 (some 60) (bm 52 32767) HT_ ?_
  refine pn 15 (some 61) (bm 52 65535) HT_ ?_
  refine pn 16 (some 62) (bm 52 131071) HT_ ?_
  refine pn 17 (some 63) (bm 52 262143) HT_ ?_
  refine pn 18 (some 64) (bm 52 524287) HT_ ?_
  refine pn 19 (some 65) (bm 52 1048575) HT_ ?_
  refine pu 20 (some 66) (bm 52 2097151) HT_ ?_
  refine pu 21 (some 67) (bm 52 4194303) HT_ ?_
  refine pn 22 (some 68) (bm 52 8388607) HT_ ?_
  refine pn 23 (some 69) (bm 52 16777215) HT_ ?_
  refine pn 24 (some 70) (bm 52 33554431) HT_ ?_
  refine pn 25 (some 71) (bm 52 67108863) HT_ ?_
  refine pn 26 (some 72) (bm 52 134217727) HT_ ?_
  refine pn 27 (some 73) (bm 52 268435455) HT_ ?_
  refine pn 28 (some 74) (bm 52 536870911) HT_ ?_
  refine pn 29 (some 75) (bm 52 1073741823) HT_ ?_
  refine pn 30 (some 76) (bm 52 2147483647) HT_ ?_
  refine pn 31 (some 77) (bm 52 4294967295) HT_ ?_
  refine pn 32 (some 78) (bm 52 8589934591) HT_ ?_
  refine pn 33 (some 79) (bm 52 17179869183) HT_ ?_
  refine pn 34 (some 80) (bm 52 34359738367) HT_ ?_
  refine pn 35 (some 81) (bm 52 68719476735) HT_ ?_
  refine pn 36 (some 82) (bm 52 137438953471) HT_ ?_
  refine pn 37 (some 83) (bm 52 274877906943) HT_ ?_
  refine pn 38 (some 84) (bm 52 549755813887) HT_ ?_
  refine pn 39 (some 85) (bm 52 1099511627775) HT_ ?_
  refine pn 40 (some 86) (bm 52 2199023255551) HT_ ?_
  refine pn 41 (some 87) (bm 52 4398046511103) HT_ ?_
  refine pn 42 (some 88) (bm 52 8796093022207) HT_ ?_
  refine pn 43 (some 89) (bm 52 17592186044415) HT_ ?_
  refine pn 44 (some 90) (bm 52 35184372088831) HT_ ?_
  refine pn 45 (some 91) (bm 52 70368744177663) HT_ ?_
  refine pn 46 (some 92) (bm 52 140737488355327) HT_ ?_
  refine pn 47 (some 93) (bm 52 281474976710655) HT_ ?_
  refine pn 48 (some 94) (bm 52 562949953421311) HT_ ?_
  refine pn 49 (some 95) (bm 52 1125899906842623) HT_ ?_
  refine pn 50 (some 96) (bm 52 2251799813685247) HT_ ?_
  refine pu 51 (some 97) (bm 52 4503599627370495) HT_ ?_
  refine done_ (done_of HT_.out (by kernel_rfl)) ?_
  try go_wp2
  go_roundg kj7
  case measure => have := HK1.out; have := HJ7.out; omega
  case rel => exact ⟨(x12_1), (wrap64 (x12_1 + 1)), zR, zR, H', ⟨by have := HK1.out; have := HJ7.out; omega⟩, ⟨zK BK208⟩, ⟨zK BK209⟩, ⟨zB⟩⟩
 rw [if_neg c42] at H
 have c42b0 : decide (x7_1 < 0) = false := decide_eq_false c42
 clear c42
 by_cases c44 : 0 ≤ a1
 rotate_left
 · rw [if_neg c44] at H; exact absurd H (by simp)
 rw [if_pos c44] at H
 have c44b0 : decide (0 ≤ a1) = true := decide_eq_true c44
 clear c44
 by_cases c45 : a1 < 16
 rotate_left
 · rw [if_neg c45] at H; exact absurd H (by simp)
 rw [if_pos c45] at H
 have c45b0 : decide (a1 < 16) = true := decide_eq_true c45
 clear c45
 by_cases c46 : 0 ≤ x12_1
 rotate_left
 · rw [if_neg c46] at H; exact absurd H (by simp)
 rw [if_pos c46] at H
 have c46b0 : decide (0 ≤ x12_1) = true := decide_eq_true c46
 clear c46
 by_cases c47 : x12_1 < 16
 rotate_left
 · rw [if_neg c47] at H; exact absurd H (by simp)
 rw [if_pos c47] at H
 have c47b0 : decide (x12_1 < 16) = true := decide_eq_true c47
 clear c47
 by_cases c48 : 16 * a1 + x12_1 < (a0_0.length : Int)
 rotate_left
 · rw [if_neg c48] at H; exact absurd H (by simp)
 rw [if_pos c48] at H
 have c48b0 : decide (16 * a1 + x12_1 < (a0_0.length : Int)) = true := decide_eq_true c48
 clear c48
 by_cases c49 : 0 ≤ x7_1
 rotate_left
 · rw [if_neg c49] at H; exact absurd H (by simp)
 rw [if_pos c49] at H
 have c49b0 : decide (0 ≤ x7_1) = true := decide_eq_true c49
 clear c49
 by_cases c50 : x7_1 < 16
 rotate_left
 · rw [if_neg c50] at H; exact absurd H (by simp)
 rw [if_pos c50] at H
 have c50b0 : decide (x7_1 < 16) = true := decide_eq_true c50
 clear c50
 by_cases c51 : 16 * a1 + x7_1 < (a0_0.length : Int)
 rotate_left
 · rw [if_neg c51] at H; exact absurd H (by simp)
 rw [if_pos c51] at H
 have c51b0 : decide (16 * a1 + x7_1 < (a0_0.length : Int)) = true := decide_eq_true c51
 clear c51
 by_cases c52 : ((rd_T64 a0_0 (16 * a1 + x12_1)).f1) > ((rd_T64 a0_0 (16 * a1 + x7_1)).f1)
 ·
  rw [if_pos c52] at H
  have c52b0 : decide (((rd_T64 a0_0 (16 * a1 + x7_1)).f1) < ((rd_T64 a0_0 (16 * a1 + x12_1)).f1)) = true := decide_eq_true c52
  clear c52
  have H' := Aside0.mk H
  clear H
  try go_wp2
  have n0_ := Aside0.mk (blk_drew BK208.out)
  have n1_ := Aside0.mk (blk_drew BK209.out)
  have n2_ := Aside0.mk (blk_drew BK222.out)
  have n3_ := Aside0.mk (below_drew1 HB.out)
  clear BK208
  clear BK209
  clear BK222
  clear HB
  have BK208 := n0_
  have BK209 := n1_
  have BK222 := n2_
  have HB := n3_
  clear n0_ n1_ n2_ n3_
  have pa226_0 := eq_true (od : 0 ≤ a1)
  have pa226_1 := eq_true (od : a1 < 16)
  have pa226_2 := eq_true (od : 0 ≤ x12_1)
  have pa226_3 := eq_true (od : x12_1 < 16)
  have pa227_0 := eq_true (od : 0 ≤ a1)
  have pa227_1 := eq_true (od : a1 < 16)
  have pa227_2 := eq_true (od : 0 ≤ x7_1)
  have pa227_3 := eq_true (od : x7_1 < 16)
  refine start_ (n := 52) (S := fun w' => w'.cell? ⟨gc0_0, (a1 : Int).toNat * 32 + (x12_1 : Int).toNat * 2 + 1, none⟩ = some (.int .i64 ((rd_T64 a0_0 (16 * a1 + x12_1)).f1)) ∧ w'.cell? ⟨gc0_0, (a1 : Int).toNat * 32 + (x7_1 : Int).toNat * 2 + 1, none⟩ = some (.int .i64 ((rd_T64 a0_0 (16 * a1 + x7_1)).f1))) (ds := []) (bm 52 0) (by kernel_rfl) rfl rfl ⟨(arr_cell (enc := ag66_enc) ag66_len BK208.out z64 16 1 (Mi := 16) rfl (i := a1) (j := x12_1) (of_eq_true pa226_0) (of_eq_true pa226_2) (od) (by decide) rfl : _), (arr_cell (enc := ag66_enc) ag66_len BK208.out z64 16 1 (Mi := 16) rfl (i := a1) (j := x7_1) (of_eq_true pa227_0) (of_eq_true pa227_2) (od) (by decide) rfl : _)⟩ (fun hHeld => ?_); refine with_tabW best_chosen.tab6 best_chosen.bits6 (fun HT_ HW_ => ?_)
  generalize wc.drew = w53 at BK208 BK209 BK222 HB hHeld ⊢
  refine pu 0 (some 46) (bm 52 1) HT_ ?_
  refine pu 1 (some 47) (bm 52 3) HT_ ?_
  refine pu 2 (some 48) (bm 52 7) HT_ ?_
  refine pu 3 (some 49) (bm 52 15) HT_ ?_
  refine pu 4 (some 50) (bm 52 31) HT_ ?_
  refine pu 5 (some 51) (bm 52 63) HT_ ?_
  refine pu 6 (some 52) (bm 52 127) HT_ ?_
  refine pu 7 (some 53) (bm 52 255) HT_ ?_
  refine pu 8 (some 54) (bm 52 511) HT_ ?_
  refine pu 9 (some 55) (bm 52 1023) HT_ ?_
  refine pu 11 (some 57) (bm 52 3071) HT_ ?_
  refine pu 12 (some 58) (bm 52 7167) HT_ ?_
  refine pu 13 (some 59) (bm 52 15359) HT_ ?_
  refine pu 14 (some 60) (bm 52 31743) HT_ ?_
  refine pu 15 (some 61) (bm 52 64511) HT_ ?_
  refine pu 16 (some 62) (bm 52 130047) HT_ ?_
  refine pu 17 (some 63) (bm 52 261119) HT_ ?_
  refine tk 10 (some 56) (bm 52 262143) HT_ HW_ hHeld ?_
  refine tk 18 (some 64) (bm 52 524287) HT_ HW_ hHeld ?_
  refine pu 19 (some 65) (bm 52 1048575) HT_ ?_
  refine pu 20 (some 66) (bm 52 2097151) HT_ ?_
  refine pu 21 (some 67) (bm 52 4194303) HT_ ?_
  refine pn 22 (some 68) (bm 52 8388607) HT_ ?_
  refine pn 23 (some 69) (bm 52 16777215) HT_ ?_
  refine pn 24 (some 70) (bm 52 33554431) HT_ ?_
  refine pn 25 (some 71) (bm 52 67108863) HT_ ?_
  refine pn 26 (some 72) (bm 52 134217727) HT_ ?_
  refine pn 27 (some 73) (bm 52 268435455) HT_ ?_
  refine pn 28 (some 74) (bm 52 536870911) HT_ ?_
  refine pn 29 (some 75) (bm 52 1073741823) HT_ ?_
  refine pn 30 (some 76) (bm 52 2147483647) HT_ ?_
  refine pn 31 (some 77) (bm 52 4294967295) HT_ ?_
  refine pn 32 (some 78) (bm 52 8589934591) HT_ ?_
  refine pn 33 (some 79) (bm 52 17179869183) HT_ ?_
  refine pn 34 (some 80) (bm 52 34359738367) HT_ ?_
  refine pn 35 (some 81) (bm 52 68719476735) HT_ ?_
  refine pn 36 (some 82) (bm 52 137438953471) HT_ ?_
  refine pn 37 (some 83) (bm 52 274877906943) HT_ ?_
  refine pn 38 (some 84) (bm 52 549755813887) HT_ ?_
  refine pn 39 (some 85) (bm 52 1099511627775) HT_ ?_
  refine pn 40 (some 86) (bm 52 2199023255551) HT_ ?_
  refine pn 41 (some 87) (bm 52 4398046511103) HT_ ?_
  refine pn 42 (some 88) (bm 52 8796093022207) HT_ ?_
  refine pn 43 (some 89) (bm 52 17592186044415) HT_ ?_
  refine pn 44 (some 90) (bm 52 35184372088831) HT_ ?_
  refine pn 45 (some 91) (bm 52 70368744177663) HT_ ?_
  refine pn 46 (some 92) (bm 52 140737488355327) HT_ ?_
  refine pn 47 (some 93) (bm 52 281474976710655) HT_ ?_
  refine pn 48 (some 94) (bm 52 562949953421311) HT_ ?_
  refine pn 49 (some 95) (bm 52 1125899906842623) HT_ ?_
  refine pn 50 (some 96) (bm 52 2251799813685247) HT_ ?_
  refine pu 51 (some 97) (bm 52 4503599627370495) HT_ ?_
  refine done_ (done_of HT_.out (by kernel_rfl)) ?_
  try go_wp2
  go_roundg kj7
  case measure => have := HK1.out; have := HJ7.out; omega
  case rel => exact ⟨(x12_1), (wrap64 (x12_1 + 1)), zR, zR, H', ⟨by have := HK1.out; have := HJ7.out; omega⟩, ⟨zK BK208⟩, ⟨zK BK209⟩, ⟨zB⟩⟩
 rw [if_neg c52] at H
 have c52b0 : decide (((rd_T64 a0_0 (16 * a1 + x7_1)).f1) < ((rd_T64 a0_0 (16 * a1 + x12_1)).f1)) = false := decide_eq_false c52
 clear c52
 by_cases c54 : ((rd_T64 a0_0 (16 * a1 + x12_1)).f1) = ((rd_T64 a0_0 (16 * a1 + x7_1)).f1)
 rotate_left
 ·
  rw [if_neg c54] at H
  have c54b0 : (((rd_T64 a0_0 (16 * a1 + x12_1)).f1) == ((rd_T64 a0_0 (16 * a1 + x7_1)).f1)) = false := beq_eq_false_iff_ne.mpr c54
  have c54b1 : (((rd_T64 a0_0 (16 * a1 + x12_1)).f1) != ((rd_T64 a0_0 (16 * a1 + x7_1)).f1)) = true := bne_iff_ne.mpr c54
  have H' := Aside0.mk H
  clear H
  try go_wp2
  have n0_ := Aside0.mk (blk_drew BK208.out)
  have n1_ := Aside0.mk (blk_drew BK209.out)
  have n2_ := Aside0.mk (blk_drew BK222.out)
  have n3_ := Aside0.mk (below_drew1 HB.out)
  clear BK208
  clear BK209
  clear BK222
  clear HB
  have BK208 := n0_
  have BK209 := n1_
  have BK222 := n2_
  have HB := n3_
  clear n0_ n1_ n2_ n3_
  have pa226_0 := eq_true (od : 0 ≤ a1)
  have pa226_1 := eq_true (od : a1 < 16)
  have pa226_2 := eq_true (od : 0 ≤ x12_1)
  have pa226_3 := eq_true (od : x12_1 < 16)
  have pa227_0 := eq_true (od : 0 ≤ a1)
  have pa227_1 := eq_true (od : a1 < 16)
  have pa227_2 := eq_true (od : 0 ≤ x7_1)
  have pa227_3 := eq_true (od : x7_1 < 16)
  have pa228_0 := eq_true (od : 0 ≤ a1)
  have pa228_1 := eq_true (od : a1 < 16)
  have pa228_2 := eq_true (od : 0 ≤ x12_1)
  have pa228_3 := eq_true (od : x12_1 < 16)
  have pa229_0 := eq_true (od : 0 ≤ a1)
  have pa229_1 := eq_true (od : a1 < 16)
  have pa229_2 := eq_true (od : 0 ≤ x7_1)
  have pa229_3 := eq_true (od : x7_1 < 16)
  refine start_ (n := 52) (S := fun w' => w'.cell? ⟨gc0_0, (a1 : Int).toNat * 32 + (x12_1 : Int).toNat * 2 + 1, none⟩ = some (.int .i64 ((rd_T64 a0_0 (16 * a1 + x12_1)).f1)) ∧ w'.cell? ⟨gc0_0, (a1 : Int).toNat * 32 + (x7_1 : Int).toNat * 2 + 1, none⟩ = some (.int .i64 ((rd_T64 a0_0 (16 * a1 + x7_1)).f1)) ∧ w'.cell? ⟨gc0_0, (a1 : Int).toNat * 32 + (x12_1 : Int).toNat * 2 + 1, none⟩ = some (.int .i64 ((rd_T64 a0_0 (16 * a1 + x12_1)).f1)) ∧ w'.cell? ⟨gc0_0, (a1 : Int).toNat * 32 + (x7_1 : Int).toNat * 2 + 1, none⟩ = some (.int .i64 ((rd_T64 a0_0 (16 * a1 + x7_1)).f1))) (ds := []) (bm 52 0) (by kernel_rfl) rfl rfl ⟨(arr_cell (enc := ag66_enc) ag66_len BK208.out z64 16 1 (Mi := 16) rfl (i := a1) (j := x12_1) (of_eq_true pa226_0) (of_eq_true pa226_2) (od) (by decide) rfl : _), (arr_cell (enc := ag66_enc) ag66_len BK208.out z64 16 1 (Mi := 16) rfl (i := a1) (j := x7_1) (of_eq_true pa227_0) (of_eq_true pa227_2) (od) (by decide) rfl : _), (arr_cell (enc := ag66_enc) ag66_len BK208.out z64 16 1 (Mi := 16) rfl (i := a1) (j := x12_1) (of_eq_true pa228_0) (of_eq_true pa228_2) (od) (by decide) rfl : _), (arr_cell (enc := ag66_enc) ag66_len BK208.out z64 16 1 (Mi := 16) rfl (i := a1) (j := x7_1) (of_eq_true pa229_0) (of_eq_true pa229_2) (od) (by decide) rfl : _)⟩ (fun hHeld => ?_); refine with_tabW best_chosen.tab6 best_chosen.bits6 (fun HT_ HW_ => ?_)
  generalize wc.drew = w59 at BK208 BK209 BK222 HB hHeld ⊢
  refine pu 0 (some 46) (bm 52 1) HT_ ?_
  refine pu 1 (some 47) (bm 52 3) HT_ ?_
  refine pu 2 (some 48) (bm 52 7) HT_ ?_
  refine pu 3 (some 49) (bm 52 15) HT_ ?_
  refine pu 4 (some 50) (bm 52 31) HT_ ?_
  refine pu 5 (some 51) (bm 52 63) HT_ ?_
  refine pu 6 (some 52) (bm 52 127) HT_ ?_
  refine pu 7 (some 53) (bm 52 255) HT_ ?_
  refine pu 8 (some 54) (bm 52 511) HT_ ?_
  refine pu 9 (some 55) (bm 52 1023) HT_ ?_
  refine pu 11 (some 57) (bm 52 3071) HT_ ?_
  refine pu 12 (some 58) (bm 52 7167) HT_ ?_
  refine pu 13 (some 59) (bm 52 15359) HT_ ?_
  refine pu 14 (some 60) (bm 52 31743) HT_ ?_
  refine pu 15 (some 61) (bm 52 64511) HT_ ?_
  refine pu 16 (some 62) (bm 52 130047) HT_ ?_
  refine pu 17 (some 63) (bm 52 261119) HT_ ?_
  refine tk 10 (some 56) (bm 52 262143) HT_ HW_ hHeld ?_
  refine tk 18 (some 64) (bm 52 524287) HT_ HW_ hHeld ?_
  refine pu 19 (some 65) (bm 52 1048575) HT_ ?_
  refine pu 20 (some 66) (bm 52 2097151) HT_ ?_
  refine pu 21 (some 67) (bm 52 4194303) HT_ ?_
  refine pu 22 (some 68) (bm 52 8388607) HT_ ?_
  refine pu 23 (some 69) (bm 52 16777215) HT_ ?_
  refine pu 24 (some 70) (bm 52 33554431) HT_ ?_
  refine pu 25 (some 71) (bm 52 67108863) HT_ ?_
  refine pu 26 (some 72) (bm 52 134217727) HT_ ?_
  refine pu 27 (some 73) (bm 52 268435455) HT_ ?_
  refine pu 28 (some 74) (bm 52 536870911) HT_ ?_
  refine pu 30 (some 76) (bm 52 1610612735) HT_ ?_
  refine pu 31 (some 77) (bm 52 3758096383) HT_ ?_
  refine pu 32 (some 78) (bm 52 8053063679) HT_ ?_
  refine pu 33 (some 79) (bm 52 16642998271) HT_ ?_
  refine pu 34 (some 80) (bm 52 33822867455) HT_ ?_
  refine pu 35 (some 81) (bm 52 68182605823) HT_ ?_
  refine pu 36 (some 82) (bm 52 136902082559) HT_ ?_
  refine tk 29 (some 75) (bm 52 137438953471) HT_ HW_ hHeld ?_
  refine tk 37 (some 83) (bm 52 274877906943) HT_ HW_ hHeld ?_
  refine pu 38 (some 84) (bm 52 549755813887) HT_ ?_
  refine pu 39 (some 85) (bm 52 1099511627775) HT_ ?_
  refine pn 40 (some 86) (bm 52 2199023255551) HT_ ?_
  refine pn 41 (some 87) (bm 52 4398046511103) HT_ ?_
  refine pn 42 (some 88) (bm 52 8796093022207) HT_ ?_
  refine pn 43 (some 89) (bm 52 17592186044415) HT_ ?_
  refine pn 44 (some 90) (bm 52 35184372088831) HT_ ?_
  refine pn 45 (some 91) (bm 52 70368744177663) HT_ ?_
  refine pn 46 (some 92) (bm 52 140737488355327) HT_ ?_
  refine pn 47 (some 93) (bm 52 281474976710655) HT_ ?_
  refine pn 48 (some 94) (bm 52 562949953421311) HT_ ?_
  refine pn 49 (some 95) (bm 52 1125899906842623) HT_ ?_
  refine pu 50 (some 96) (bm 52 2251799813685247) HT_ ?_
  refine pu 51 (some 97) (bm 52 4503599627370495) HT_ ?_
  refine done_ (done_of HT_.out (by kernel_rfl)) ?_
  try go_wp2
  go_roundg kj7
  case measure => have := HK1.out; have := HJ7.out; omega
  case rel => exact ⟨(x7_1), (wrap64 (x12_1 + 1)), zR, zR, H', ⟨by have := HK1.out; have := HJ7.out; omega⟩, ⟨zK BK208⟩, ⟨zK BK209⟩, ⟨zB⟩⟩
 rw [if_pos c54] at H
 have c54b0 : (((rd_T64 a0_0 (16 * a1 + x12_1)).f1) == ((rd_T64 a0_0 (16 * a1 + x7_1)).f1)) = true := beq_iff_eq.mpr c54
 have c54b1 : (((rd_T64 a0_0 (16 * a1 + x12_1)).f1) != ((rd_T64 a0_0 (16 * a1 + x7_1)).f1)) = false := bne_eq_false_iff_eq.mpr c54
 clear c54
 by_cases c55 : x7_1 < (l2.length : Int)
 rotate_left
 · rw [if_neg c55] at H; exact absurd H (by simp)
 rw [if_pos c55] at H
 have c55b0 : decide (x7_1 < (l2.length : Int)) = true := decide_eq_true c55
 clear c55
 by_cases c56 : (((rd_T52 l2 x12_1).f0).length : Int) < (((rd_T52 l2 x7_1).f0).length : Int)
 ·
  rw [if_pos c56] at H
  have c56b0 : decide ((((rd_T52 l2 x12_1).f0).length : Int) < (((rd_T52 l2 x7_1).f0).length : Int)) = true := decide_eq_true c56
  have c56b1 : decide (((rd_T52 l2 x12_1).f0).length < ((rd_T52 l2 x7_1).f0).length) = true := decide_eq_true (Int.ofNat_lt.mp c56)
  clear c56
  have H' := Aside0.mk H
  clear H
  try go_wp2
  have n0_ := Aside0.mk (blk_drew BK208.out)
  have n1_ := Aside0.mk (blk_drew BK209.out)
  have n2_ := Aside0.mk (blk_drew BK222.out)
  have n3_ := Aside0.mk (below_drew1 HB.out)
  clear BK208
  clear BK209
  clear BK222
  clear HB
  have BK208 := n0_
  have BK209 := n1_
  have BK222 := n2_
  have HB := n3_
  clear n0_ n1_ n2_ n3_
  have pa226_0 := eq_true (od : 0 ≤ a1)
  have pa226_1 := eq_true (od : a1 < 16)
  have pa226_2 := eq_true (od : 0 ≤ x12_1)
  have pa226_3 := eq_true (od : x12_1 < 16)
  have pa227_0 := eq_true (od : 0 ≤ a1)
  have pa227_1 := eq_true (od : a1 < 16)
  have pa227_2 := eq_true (od : 0 ≤ x7_1)
  have pa227_3 := eq_true (od : x7_1 < 16)
  have pa228_0 := eq_true (od : 0 ≤ a1)
  have pa228_1 := eq_true (od : a1 < 16)
  have pa228_2 := eq_true (od : 0 ≤ x12_1)
  have pa228_3 := eq_true (od : x12_1 < 16)
  have pa229_0 := eq_true (od : 0 ≤ a1)
  have pa229_1 := eq_true (od : a1 < 16)
  have pa229_2 := eq_true (od : 0 ≤ x7_1)
  have pa229_3 := eq_true (od : x7_1 < 16)
  have p230 : 0 ≤ (x7_1 : Int) := od
  have q230 : x7_1 < (l2.length : Int) := od
  obtain ⟨ad230, A230_0, c230_0, e230, hx230_0, hl230_0, hi230_0⟩ := at_T52 HR2.out x7_1 p230 q230
  have hw230_0 := hx230_0
  obtain rfl : ad221 = ad230 := (by injection e230)
  replace hx230_0 := zL HB hx230_0
  have HR230_0 := Aside0.mk hi230_0
  have HC230_0 := Aside0.mk hl230_0
  clear hi230_0 hl230_0
  replace p230 := eq_true p230
  replace q230 := eq_true q230
  refine start_ (n := 52) (S := fun w' => w'.cell? ⟨gb222, 0, none⟩ = some (.slice A221_0 ((rd_T52 l2 x12_1).f0).length c221_0) ∧ w'.cell? ⟨gc0_0, (a1 : Int).toNat * 32 + (x12_1 : Int).toNat * 2 + 1, none⟩ = some (.int .i64 ((rd_T64 a0_0 (16 * a1 + x12_1)).f1)) ∧ w'.cell? ⟨gc0_0, (a1 : Int).toNat * 32 + (x7_1 : Int).toNat * 2 + 1, none⟩ = some (.int .i64 ((rd_T64 a0_0 (16 * a1 + x7_1)).f1)) ∧ w'.cell? ⟨gc0_0, (a1 : Int).toNat * 32 + (x12_1 : Int).toNat * 2 + 1, none⟩ = some (.int .i64 ((rd_T64 a0_0 (16 * a1 + x12_1)).f1)) ∧ w'.cell? ⟨gc0_0, (a1 : Int).toNat * 32 + (x7_1 : Int).toNat * 2 + 1, none⟩ = some (.int .i64 ((rd_T64 a0_0 (16 * a1 + x7_1)).f1)) ∧ w'.cell? (ad221.add (x7_1).toNat) = some (.slice A230_0 ((rd_T52 l2 x7_1).f0).length c230_0)) (ds := []) (bm 52 0) (by kernel_rfl) rfl rfl ⟨zT BK222 0, (arr_cell (enc := ag66_enc) ag66_len BK208.out z64 16 1 (Mi := 16) rfl (i := a1) (j := x12_1) (of_eq_true pa226_0) (of_eq_true pa226_2) (od) (by decide) rfl : _), (arr_cell (enc := ag66_enc) ag66_len BK208.out z64 16 1 (Mi := 16) rfl (i := a1) (j := x7_1) (of_eq_true pa227_0) (of_eq_true pa227_2) (od) (by decide) rfl : _), (arr_cell (enc := ag66_enc) ag66_len BK208.out z64 16 1 (Mi := 16) rfl (i := a1) (j := x12_1) (of_eq_true pa228_0) (of_eq_true pa228_2) (od) (by decide) rfl : _), (arr_cell (enc := ag66_enc) ag66_len BK208.out z64 16 1 (Mi := 16) rfl (i := a1) (j := x7_1) (of_eq_true pa229_0) (of_eq_true pa229_2) (od) (by decide) rfl : _), (zL HB hw230_0)⟩ (fun hHeld => ?_); refine with_tabW best_chosen.tab6 best_chosen.bits6 (fun HT_ HW_ => ?_)
  generalize wc.drew = w57 at BK208 BK209 BK222 HB HR230_0 hx230_0 hHeld ⊢
  refine pu 0 (some 46) (bm 52 1) HT_ ?_
  refine pu 1 (some 47) (bm 52 3) HT_ ?_
  refine pu 2 (some 48) (bm 52 7) HT_ ?_
  refine pu 3 (some 49) (bm 52 15) HT_ ?_
  refine pu 4 (some 50) (bm 52 31) HT_ ?_
  refine pu 5 (some 51) (bm 52 63) HT_ ?_
  refine pu 6 (some 52) (bm 52 127) HT_ ?_
  refine pu 7 (some 53) (bm 52 255) HT_ ?_
  refine pu 8 (some 54) (bm 52 511) HT_ ?_
  refine pu 9 (some 55) (bm 52 1023) HT_ ?_
  refine pu 11 (some 57) (bm 52 3071) HT_ ?_
  refine pu 12 (some 58) (bm 52 7167) HT_ ?_
  refine pu 13 (some 59) (bm 52 15359) HT_ ?_
  refine pu 14 (some 60) (bm 52 31743) HT_ ?_
  refine pu 15 (some 61) (bm 52 64511) HT_ ?_
  refine pu 16 (some 62) (bm 52 130047) HT_ ?_
  refine pu 17 (some 63) (bm 52 261119) HT_ ?_
  refine tk 10 (some 56) (bm 52 262143) HT_ HW_ hHeld ?_
  refine tk 18 (some 64) (bm 52 524287) HT_ HW_ hHeld ?_
  refine pu 19 (some 65) (bm 52 1048575) HT_ ?_
  refine pu 20 (some 66) (bm 52 2097151) HT_ ?_
  refine pu 21 (some 67) (bm 52 4194303) HT_ ?_
  refine pu 22 (some 68) (bm 52 8388607) HT_ ?_
  refine pu 23 (some 69) (bm 52 16777215) HT_ ?_
  refine pu 24 (some 70) (bm 52 33554431) HT_ ?_
  refine pu 25 (some 71) (bm 52 67108863) HT_ ?_
  refine pu 26 (some 72) (bm 52 134217727) HT_ ?_
  refine pu 27 (some 73) (bm 52 268435455) HT_ ?_
  refine pu 28 (some 74) (bm 52 536870911) HT_ ?_
  refine pu 30 (some 76) (bm 52 1610612735) HT_ ?_
  refine pu 31 (some 77) (bm 52 3758096383) HT_ ?_
  refine pu 32 (some 78) (bm 52 8053063679) HT_ ?_
  refine pu 33 (some 79) (bm 52 16642998271) HT_ ?_
  refine pu 34 (some 80) (bm 52 33822867455) HT_ ?_
  refine pu 35 (some 81) (bm 52 68182605823) HT_ ?_
  refine pu 36 (some 82) (bm 52 136902082559) HT_ ?_
  refine tk 29 (some 75) (bm 52 137438953471) HT_ HW_ hHeld ?_
  refine tk 37 (some 83) (bm 52 274877906943) HT_ HW_ hHeld ?_
  refine pu 38 (some 84) (bm 52 549755813887) HT_ ?_
  refine pu 39 (some 85) (bm 52 1099511627775) HT_ ?_
  refine pu 40 (some 86) (bm 52 2199023255551) HT_ ?_
  refine pu 43 (some 89) (bm 52 10995116277759) HT_ ?_
  refine pu 44 (some 90) (bm 52 28587302322175) HT_ ?_
  refine pu 45 (some 91) (bm 52 63771674411007) HT_ ?_
  refine pu 46 (some 92) (bm 52 134140418588671) HT_ ?_
  refine tk 41 (some 87) (bm 52 136339441844223) HT_ HW_ hHeld ?_
  refine pu 42 (some 88) (bm 52 140737488355327) HT_ ?_
  refine tk 47 (some 93) (bm 52 281474976710655) HT_ HW_ hHeld ?_
  refine pu 48 (some 94) (bm 52 562949953421311) HT_ ?_
  refine pu 49 (some 95) (bm 52 1125899906842623) HT_ ?_
  refine pu 50 (some 96) (bm 52 2251799813685247) HT_ ?_
  refine pu 51 (some 97) (bm 52 4503599627370495) HT_ ?_
  refine done_ (done_of HT_.out (by kernel_rfl)) ?_
  try go_wp2
  go_roundg kj7
  case measure => have := HK1.out; have := HJ7.out; omega
  case rel => exact ⟨(x12_1), (wrap64 (x12_1 + 1)), zR, zR, H', ⟨by have := HK1.out; have := HJ7.out; omega⟩, ⟨zK BK208⟩, ⟨zK BK209⟩, ⟨zB⟩⟩
 rw [if_neg c56] at H
 have c56b0 : decide ((((rd_T52 l2 x12_1).f0).length : Int) < (((rd_T52 l2 x7_1).f0).length : Int)) = false := decide_eq_false c56
 have c56b1 : decide (((rd_T52 l2 x12_1).f0).length < ((rd_T52 l2 x7_1).f0).length) = false := decide_eq_false (fun h => c56 (Int.ofNat_lt.mpr h))
 clear c56
 have H' := Aside0.mk H
 clear H
 try go_wp2
 have n0_ := Aside0.mk (blk_drew BK208.out)
 have n1_ := Aside0.mk (blk_drew BK209.out)
 have n2_ := Aside0.mk (blk_drew BK222.out)
 have n3_ := Aside0.mk (below_drew1 HB.out)
 clear BK208
 clear BK209
 clear BK222
 clear HB
 have BK208 := n0_
 have BK209 := n1_
 have BK222 := n2_
 have HB := n3_
 clear n0_ n1_ n2_ n3_
 have pa226_0 := eq_true (od : 0 ≤ a1)
 have pa226_1 := eq_true (od : a1 < 16)
 have pa226_2 := eq_true (od : 0 ≤ x12_1)
 have pa226_3 := eq_true (od : x12_1 < 16)
 have pa227_0 := eq_true (od : 0 ≤ a1)
 have pa227_1 := eq_true (od : a1 < 16)
 have pa227_2 := eq_true (od : 0 ≤ x7_1)
 have pa227_3 := eq_true (od : x7_1 < 16)
 have pa228_0 := eq_true (od : 0 ≤ a1)
 have pa228_1 := eq_true (od : a1 < 16)
 have pa228_2 := eq_true (od : 0 ≤ x12_1)
 have pa228_3 := eq_true (od : x12_1 < 16)
 have pa229_0 := eq_true (od : 0 ≤ a1)
 have pa229_1 := eq_true (od : a1 < 16)
 have pa229_2 := eq_true (od : 0 ≤ x7_1)
 have pa229_3 := eq_true (od : x7_1 < 16)
 have p230 : 0 ≤ (x7_1 : Int) := od
 have q230 : x7_1 < (l2.length : Int) := od
 obtain ⟨ad230, A230_0, c230_0, e230, hx230_0, hl230_0, hi230_0⟩ := at_T52 HR2.out x7_1 p230 q230
 have hw230_0 := hx230_0
 obtain rfl : ad221 = ad230 := (by injection e230)
 replace hx230_0 := zL HB hx230_0
 have HR230_0 := Aside0.mk hi230_0
 have HC230_0 := Aside0.mk hl230_0
 clear hi230_0 hl230_0
 replace p230 := eq_true p230
 replace q230 := eq_true q230
 refine start_ (n := 52) (S := fun w' => w'.cell? ⟨gb222, 0, none⟩ = some (.slice A221_0 ((rd_T52 l2 x12_1).f0).length c221_0) ∧ w'.cell? ⟨gc0_0, (a1 : Int).toNat * 32 + (x12_1 : Int).toNat * 2 + 1, none⟩ = some (.int .i64 ((rd_T64 a0_0 (16 * a1 + x12_1)).f1)) ∧ w'.cell? ⟨gc0_0, (a1 : Int).toNat * 32 + (x7_1 : Int).toNat * 2 + 1, none⟩ = some (.int .i64 ((rd_T64 a0_0 (16 * a1 + x7_1)).f1)) ∧ w'.cell? ⟨gc0_0, (a1 : Int).toNat * 32 + (x12_1 : Int).toNat * 2 + 1, none⟩ = some (.int .i64 ((rd_T64 a0_0 (16 * a1 + x12_1)).f1)) ∧ w'.cell? ⟨gc0_0, (a1 : Int).toNat * 32 + (x7_1 : Int).toNat * 2 + 1, none⟩ = some (.int .i64 ((rd_T64 a0_0 (16 * a1 + x7_1)).f1)) ∧ w'.cell? (ad221.add (x7_1).toNat) = some (.slice A230_0 ((rd_T52 l2 x7_1).f0).length c230_0)) (ds := []) (bm 52 0) (by kernel_rfl) rfl rfl ⟨zT BK222 0, (arr_cell (enc := ag66_enc) ag66_len BK208.out z64 16 1 (Mi := 16) rfl (i := a1) (j := x12_1) (of_eq_true pa226_0) (of_eq_true pa226_2) (od) (by decide) rfl : _), (arr_cell (enc := ag66_enc) ag66_len BK208.out z64 16 1 (Mi := 16) rfl (i := a1) (j := x7_1) (of_eq_true pa227_0) (of_eq_true pa227_2) (od) (by decide) rfl : _), (arr_cell (enc := ag66_enc) ag66_len BK208.out z64 16 1 (Mi := 16) rfl (i := a1) (j := x12_1) (of_eq_true pa228_0) (of_eq_true pa228_2) (od) (by decide) rfl : _), (arr_cell (enc := ag66_enc) ag66_len BK208.out z64 16 1 (Mi := 16) rfl (i := a1) (j := x7_1) (of_eq_true pa229_0) (of_eq_true pa229_2) (od) (by decide) rfl : _), (zL HB hw230_0)⟩ (fun hHeld => ?_); refine with_tabW best_chosen.tab6 best_chosen.bits6 (fun HT_ HW_ => ?_)
 generalize wc.drew = w58 at BK208 BK209 BK222 HB HR230_0 hx230_0 hHeld ⊢
 refine pu 0 (some 46) (bm 52 1) HT_ ?_
 refine pu 1 (some 47) (bm 52 3) HT_ ?_
 refine pu 2 (some 48) (bm 52 7) HT_ ?_
 refine pu 3 (some 49) (bm 52 15) HT_ ?_
 refine pu 4 (some 50) (bm 52 31) HT_ ?_
 refine pu 5 (some 51) (bm 52 63) HT_ ?_
 refine pu 6 (some 52) (bm 52 127) HT_ ?_
 refine pu 7 (some 53) (bm 52 255) HT_ ?_
 refine pu 8 (some 54) (bm 52 511) HT_ ?_
 refine pu 9 (some 55) (bm 52 1023) HT_ ?_
 refine pu 11 (some 57) (bm 52 3071) HT_ ?_
 refine pu 12 (some 58) (bm 52 7167) HT_ ?_
 refine pu 13 (some 59) (bm 52 15359) HT_ ?_
 refine pu 14 (some 60) (bm 52 31743) HT_ ?_
 refine pu 15 (some 61) (bm 52 64511) HT_ ?_
 refine pu 16 (some 62) (bm 52 130047) HT_ ?_
 refine pu 17 (some 63) (bm 52 261119) HT_ ?_
 refine tk 10 (some 56) (bm 52 262143) HT_ HW_ hHeld ?_
 refine tk 18 (some 64) (bm 52 524287) HT_ HW_ hHeld ?_
 refine pu 19 (some 65) (bm 52 1048575) HT_ ?_
 refine pu 20 (some 66) (bm 52 2097151) HT_ ?_
 refine pu 21 (some 67) (bm 52 4194303) HT_ ?_
 refine pu 22 (some 68) (bm 52 8388607) HT_ ?_
 refine pu 23 (some 69) (bm 52 16777215) HT_ ?_
 refine pu 24 (some 70) (bm 52 33554431) HT_ ?_
 refine pu 25 (some 71) (bm 52 67108863) HT_ ?_
 refine pu 26 (some 72) (bm 52 134217727) HT_ ?_
 refine pu 27 (some 73) (bm 52 268435455) HT_ ?_
 refine pu 28 (some 74) (bm 52 536870911) HT_ ?_
 refine pu 30 (some 76) (bm 52 1610612735) HT_ ?_
 refine pu 31 (some 77) (bm 52 3758096383) HT_ ?_
 refine pu 32 (some 78) (bm 52 8053063679) HT_ ?_
 refine pu 33 (some 79) (bm 52 16642998271) HT_ ?_
 refine pu 34 (some 80) (bm 52 33822867455) HT_ ?_
 refine pu 35 (some 81) (bm 52 68182605823) HT_ ?_
 refine pu 36 (some 82) (bm 52 136902082559) HT_ ?_
 refine tk 29 (some 75) (bm 52 137438953471) HT_ HW_ hHeld ?_
 refine tk 37 (some 83) (bm 52 274877906943) HT_ HW_ hHeld ?_
 refine pu 38 (some 84) (bm 52 549755813887) HT_ ?_
 refine pu 39 (some 85) (bm 52 1099511627775) HT_ ?_
 refine pu 40 (some 86) (bm 52 2199023255551) HT_ ?_
 refine pu 43 (some 89) (bm 52 10995116277759) HT_ ?_
 refine pu 44 (some 90) (bm 52 28587302322175) HT_ ?_
 refine pu 45 (some 91) (bm 52 63771674411007) HT_ ?_
 refine pu 46 (some 92) (bm 52 134140418588671) HT_ ?_
 refine tk 41 (some 87) (bm 52 136339441844223) HT_ HW_ hHeld ?_
 refine pu 42 (some 88) (bm 52 140737488355327) HT_ ?_
 refine tk 47 (some 93) (bm 52 281474976710655) HT_ HW_ hHeld ?_
 refine pu 48 (some 94) (bm 52 562949953421311) HT_ ?_
 refine pu 49 (some 95) (bm 52 1125899906842623) HT_ ?_
 refine pu 50 (some 96) (bm 52 2251799813685247) HT_ ?_
 refine pu 51 (some 97) (bm 52 4503599627370495) HT_ ?_
 refine done_ (done_of HT_.out (by kernel_rfl)) ?_
 try go_wp2
 go_roundg kj7
 case measure => have := HK1.out; have := HJ7.out; omega
 case rel => exact ⟨(x7_1), (wrap64 (x12_1 + 1)), zR, zR, H', ⟨by have := HK1.out; have := HJ7.out; omega⟩, ⟨zK BK208⟩, ⟨zK BK209⟩, ⟨zB⟩⟩
end Go.Proofs.Ytplcdbhklepkgaa.BS
