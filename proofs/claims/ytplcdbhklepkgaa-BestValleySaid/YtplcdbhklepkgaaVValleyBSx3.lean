-- Made by gen.py, a program of this session's, over the kit's print.
import Derived.Test.YtplcdbhklepkgaaVValleyShort
import Derived.Test.YtplcdbhklepkgaaVValleyBSx0
import Derived.Test.YtplcdbhklepkgaaVValleyBSx2
import Derived.Test.YtplcdbhklepkgaaVValleyExtTies
namespace Go.Proofs.Ytplcdbhklepkgaa.BS
open Go.RowKit Go.Proofs.YtplcdbhklepkgaaW.PrintWords Go.Proofs.YtplcdbhklepkgaaW.PrintLast Go.Proofs.YtplcdbhklepkgaaW.PrintMore Go.Proofs.Ytplcdbhklepkgaa.GenWords
attribute [local go_sem] max2_int min2_int max_two min_two max_three min_three max_four min_four   -- for this text's walks alone
set_option linter.unusedVariables false
set_option linter.unusedSimpArgs false

/-! ### best_formed: function 35 -/
mutual
def best_formed.l0 : Nat → List (S52) → Int → Int → Int → List (S71) → List S64 → Option (Bool)
  | 0, _, _, _, _, _, _ => none
  | k + 1, x17, x18, x19, x112000, x112001, x114000 => if x19 < x18 then (if 0 ≤ x19 then (if x19 < (x17.length : Int) then (best_formed.l1 k x19 x17 x18 x19 ((rd_T52 x17 x19).f0) (((rd_T52 x17 x19).f0).length : Int) 0 x112000 x112001 x114000 ((rd_T52 x17 x19).f0)) else (none)) else (none)) else (some true)
def best_formed.l1 : Nat → Int → List (S52) → Int → Int → List Int → Int → Int → Int → List (S71) → List S64 → List Int → Option (Bool)
  | 0, _, _, _, _, _, _, _, _, _, _, _ => none
  | k + 1, x6, x17, x18, x19, x25, x26, x27, x112000, x112001, x114000, x116000 => if x27 < x26 then (if 0 ≤ x27 then (if x27 < (x25.length : Int) then (if (rd x25 x27) < 0 then (best_formed.j2 k x6 x27 (rd x25 x27) x17 x18 x19 x25 x26 x27 true x112000 x112001 x114000 x116000) else (if (rd x25 x27) ≥ x112000 then (best_formed.j2 k x6 x27 (rd x25 x27) x17 x18 x19 x25 x26 x27 true x112000 x112001 x114000 x116000) else (if x27 = 0 then (if (rd x25 x27) = x6 then (if x27 ≤ (x116000.length : Int) then ((g15_.f k (x116000.take (x27 : Int).toNat) (rd x25 x27)).bind fun t118 => (best_formed.j2 k x6 x27 (rd x25 x27) x17 x18 x19 x25 x26 x27 t118 x112000 x112001 x114000 x116000)) else (none)) else (best_formed.j2 k x6 x27 (rd x25 x27) x17 x18 x19 x25 x26 x27 true x112000 x112001 x114000 x116000)) else (if x27 ≤ (x116000.length : Int) then ((g15_.f k (x116000.take (x27 : Int).toNat) (rd x25 x27)).bind fun t120 => (best_formed.j2 k x6 x27 (rd x25 x27) x17 x18 x19 x25 x26 x27 t120 x112000 x112001 x114000 x116000)) else (none))))) else (none)) else (none)) else (best_formed.l0 k x17 x18 (wrap64 (x19 + 1)) x112000 x112001 x114000)
def best_formed.j2 : Nat → Int → Int → Int → List (S52) → Int → Int → List Int → Int → Int → Bool → Int → List (S71) → List S64 → List Int → Option (Bool)
  | 0, _, _, _, _, _, _, _, _, _, _, _, _, _, _ => none
  | k + 1, x6, x8, x9, x17, x18, x19, x25, x26, x27, x32, x112000, x112001, x114000, x116000 => if x32 = true then (some false) else (if x8 > 0 then (if 0 ≤ (wrap64 (x8 - 1)) then (if (wrap64 (x8 - 1)) < (x116000.length : Int) then (if 0 ≤ (rd x116000 (wrap64 (x8 - 1))) then (if (rd x116000 (wrap64 (x8 - 1))) < 16 then (if 0 ≤ x9 then (if x9 < 16 then (if 16 * (rd x116000 (wrap64 (x8 - 1))) + x9 < (x114000.length : Int) then (if ((rd_T64 x114000 (16 * (rd x116000 (wrap64 (x8 - 1))) + x9)).f0) = 0 then (some false) else (best_formed.l1 k x6 x17 x18 x19 x25 x26 (wrap64 (x27 + 1)) x112000 x112001 x114000 x116000)) else (none)) else (none)) else (none)) else (none)) else (none)) else (none)) else (none)) else (best_formed.l1 k x6 x17 x18 x19 x25 x26 (wrap64 (x27 + 1)) x112000 x112001 x114000 x116000))
end
def best_formed.f (k : Nat) (a0_0 : Int) (l0_1 : List (S71)) (l1 : List (S52)) : Option (Bool) := if (l1.length : Int) = a0_0 then ((best_ties.f k a0_0 l0_1).bind fun t112 => (if t112.length = 256 then (best_formed.l0 k l1 (l1.length : Int) 0 a0_0 l0_1 t112) else (none))) else (some false)
theorem best_formed.mono_l : ∀ k, (∀ y0 y1 y2 y3 y4 y5, LeO (best_formed.l0 k y0 y1 y2 y3 y4 y5) (best_formed.l0 (k + 1) y0 y1 y2 y3 y4 y5)) ∧ (∀ y0 y1 y2 y3 y4 y5 y6 y7 y8 y9 y10, LeO (best_formed.l1 k y0 y1 y2 y3 y4 y5 y6 y7 y8 y9 y10) (best_formed.l1 (k + 1) y0 y1 y2 y3 y4 y5 y6 y7 y8 y9 y10)) ∧ (∀ y0 y1 y2 y3 y4 y5 y6 y7 y8 y9 y10 y11 y12 y13, LeO (best_formed.j2 k y0 y1 y2 y3 y4 y5 y6 y7 y8 y9 y10 y11 y12 y13) (best_formed.j2 (k + 1) y0 y1 y2 y3 y4 y5 y6 y7 y8 y9 y10 y11 y12 y13))
  | 0 => ⟨fun _ _ _ _ _ _ r h => by simp [best_formed.l0] at h, fun _ _ _ _ _ _ _ _ _ _ _ r h => by simp [best_formed.l1] at h, fun _ _ _ _ _ _ _ _ _ _ _ _ _ _ r h => by simp [best_formed.j2] at h⟩
  | k + 1 => by
    obtain ⟨ih0, ih1, ih2⟩ := best_formed.mono_l k
    refine ⟨?_, ?_, ?_⟩
    · intro y0 y1 y2 y3 y4 y5
      unfold best_formed.l0
      repeat' (with_reducible first | exact ih0 _ _ _ _ _ _ | exact ih1 _ _ _ _ _ _ _ _ _ _ _ | exact ih2 _ _ _ _ _ _ _ _ _ _ _ _ _ _ | exact best_ties.mono _ _ _ | exact g15_.mono _ _ _ | exact LeO.refl _ | exact LeO.none _ | refine LeO.ite ?_ ?_ | refine LeO.bind ?_ (fun _ => ?_))
    · intro y0 y1 y2 y3 y4 y5 y6 y7 y8 y9 y10
      unfold best_formed.l1
      repeat' (with_reducible first | exact ih0 _ _ _ _ _ _ | exact ih1 _ _ _ _ _ _ _ _ _ _ _ | exact ih2 _ _ _ _ _ _ _ _ _ _ _ _ _ _ | exact best_ties.mono _ _ _ | exact g15_.mono _ _ _ | exact LeO.refl _ | exact LeO.none _ | refine LeO.ite ?_ ?_ | refine LeO.bind ?_ (fun _ => ?_))
    · intro y0 y1 y2 y3 y4 y5 y6 y7 y8 y9 y10 y11 y12 y13
      unfold best_formed.j2
      repeat' (with_reducible first | exact ih0 _ _ _ _ _ _ | exact ih1 _ _ _ _ _ _ _ _ _ _ _ | exact ih2 _ _ _ _ _ _ _ _ _ _ _ _ _ _ | exact best_ties.mono _ _ _ | exact g15_.mono _ _ _ | exact LeO.refl _ | exact LeO.none _ | refine LeO.ite ?_ ?_ | refine LeO.bind ?_ (fun _ => ?_))
theorem best_formed.mono : ∀ a0 a1 a2 k, LeO (best_formed.f k a0 a1 a2) (best_formed.f (k + 1) a0 a1 a2) := by
  intro a0 a1 a2 k
  obtain ⟨ih0, ih1, ih2⟩ := best_formed.mono_l k
  unfold best_formed.f
  repeat' (with_reducible first | exact ih0 _ _ _ _ _ _ | exact ih1 _ _ _ _ _ _ _ _ _ _ _ | exact ih2 _ _ _ _ _ _ _ _ _ _ _ _ _ _ | exact best_ties.mono _ _ _ | exact g15_.mono _ _ _ | exact LeO.refl _ | exact LeO.none _ | refine LeO.ite ?_ ?_ | refine LeO.bind ?_ (fun _ => ?_))
set_option maxHeartbeats 8000000 in
set_option maxRecDepth 100000 in
theorem best_formed.calls (k : Nat) (a0_0 : Int) (A0_1 : Option Addr) (c0_1 : Nat) (l0_1 : List (S71)) (A1 : Option Addr) (c1 : Nat) (l1 : List (S52)) (r : Bool) (w : World) (hr0_1 : Kd.C k71 w A0_1 l0_1.length l0_1) (hc0_1 : l0_1.length ≤ c0_1) (hr1 : Kd.C k52 w A1 l1.length l1) (hc1 : l1.length ≤ c1) (h : best_formed.f k a0_0 l0_1 l1 = some r) :
 Calls Try.prog 35 #[.agg #[.int .i64 a0_0, .slice A0_1 l0_1.length c0_1], .slice A1 l1.length c1] w fun e w' => e = .returned (.bool r) ∧ Below w.heap.size w w' := by
 have hu42 := Try.underlying42
 have hu3 := Try.underlying3
 have hu66 := Try.underlying66
 have hu52 := Try.underlying52
 have hu33 := Try.underlying33
 have HR0_1 := Aside0.mk hr0_1
 have HC0_1 := Aside0.mk hc0_1
 clear hr0_1 hc0_1
 have HR1 := Aside0.mk hr1
 have HC1 := Aside0.mk hc1
 clear hr1 hc1
 have HB := Aside0.mk (Below.refl w.heap.size w)
 have H : (if (l1.length : Int) = a0_0 then ((best_ties.f k a0_0 l0_1).bind fun t112 => (if t112.length = 256 then (best_formed.l0 k l1 (l1.length : Int) 0 a0_0 l0_1 t112) else (none))) else (some false)) = some r := h
 clear h
 by_cases c3 : (l1.length : Int) = a0_0
 rotate_left
 ·
  rw [if_neg c3] at H
  have c3b0 : ((l1.length : Int) == a0_0) = false := beq_eq_false_iff_ne.mpr c3
  have c3b1 : ((l1.length : Int) != a0_0) = true := bne_iff_ne.mpr c3
  obtain rfl := Option.some.inj H
  go_enter Try.func35, Try.ntmps35
  go_wp2_with (first | ((with_reducible refine gate_dst (N := 2) rfl ?_); refine bx 2 (#[.int .i64 a0_0, .slice A0_1 l0_1.length c0_1]) 42 ?_; intro gb111 hg w70 hbox hb; have n0_ := Aside0.mk (below_step zB hb); have n1_ := Aside0.mk (hbox); have n2_ := Aside0.mk ((zG hg : w.heap.size ≤ gb111)); have n3_ := Aside0.mk ((zG hg : w.heap.size ≤ gb111)); clear HB; have HB := n0_; have BK111 := n1_; have GW111 := n2_; have GE111 := n3_; clear n0_ n1_ n2_ n3_; clear hb hbox hg; have hcz71_0 : w70.cell? ⟨gb111, 0, none⟩ = some (.int .i64 a0_0) := zT BK111 0; have hcz71_1 : w70.cell? ⟨gb111, 1, none⟩ = some (.slice A0_1 l0_1.length c0_1) := zT BK111 1; have hfz71_0 := blk_frozen BK111.out 0; have hfz71_1 := blk_frozen BK111.out 1))
  go_ret
  exact ⟨zE, zB⟩
 rw [if_pos c3] at H
 have c3b0 : ((l1.length : Int) == a0_0) = true := beq_iff_eq.mpr c3
 have c3b1 : ((l1.length : Int) != a0_0) = false := bne_eq_false_iff_eq.mpr c3
 clear c3
 replace H := Option.bind_eq_some_iff.mp H
 obtain ⟨t112, A40, H⟩ := H
 replace H : (if t112.length = 256 then (best_formed.l0 k l1 (l1.length : Int) 0 a0_0 l0_1 t112) else (none)) = some r := H
 have A4 := Aside0.mk A40
 clear A40
 by_cases c5 : t112.length = 256
 rotate_left
 · rw [if_neg c5] at H; exact absurd H (by simp)
 rw [if_pos c5] at H
 have LMc5 := Aside0.mk c5
 clear c5
 have H' := Aside0.mk H
 clear H
 go_enter Try.func35, Try.ntmps35
 go_wp2_with (first | ((with_reducible refine gate_dst (N := 2) rfl ?_); refine bx 2 (#[.int .i64 a0_0, .slice A0_1 l0_1.length c0_1]) 42 ?_; intro gb111 hg w6 hbox hb; have n0_ := Aside0.mk (below_step zB hb); have n1_ := Aside0.mk (hbox); have n2_ := Aside0.mk ((zG hg : w.heap.size ≤ gb111)); have n3_ := Aside0.mk ((zG hg : w.heap.size ≤ gb111)); clear HB; have HB := n0_; have BK111 := n1_; have GW111 := n2_; have GE111 := n3_; clear n0_ n1_ n2_ n3_; clear hb hbox hg; have hcz7_0 : w6.cell? ⟨gb111, 0, none⟩ = some (.int .i64 a0_0) := zT BK111 0; have hcz7_1 : w6.cell? ⟨gb111, 1, none⟩ = some (.slice A0_1 l0_1.length c0_1) := zT BK111 1; have hfz7_0 := blk_frozen BK111.out 0; have hfz7_1 := blk_frozen BK111.out 1) | ((with_reducible refine gate_callee (f := 28) rfl ?_); refine goesL_ (some 16) rfl rfl Try.func28 (by kernel_rfl) rfl #[.agg #[.int .i64 a0_0, .slice A0_1 l0_1.length c0_1]] rfl zM ?_; (with_reducible refine (best_ties.calls k a0_0 _ _ l0_1 t112 _ ?side1 ?side2 A4.out).mono ?_); (case side1 => exact zC HR0_1 HB); (case side2 => exact HC0_1.out); rintro e w8 ⟨rfl, hb⟩; refine ⟨_, rfl, ?_⟩; have n0_ := Aside0.mk (blk_below (g := gb111) (o := .cells #[.int .i64 a0_0, .slice A0_1 l0_1.length c0_1] 42 (0, 0)) (zK BK111) hb); have n1_ := Aside0.mk (below_step zB hb); clear BK111; clear HB; have BK111 := n0_; have HB := n1_; clear n0_ n1_; (try clear hb); (try clear hb2); (try clear hk); (try clear hi)) | ((with_reducible refine gate_dst (N := 5) rfl ?_); refine arr_event (N := 5) rfl rfl rfl rfl rfl rfl infoA66 ((ag66_size _).trans (by rw [List.length_replicate])) (cs := ag66 t112) ((ag66_size _).trans (by have := LMc5.out; omega)) (ag66_one _) ?hn ?hx ?_; (case hn => first | rfl | (go_simp; done) | (go_simp; rfl)); (case hx => first | rfl | (go_simp; done) | (go_simp; rfl)); intro gb113 hg w9 hbox hb; have n0_ := Aside0.mk (blk_below (g := gb111) (o := .cells #[.int .i64 a0_0, .slice A0_1 l0_1.length c0_1] 42 (0, 0)) (zK BK111) hb); have n1_ := Aside0.mk (below_step zB hb); have n2_ := Aside0.mk (hbox); have n3_ := Aside0.mk ((zG hg : w.heap.size ≤ gb113)); have n4_ := Aside0.mk ((zG hg : w.heap.size ≤ gb113)); have n5_ := Aside0.mk ((by rw [hg]; exact Nat.ne_of_lt (blk_lt (g := gb111) (o := .cells #[.int .i64 a0_0, .slice A0_1 l0_1.length c0_1] 42 (0, 0)) (zK BK111)) : gb111 ≠ gb113)); have n6_ := Aside0.mk ((by rw [hg]; exact Nat.ne_of_gt (blk_lt (g := gb111) (o := .cells #[.int .i64 a0_0, .slice A0_1 l0_1.length c0_1] 42 (0, 0)) (zK BK111)) : gb113 ≠ gb111)); clear BK111; clear HB; have BK111 := n0_; have HB := n1_; have BK113 := n2_; have GW113 := n3_; have GE113 := n4_; have NB111_113 := n5_; have NB113_111 := n6_; clear n0_ n1_ n2_ n3_ n4_ n5_ n6_; clear hb hbox hg))
 go_loopg [19] k (fun kq v19 w' => ∃ (x19_1 : Int), v19 = .int .i64 x19_1 ∧ Aside0 (best_formed.l0 kq l1 (l1.length : Int) x19_1 a0_0 l0_1 t112 = some r) ∧ Aside0 (kq ≤ k) ∧ Aside0 (w'.heap[gb111]? = some (.cells #[.int .i64 a0_0, (.slice A0_1 l0_1.length c0_1)] 42 (0, 0))) ∧ Aside0 (w'.heap[gb113]? = some (.cells (ag66 t112) 66 (0, 0))) ∧ Aside0 (Below w.heap.size w w'))
 case atStart => exact ⟨(0), zR, H', ⟨Nat.le_refl _⟩, ⟨zK BK111⟩, ⟨zK BK113⟩, ⟨zB⟩⟩
 clear H'
 try clear c1
 try clear c2
 try clear p2
 try clear c3
 try clear c3b0
 try clear c3b1
 try clear c5
 try clear hcz7_0
 try clear hcz7_1
 try clear hfz7_0
 try clear hfz7_1
 obtain ⟨x19_1, rfl, HA, HK1, BK111, BK113, HB⟩ := hrel
 rcases gk with _ | k1
 · exact absurd HA.out (by simp [best_formed.l0])
 have H := HA.out
 clear HA
 simp only [best_formed.l0] at H
 by_cases c10 : x19_1 < (l1.length : Int)
 rotate_left
 ·
  rw [if_neg c10] at H
  have c10b0 : decide (x19_1 < (l1.length : Int)) = false := decide_eq_false c10
  clear c10
  obtain rfl := Option.some.inj H
  go_wp2
  go_ret
  exact ⟨zE, zB⟩
 rw [if_pos c10] at H
 have c10b0 : decide (x19_1 < (l1.length : Int)) = true := decide_eq_true c10
 clear c10
 by_cases c11 : 0 ≤ x19_1
 rotate_left
 · rw [if_neg c11] at H; exact absurd H (by simp)
 rw [if_pos c11] at H
 have c11b0 : decide (0 ≤ x19_1) = true := decide_eq_true c11
 clear c11
 by_cases c12 : x19_1 < (l1.length : Int)
 rotate_left
 · rw [if_neg c12] at H; exact absurd H (by simp)
 rw [if_pos c12] at H
 have c12b0 : decide (x19_1 < (l1.length : Int)) = true := decide_eq_true c12
 clear c12
 have H' := Aside0.mk H
 clear H
 have p114 : 0 ≤ (x19_1 : Int) := od
 have q114 : x19_1 < (l1.length : Int) := od
 obtain ⟨ad114, A114_0, c114_0, e114, hx114_0, hl114_0, hi114_0⟩ := at_T52 HR1.out x19_1 p114 q114
 cases e114
 replace hx114_0 := zL HB hx114_0
 have HR114_0 := Aside0.mk hi114_0
 have HC114_0 := Aside0.mk hl114_0
 clear hi114_0 hl114_0
 replace p114 := eq_true p114
 replace q114 := eq_true q114
 go_wp2_with (first | ((with_reducible refine gate_dst (N := 7) rfl ?_); refine bx 7 (#[.slice none 0 0]) 52 ?_; intro gb115 hg w13 hbox hb; have n0_ := Aside0.mk (blk_below (g := gb111) (o := .cells #[.int .i64 a0_0, .slice A0_1 l0_1.length c0_1] 42 (0, 0)) (zK BK111) hb); have n1_ := Aside0.mk (blk_below (g := gb113) (o := .cells (ag66 t112) 66 (0, 0)) (zK BK113) hb); have n2_ := Aside0.mk (below_step zB hb); have n3_ := Aside0.mk (hbox); have n4_ := Aside0.mk ((zG hg : w.heap.size ≤ gb115)); have n5_ := Aside0.mk ((zG hg : w.heap.size ≤ gb115)); have n6_ := Aside0.mk ((by rw [hg]; exact Nat.ne_of_lt (blk_lt (g := gb111) (o := .cells #[.int .i64 a0_0, .slice A0_1 l0_1.length c0_1] 42 (0, 0)) (zK BK111)) : gb111 ≠ gb115)); have n7_ := Aside0.mk ((by rw [hg]; exact Nat.ne_of_gt (blk_lt (g := gb111) (o := .cells #[.int .i64 a0_0, .slice A0_1 l0_1.length c0_1] 42 (0, 0)) (zK BK111)) : gb115 ≠ gb111)); have n8_ := Aside0.mk ((by rw [hg]; exact Nat.ne_of_lt (blk_lt (g := gb113) (o := .cells (ag66 t112) 66 (0, 0)) (zK BK113)) : gb113 ≠ gb115)); have n9_ := Aside0.mk ((by rw [hg]; exact Nat.ne_of_gt (blk_lt (g := gb113) (o := .cells (ag66 t112) 66 (0, 0)) (zK BK113)) : gb115 ≠ gb113)); clear BK111; clear BK113; clear HB; have BK111 := n0_; have BK113 := n1_; have HB := n2_; have BK115 := n3_; have GW115 := n4_; have GE115 := n5_; have NB111_115 := n6_; have NB115_111 := n7_; have NB113_115 := n8_; have NB115_113 := n9_; clear n0_ n1_ n2_ n3_ n4_ n5_ n6_ n7_ n8_ n9_; clear hb hbox hg; have hnb14 := NB115_111.out; have hnc14 := NB111_115.out; have hnb15 := NB115_113.out; have hnc15 := NB113_115.out; have hcz16_0 : w13.cell? ⟨gb115, 0, none⟩ = some (.slice none 0 0) := zT BK115 0; have hfz16_0 := blk_frozen BK115.out 0))
 go_loopg [27] k1 (fun kq v27 w' => ∃ (x27_2 : Int), v27 = .int .i64 x27_2 ∧ Aside0 (best_formed.l1 kq x19_1 l1 (l1.length : Int) x19_1 ((rd_T52 l1 x19_1).f0) (((rd_T52 l1 x19_1).f0).length : Int) x27_2 a0_0 l0_1 t112 ((rd_T52 l1 x19_1).f0) = some r) ∧ Aside0 (kq ≤ k1) ∧ Aside0 (w'.heap[gb111]? = some (.cells #[.int .i64 a0_0, (.slice A0_1 l0_1.length c0_1)] 42 (0, 0))) ∧ Aside0 (w'.heap[gb113]? = some (.cells (ag66 t112) 66 (0, 0))) ∧ Aside0 (w'.heap[gb115]? = some (.cells #[(.slice A114_0 ((rd_T52 l1 x19_1).f0).length c114_0)] 52 (0, 0))) ∧ Aside0 (Below w.heap.size w w'))
 case atStart => exact ⟨(0), zR, H', ⟨Nat.le_refl _⟩, ⟨by (with_reducible repeat (first | refine blk_drewN ?_ _ | refine blk_drew ?_ | refine blk_alloc ?_ _)); refine blk_far ?_ NB111_115.out _; (with_reducible repeat (first | refine blk_drewN ?_ _ | refine blk_drew ?_ | refine blk_alloc ?_ _)); exact BK111.out⟩, ⟨by (with_reducible repeat (first | refine blk_drewN ?_ _ | refine blk_drew ?_ | refine blk_alloc ?_ _)); refine blk_far ?_ NB113_115.out _; (with_reducible repeat (first | refine blk_drewN ?_ _ | refine blk_drew ?_ | refine blk_alloc ?_ _)); exact BK113.out⟩, ⟨by (with_reducible repeat (first | refine blk_drewN ?_ _ | refine blk_drew ?_ | refine blk_alloc ?_ _)); refine blk_put (cs := #[.slice none 0 0]) ?_ 0 _ rfl; (with_reducible repeat (first | refine blk_drewN ?_ _ | refine blk_drew ?_ | refine blk_alloc ?_ _)); exact BK115.out⟩, ⟨zB⟩⟩
 clear H'
 try clear c1
 try clear p1
 try clear q1
 try clear hx1
 try clear c2
 try clear p2
 try clear c3
 try clear c3b0
 try clear c3b1
 try clear c5
 try clear c10
 try clear c10b0
 try clear c11
 try clear c11b0
 try clear p11
 try clear q11
 try clear hx11
 try clear c12
 try clear c12b0
 try clear c14
 try clear c15
 try clear hcz16_0
 try clear hcz7_0
 try clear hcz7_1
 try clear hfz16_0
 try clear hfz7_0
 try clear hfz7_1
 try clear hx114_0
 try clear p114
 try clear p2
 try clear q114
 obtain ⟨x27_2, rfl, HA, HK2, BK111, BK113, BK115, HB⟩ := hrel
 rcases gk with _ | k2
 · exact absurd HA.out (by simp [best_formed.l1])
 have H := HA.out
 clear HA
 simp only [best_formed.l1] at H
 by_cases c17 : x27_2 < (((rd_T52 l1 x19_1).f0).length : Int)
 rotate_left
 ·
  rw [if_neg c17] at H
  have c17b0 : decide (x27_2 < (((rd_T52 l1 x19_1).f0).length : Int)) = false := decide_eq_false c17
  clear c17
  have H' := Aside0.mk H
  clear H
  go_wp2
  go_roundg k2
  case measure => have := HK1.out; have := HK2.out; omega
  case rel => exact ⟨(wrap64 (x19_1 + 1)), zR, H', ⟨by have := HK1.out; have := HK2.out; omega⟩, ⟨zK BK111⟩, ⟨zK BK113⟩, ⟨zB⟩⟩
 rw [if_pos c17] at H
 have c17b0 : decide (x27_2 < (((rd_T52 l1 x19_1).f0).length : Int)) = true := decide_eq_true c17
 clear c17
 by_cases c18 : 0 ≤ x27_2
 rotate_left
 · rw [if_neg c18] at H; exact absurd H (by simp)
 rw [if_pos c18] at H
 have c18b0 : decide (0 ≤ x27_2) = true := decide_eq_true c18
 clear c18
 by_cases c19 : x27_2 < (((rd_T52 l1 x19_1).f0).length : Int)
 rotate_left
 · rw [if_neg c19] at H; exact absurd H (by simp)
 rw [if_pos c19] at H
 have c19b0 : decide (x27_2 < (((rd_T52 l1 x19_1).f0).length : Int)) = true := decide_eq_true c19
 clear c19
 have HC20 := Aside0.mk H
 clear H
 have p116 : 0 ≤ (x27_2 : Int) := od
 have q116 : x27_2 < (((rd_T52 l1 x19_1).f0).length : Int) := od
 obtain ⟨ad116, e116, hx116_0⟩ := Kd.at_int HR114_0.out x27_2 p116 q116
 cases e116
 replace hx116_0 := zL HB hx116_0
 replace p116 := eq_true p116
 replace q116 := eq_true q116
 go_upto_region 10 with (fail)
 go_cut [32] (fun v32 wc => ∃ (kq : Nat) (x32_19 : Bool), v32 = .bool x32_19 ∧ Aside0 (best_formed.j2 kq x19_1 x27_2 (rd ((rd_T52 l1 x19_1).f0) x27_2) l1 (l1.length : Int) x19_1 ((rd_T52 l1 x19_1).f0) (((rd_T52 l1 x19_1).f0).length : Int) x27_2 x32_19 a0_0 l0_1 t112 ((rd_T52 l1 x19_1).f0) = some r) ∧ Aside0 (kq ≤ k2) ∧ Aside0 (wc.heap[gb111]? = some (.cells #[.int .i64 a0_0, (.slice A0_1 l0_1.length c0_1)] 42 (0, 0))) ∧ Aside0 (wc.heap[gb113]? = some (.cells (ag66 t112) 66 (0, 0))) ∧ Aside0 (wc.heap[gb115]? = some (.cells #[(.slice (some ad116) ((rd_T52 l1 x19_1).f0).length c114_0)] 52 (0, 0))) ∧ Aside0 (Below w.heap.size w wc))
 case first =>
  have H := HC20.out
  clear HC20
  by_cases c21 : (rd ((rd_T52 l1 x19_1).f0) x27_2) < 0
  ·
   rw [if_pos c21] at H
   have c21b0 : decide ((rd ((rd_T52 l1 x19_1).f0) x27_2) < 0) = true := decide_eq_true c21
   clear c21
   (first | rw [c21b0] | (simp only [i64_w, i32_w]; rw [c21b0]) | skip)
   have H' := Aside0.mk H
   clear H
   go_wp2
   go_meet
   case rel => exact ⟨_, (true), zR, H', ⟨by have := HK1.out; have := HK2.out; first | omega | exact Nat.le_refl _⟩, ⟨zK BK111⟩, ⟨zK BK113⟩, ⟨zK BK115⟩, ⟨zB⟩⟩
  rw [if_neg c21] at H
  have c21b0 : decide ((rd ((rd_T52 l1 x19_1).f0) x27_2) < 0) = false := decide_eq_false c21
  clear c21
  (first | rw [c21b0] | (simp only [i64_w, i32_w]; rw [c21b0]) | skip)
  by_cases c22 : (rd ((rd_T52 l1 x19_1).f0) x27_2) ≥ a0_0
  ·
   rw [if_pos c22] at H
   have c22b0 : decide (a0_0 ≤ (rd ((rd_T52 l1 x19_1).f0) x27_2)) = true := decide_eq_true c22
   clear c22
   have H' := Aside0.mk H
   clear H
   have hnb23 := NB111_113.out
   have hnc23 := NB113_111.out
   have hnb24 := NB111_115.out
   have hnc24 := NB115_111.out
   have hcz25_0 : wr.cell? ⟨gb111, 0, none⟩ = some (.int .i64 a0_0) := zT BK111 0
   have hcz25_1 : wr.cell? ⟨gb111, 1, none⟩ = some (.slice A0_1 l0_1.length c0_1) := zT BK111 1
   have hfz25_0 := blk_frozen BK111.out 0
   have hfz25_1 := blk_frozen BK111.out 1
   go_wp2
   go_meet
   case rel => exact ⟨_, (true), zR, H', ⟨by have := HK1.out; have := HK2.out; first | omega | exact Nat.le_refl _⟩, ⟨zK BK111⟩, ⟨zK BK113⟩, ⟨zK BK115⟩, ⟨zB⟩⟩
  rw [if_neg c22] at H
  have c22b0 : decide (a0_0 ≤ (rd ((rd_T52 l1 x19_1).f0) x27_2)) = false := decide_eq_false c22
  clear c22
  by_cases c26 : x27_2 = 0
  rotate_left
  ·
   rw [if_neg c26] at H
   have c26b0 : (x27_2 == 0) = false := beq_eq_false_iff_ne.mpr c26
   have c26b1 : (x27_2 != 0) = true := bne_iff_ne.mpr c26
   have c40b0 := eq_true (od : 0 ≤ x27_2)
   by_cases c41 : x27_2 ≤ (((rd_T52 l1 x19_1).f0).length : Int)
   rotate_left
   · rw [if_neg c41] at H; exact absurd H (by simp)
   rw [if_pos c41] at H
   have c41b0 := eq_true c41
   have c41b1 : decide (x27_2 ≤ (((rd_T52 l1 x19_1).f0).length : Int)) = true := decide_eq_true c41
   clear c41
   replace H := Option.bind_eq_some_iff.mp H
   obtain ⟨t120, A420, H⟩ := H
   replace H : (best_formed.j2 k2 x19_1 x27_2 (rd ((rd_T52 l1 x19_1).f0) x27_2) l1 (l1.length : Int) x19_1 ((rd_T52 l1 x19_1).f0) (((rd_T52 l1 x19_1).f0).length : Int) x27_2 t120 a0_0 l0_1 t112 ((rd_T52 l1 x19_1).f0)) = some r := H
   have A42 := Aside0.mk A420
   clear A420
   have H' := Aside0.mk H
   clear H
   have hnb43 := NB111_113.out
   have hnc43 := NB113_111.out
   have hnb44 := NB111_115.out
   have hnc44 := NB115_111.out
   have hcz45_0 : wr.cell? ⟨gb111, 0, none⟩ = some (.int .i64 a0_0) := zT BK111 0
   have hcz45_1 : wr.cell? ⟨gb111, 1, none⟩ = some (.slice A0_1 l0_1.length c0_1) := zT BK111 1
   have hfz45_0 := blk_frozen BK111.out 0
   have hfz45_1 := blk_frozen BK111.out 1
   have hnb46 := NB115_113.out
   have hnc46 := NB113_115.out
   have hcz47_0 : wr.cell? ⟨gb115, 0, none⟩ = some (.slice (some ad116) ((rd_T52 l1 x19_1).f0).length c114_0) := zT BK115 0
   have hfz47_0 := blk_frozen BK115.out 0
   obtain ⟨i048, hi048, _, hsz48, _⟩ := info_parts info3
   obtain ⟨hcut48, hA48, hC48⟩ := print_take_of (P := Try.prog) (Value.int .i64) 0 33 3 .i64 Try.underlying33 hi048 hsz48 (some ad116) c114_0 ((rd_T52 l1 x19_1).f0) x27_2 (od) (od) HC114_0.out
   have HR119 := Aside0.mk (Kd.C_of_reads (h1 := fun _ => rfl) (hA48 _ (Kd.reads_of_C HR114_0.out)))
   have HC119 := Aside0.mk hC48
   clear hA48 hC48 hi048 hsz48
   go_wp2_with (first | (go_at_call 22; refine calls_of_args (args' := #[.slice (some ad116) (((rd_T52 l1 x19_1).f0).take (x27_2 : Int).toNat).length c114_0, .int .i64 (rd ((rd_T52 l1 x19_1).f0) x27_2)]) (by first | (rw [show (((rd_T52 l1 x19_1).f0).take (x27_2 : Int).toNat).length = x27_2.toNat from (by rw [List.length_take]; have h_ : (x27_2 : Int) ≤ (((rd_T52 l1 x19_1).f0).length : Int) := od; omega)] <;> rfl) | rfl) ?_; (with_reducible refine (g15_.calls k2 _ _ (((rd_T52 l1 x19_1).f0).take (x27_2 : Int).toNat) (rd ((rd_T52 l1 x19_1).f0) x27_2) t120 _ ?side1 ?side2 A42.out).mono ?_); (case side1 => exact zC HR119 HB); (case side2 => exact HC119.out); rintro e w' ⟨rfl, ⟨nd, rfl⟩⟩))
   go_meet
   case rel => exact ⟨_, (t120), zR, H', ⟨by have := HK1.out; have := HK2.out; first | omega | exact Nat.le_refl _⟩, ⟨zK BK111⟩, ⟨zK BK113⟩, ⟨zK BK115⟩, ⟨zB⟩⟩
  rw [if_pos c26] at H
  have c26b0 : (x27_2 == 0) = true := beq_iff_eq.mpr c26
  have c26b1 : (x27_2 != 0) = false := bne_eq_false_iff_eq.mpr c26
  clear c26
  by_cases c27 : (rd ((rd_T52 l1 x19_1).f0) x27_2) = x19_1
  rotate_left
  ·
   rw [if_neg c27] at H
   have c27b0 : ((rd ((rd_T52 l1 x19_1).f0) x27_2) == x19_1) = false := beq_eq_false_iff_ne.mpr c27
   have c27b1 : ((rd ((rd_T52 l1 x19_1).f0) x27_2) != x19_1) = true := bne_iff_ne.mpr c27
   have H' := Aside0.mk H
   clear H
   have hnb37 := NB111_113.out
   have hnc37 := NB113_111.out
   have hnb38 := NB111_115.out
   have hnc38 := NB115_111.out
   have hcz39_0 : wr.cell? ⟨gb111, 0, none⟩ = some (.int .i64 a0_0) := zT BK111 0
   have hcz39_1 : wr.cell? ⟨gb111, 1, none⟩ = some (.slice A0_1 l0_1.length c0_1) := zT BK111 1
   have hfz39_0 := blk_frozen BK111.out 0
   have hfz39_1 := blk_frozen BK111.out 1
   go_wp2
   go_meet
   case rel => exact ⟨_, (true), zR, H', ⟨by have := HK1.out; have := HK2.out; first | omega | exact Nat.le_refl _⟩, ⟨zK BK111⟩, ⟨zK BK113⟩, ⟨zK BK115⟩, ⟨zB⟩⟩
  rw [if_pos c27] at H
  have c27b0 : ((rd ((rd_T52 l1 x19_1).f0) x27_2) == x19_1) = true := beq_iff_eq.mpr c27
  have c27b1 : ((rd ((rd_T52 l1 x19_1).f0) x27_2) != x19_1) = false := bne_eq_false_iff_eq.mpr c27
  clear c27
  have c28b0 := eq_true (od : 0 ≤ x27_2)
  by_cases c29 : x27_2 ≤ (((rd_T52 l1 x19_1).f0).length : Int)
  rotate_left
  · rw [if_neg c29] at H; exact absurd H (by simp)
  rw [if_pos c29] at H
  have c29b0 := eq_true c29
  have c29b1 : decide (x27_2 ≤ (((rd_T52 l1 x19_1).f0).length : Int)) = true := decide_eq_true c29
  clear c29
  replace H := Option.bind_eq_some_iff.mp H
  obtain ⟨t118, A300, H⟩ := H
  replace H : (best_formed.j2 k2 x19_1 x27_2 (rd ((rd_T52 l1 x19_1).f0) x27_2) l1 (l1.length : Int) x19_1 ((rd_T52 l1 x19_1).f0) (((rd_T52 l1 x19_1).f0).length : Int) x27_2 t118 a0_0 l0_1 t112 ((rd_T52 l1 x19_1).f0)) = some r := H
  have A30 := Aside0.mk A300
  clear A300
  have H' := Aside0.mk H
  clear H
  have hnb31 := NB111_113.out
  have hnc31 := NB113_111.out
  have hnb32 := NB111_115.out
  have hnc32 := NB115_111.out
  have hcz33_0 : wr.cell? ⟨gb111, 0, none⟩ = some (.int .i64 a0_0) := zT BK111 0
  have hcz33_1 : wr.cell? ⟨gb111, 1, none⟩ = some (.slice A0_1 l0_1.length c0_1) := zT BK111 1
  have hfz33_0 := blk_frozen BK111.out 0
  have hfz33_1 := blk_frozen BK111.out 1
  have hnb34 := NB115_113.out
  have hnc34 := NB113_115.out
  have hcz35_0 : wr.cell? ⟨gb115, 0, none⟩ = some (.slice (some ad116) ((rd_T52 l1 x19_1).f0).length c114_0) := zT BK115 0
  have hfz35_0 := blk_frozen BK115.out 0
  obtain ⟨i036, hi036, _, hsz36, _⟩ := info_parts info3
  obtain ⟨hcut36, hA36, hC36⟩ := print_take_of (P := Try.prog) (Value.int .i64) 0 33 3 .i64 Try.underlying33 hi036 hsz36 (some ad116) c114_0 ((rd_T52 l1 x19_1).f0) x27_2 (od) (od) HC114_0.out
  have HR117 := Aside0.mk (Kd.C_of_reads (h1 := fun _ => rfl) (hA36 _ (Kd.reads_of_C HR114_0.out)))
  have HC117 := Aside0.mk hC36
  clear hA36 hC36 hi036 hsz36
  go_wp2_with (first | (go_at_call 22; refine calls_of_args (args' := #[.slice (some ad116) (((rd_T52 l1 x19_1).f0).take (x27_2 : Int).toNat).length c114_0, .int .i64 (rd ((rd_T52 l1 x19_1).f0) x27_2)]) (by first | (rw [show (((rd_T52 l1 x19_1).f0).take (x27_2 : Int).toNat).length = x27_2.toNat from (by rw [List.length_take]; have h_ : (x27_2 : Int) ≤ (((rd_T52 l1 x19_1).f0).length : Int) := od; omega)] <;> rfl) | rfl) ?_; (with_reducible refine (g15_.calls k2 _ _ (((rd_T52 l1 x19_1).f0).take (x27_2 : Int).toNat) (rd ((rd_T52 l1 x19_1).f0) x27_2) t118 _ ?side1 ?side2 A30.out).mono ?_); (case side1 => exact zC HR117 HB); (case side2 => exact HC117.out); rintro e w' ⟨rfl, ⟨nd, rfl⟩⟩))
  go_meet
  case rel => exact ⟨_, (t118), zR, H', ⟨by have := HK1.out; have := HK2.out; first | omega | exact Nat.le_refl _⟩, ⟨zK BK111⟩, ⟨zK BK113⟩, ⟨zK BK115⟩, ⟨zB⟩⟩
 clear HC20
 try clear c1
 try clear p1
 try clear q1
 try clear hx1
 try clear c2
 try clear p2
 try clear c3
 try clear c3b0
 try clear c3b1
 try clear c4
 try clear c5
 try clear c10
 try clear c10b0
 try clear c11
 try clear c11b0
 try clear p11
 try clear q11
 try clear hx11
 try clear c12
 try clear c12b0
 try clear c14
 try clear c15
 try clear c17
 try clear c17b0
 try clear c18
 try clear c18b0
 try clear c19
 try clear c19b0
 try clear c21
 try clear c21b0
 try clear c22
 try clear c22b0
 try clear c23
 try clear c24
 try clear c26
 try clear c26b0
 try clear c26b1
 try clear c27
 try clear c27b0
 try clear c27b1
 try clear c28
 try clear c28b0
 try clear c29
 try clear c29b0
 try clear c29b1
 try clear c31
 try clear c32
 try clear c34
 try clear c35
 try clear c37
 try clear c38
 try clear c40
 try clear c40b0
 try clear c41
 try clear c41b0
 try clear c41b1
 try clear c43
 try clear c44
 try clear c46
 try clear hcz16_0
 try clear hcz25_0
 try clear hcz25_1
 try clear hcz33_0
 try clear hcz33_1
 try clear hcz35_0
 try clear hcz39_0
 try clear hcz39_1
 try clear hcz45_0
 try clear hcz45_1
 try clear hcz47_0
 try clear hcz7_0
 try clear hcz7_1
 try clear hfz16_0
 try clear hfz25_0
 try clear hfz25_1
 try clear hfz33_0
 try clear hfz33_1
 try clear hfz35_0
 try clear hfz39_0
 try clear hfz39_1
 try clear hfz45_0
 try clear hfz45_1
 try clear hfz47_0
 try clear hfz7_0
 try clear hfz7_1
 try clear hx114_0
 try clear hx116_0
 try clear p1
 try clear p11
 try clear p114
 try clear p116
 try clear p2
 try clear q1
 try clear q11
 try clear q114
 try clear q116
 obtain ⟨kq, x32_19, rfl, HA, HJ19, BK111, BK113, BK115, HB⟩ := hcut
 rcases kq with _ | kj19
 · exact absurd HA.out (by simp [best_formed.j2])
 have H := HA.out
 clear HA
 simp only [best_formed.j2] at H
 by_cases c49 : x32_19 = true
 ·
  subst c49
  have H1 : (some false) = some r := by rw [if_pos rfl] at H; exact H
  clear H
  have H := H1
  clear H1
  obtain rfl := Option.some.inj H
  go_wp2
  go_ret
  exact ⟨zE, zB⟩
 replace c49 := Bool.eq_false_iff.mpr c49
 subst c49
 have H1 : (if x27_2 > 0 then (if 0 ≤ (wrap64 (x27_2 - 1)) then (if (wrap64 (x27_2 - 1)) < (((rd_T52 l1 x19_1).f0).length : Int) then (if 0 ≤ (rd ((rd_T52 l1 x19_1).f0) (wrap64 (x27_2 - 1))) then (if (rd ((rd_T52 l1 x19_1).f0) (wrap64 (x27_2 - 1))) < 16 then (if 0 ≤ (rd ((rd_T52 l1 x19_1).f0) x27_2) then (if (rd ((rd_T52 l1 x19_1).f0) x27_2) < 16 then (if 16 * (rd ((rd_T52 l1 x19_1).f0) (wrap64 (x27_2 - 1))) + (rd ((rd_T52 l1 x19_1).f0) x27_2) < (t112.length : Int) then (if ((rd_T64 t112 (16 * (rd ((rd_T52 l1 x19_1).f0) (wrap64 (x27_2 - 1))) + (rd ((rd_T52 l1 x19_1).f0) x27_2))).f0) = 0 then (some false) else (best_formed.l1 kj19 x19_1 l1 (l1.length : Int) x19_1 ((rd_T52 l1 x19_1).f0) (((rd_T52 l1 x19_1).f0).length : Int) (wrap64 (x27_2 + 1)) a0_0 l0_1 t112 ((rd_T52 l1 x19_1).f0))) else (none)) else (none)) else (none)) else (none)) else (none)) else (none)) else (none)) else (best_formed.l1 kj19 x19_1 l1 (l1.length : Int) x19_1 ((rd_T52 l1 x19_1).f0) (((rd_T52 l1 x19_1).f0).length : Int) (wrap64 (x27_2 + 1)) a0_0 l0_1 t112 ((rd_T52 l1 x19_1).f0))) = some r := by rw [if_neg (show ¬ (false = true) by decide)] at H; exact H
 clear H
 have H := H1
 clear H1
 by_cases c50 : x27_2 > 0
 rotate_left
 ·
  rw [if_neg c50] at H
  have c50b0 : decide (0 < x27_2) = false := decide_eq_false c50
  clear c50
  have H' := Aside0.mk H
  clear H
  go_wp2
  go_roundg kj19
  case measure => have := HK1.out; have := HK2.out; have := HJ19.out; omega
  case rel => exact ⟨(wrap64 (x27_2 + 1)), zR, H', ⟨by have := HK1.out; have := HK2.out; have := HJ19.out; omega⟩, ⟨zK BK111⟩, ⟨zK BK113⟩, ⟨zK BK115⟩, ⟨zB⟩⟩
 rw [if_pos c50] at H
 have c50b0 : decide (0 < x27_2) = true := decide_eq_true c50
 clear c50
 obtain ⟨ji51, hji51⟩ : ∃ j_ : Int, (wrap64 (x27_2 - 1)) = j_ := ⟨_, rfl⟩
 replace H : (if 0 ≤ (ji51) then (if (ji51) < (((rd_T52 l1 x19_1).f0).length : Int) then (if 0 ≤ (rd ((rd_T52 l1 x19_1).f0) (ji51)) then (if (rd ((rd_T52 l1 x19_1).f0) (ji51)) < 16 then (if 0 ≤ (rd ((rd_T52 l1 x19_1).f0) x27_2) then (if (rd ((rd_T52 l1 x19_1).f0) x27_2) < 16 then (if 16 * (rd ((rd_T52 l1 x19_1).f0) (ji51)) + (rd ((rd_T52 l1 x19_1).f0) x27_2) < (t112.length : Int) then (if ((rd_T64 t112 (16 * (rd ((rd_T52 l1 x19_1).f0) (ji51)) + (rd ((rd_T52 l1 x19_1).f0) x27_2))).f0) = 0 then (some false) else (best_formed.l1 kj19 x19_1 l1 (l1.length : Int) x19_1 ((rd_T52 l1 x19_1).f0) (((rd_T52 l1 x19_1).f0).length : Int) (wrap64 (x27_2 + 1)) a0_0 l0_1 t112 ((rd_T52 l1 x19_1).f0))) else (none)) else (none)) else (none)) else (none)) else (none)) else (none)) else (none)) = some r := by first | (rw [hji51] at H; exact H) | (simp only [hji51] at H ⊢; exact H)
 have hji51w : (IntKind.i64.wrap (x27_2 - 1)) = ji51 := (i64_w _).trans hji51
 by_cases c52 : 0 ≤ (ji51)
 rotate_left
 · rw [if_neg c52] at H; exact absurd H (by simp)
 rw [if_pos c52] at H
 have c52b0 : decide (0 ≤ (ji51)) = true := decide_eq_true c52
 clear c52
 by_cases c53 : (ji51) < (((rd_T52 l1 x19_1).f0).length : Int)
 rotate_left
 · rw [if_neg c53] at H; exact absurd H (by simp)
 rw [if_pos c53] at H
 have c53b0 : decide ((ji51) < (((rd_T52 l1 x19_1).f0).length : Int)) = true := decide_eq_true c53
 clear c53
 by_cases c54 : 0 ≤ (rd ((rd_T52 l1 x19_1).f0) (ji51))
 rotate_left
 · rw [if_neg c54] at H; exact absurd H (by simp)
 rw [if_pos c54] at H
 have c54b0 : decide (0 ≤ (rd ((rd_T52 l1 x19_1).f0) (ji51))) = true := decide_eq_true c54
 clear c54
 by_cases c55 : (rd ((rd_T52 l1 x19_1).f0) (ji51)) < 16
 rotate_left
 · rw [if_neg c55] at H; exact absurd H (by simp)
 rw [if_pos c55] at H
 have c55b0 : decide ((rd ((rd_T52 l1 x19_1).f0) (ji51)) < 16) = true := decide_eq_true c55
 clear c55
 by_cases c56 : 0 ≤ (rd ((rd_T52 l1 x19_1).f0) x27_2)
 rotate_left
 · rw [if_neg c56] at H; exact absurd H (by simp)
 rw [if_pos c56] at H
 have c56b0 : decide (0 ≤ (rd ((rd_T52 l1 x19_1).f0) x27_2)) = true := decide_eq_true c56
 clear c56
 by_cases c57 : (rd ((rd_T52 l1 x19_1).f0) x27_2) < 16
 rotate_left
 · rw [if_neg c57] at H; exact absurd H (by simp)
 rw [if_pos c57] at H
 have c57b0 : decide ((rd ((rd_T52 l1 x19_1).f0) x27_2) < 16) = true := decide_eq_true c57
 clear c57
 by_cases c58 : 16 * (rd ((rd_T52 l1 x19_1).f0) (ji51)) + (rd ((rd_T52 l1 x19_1).f0) x27_2) < (t112.length : Int)
 rotate_left
 · rw [if_neg c58] at H; exact absurd H (by simp)
 rw [if_pos c58] at H
 have c58b0 : decide (16 * (rd ((rd_T52 l1 x19_1).f0) (ji51)) + (rd ((rd_T52 l1 x19_1).f0) x27_2) < (t112.length : Int)) = true := decide_eq_true c58
 clear c58
 by_cases c59 : ((rd_T64 t112 (16 * (rd ((rd_T52 l1 x19_1).f0) (ji51)) + (rd ((rd_T52 l1 x19_1).f0) x27_2))).f0) = 0
 ·
  rw [if_pos c59] at H
  have c59b0 : (((rd_T64 t112 (16 * (rd ((rd_T52 l1 x19_1).f0) (ji51)) + (rd ((rd_T52 l1 x19_1).f0) x27_2))).f0) == 0) = true := beq_iff_eq.mpr c59
  have c59b1 : (((rd_T64 t112 (16 * (rd ((rd_T52 l1 x19_1).f0) (ji51)) + (rd ((rd_T52 l1 x19_1).f0) x27_2))).f0) != 0) = false := bne_eq_false_iff_eq.mpr c59
  clear c59
  obtain rfl := Option.some.inj H
  have hnb60 := NB115_111.out
  have hnc60 := NB111_115.out
  have hnb61 := NB115_113.out
  have hnc61 := NB113_115.out
  have hcz62_0 : wc.cell? ⟨gb115, 0, none⟩ = some (.slice (some ad116) ((rd_T52 l1 x19_1).f0).length c114_0) := zT BK115 0
  have hfz62_0 := blk_frozen BK115.out 0
  have p121 : 0 ≤ ((ji51) : Int) := od
  have q121 : (ji51) < (((rd_T52 l1 x19_1).f0).length : Int) := od
  obtain ⟨ad121, e121, hx121_0⟩ := Kd.at_int HR114_0.out (ji51) p121 q121
  obtain rfl : ad116 = ad121 := (by injection e121)
  replace hx121_0 := zL HB hx121_0
  replace p121 := eq_true p121
  replace q121 := eq_true q121
  have hnb63 := NB113_111.out
  have hnc63 := NB111_113.out
  have pa122_0 := eq_true (od : 0 ≤ (rd ((rd_T52 l1 x19_1).f0) (ji51)))
  have pa122_1 := eq_true (od : (rd ((rd_T52 l1 x19_1).f0) (ji51)) < 16)
  have pa122_2 := eq_true (od : 0 ≤ (rd ((rd_T52 l1 x19_1).f0) x27_2))
  have pa122_3 := eq_true (od : (rd ((rd_T52 l1 x19_1).f0) x27_2) < 16)
  have hx122_0 := arr_cell (enc := ag66_enc) ag66_len BK113.out z64 16 0 (Mi := 16) rfl (i := (rd ((rd_T52 l1 x19_1).f0) (ji51))) (j := (rd ((rd_T52 l1 x19_1).f0) x27_2)) (of_eq_true pa122_0) (of_eq_true pa122_2) (od) (by decide) rfl
  replace hx122_0 : World.cell? _ ⟨gb113, ((rd ((rd_T52 l1 x19_1).f0) (ji51)) : Int).toNat * 32 + ((rd ((rd_T52 l1 x19_1).f0) x27_2) : Int).toNat * 2, none⟩ = some (.int .i64 ((rd_T64 t112 (16 * (rd ((rd_T52 l1 x19_1).f0) (ji51)) + (rd ((rd_T52 l1 x19_1).f0) x27_2))).f0)) := hx122_0
  go_wp2
  go_ret
  exact ⟨by first | rfl | (simp [errW_none, errW_some] <;> rfl) | (simp only [← hji51]; first | rfl | (simp [errW_none, errW_some] <;> rfl)) | (simp [*, errW_none, errW_some] <;> rfl), zB⟩
 rw [if_neg c59] at H
 have c59b0 : (((rd_T64 t112 (16 * (rd ((rd_T52 l1 x19_1).f0) (ji51)) + (rd ((rd_T52 l1 x19_1).f0) x27_2))).f0) == 0) = false := beq_eq_false_iff_ne.mpr c59
 have c59b1 : (((rd_T64 t112 (16 * (rd ((rd_T52 l1 x19_1).f0) (ji51)) + (rd ((rd_T52 l1 x19_1).f0) x27_2))).f0) != 0) = true := bne_iff_ne.mpr c59
 have H' := Aside0.mk H
 clear H
 have hnb65 := NB115_111.out
 have hnc65 := NB111_115.out
 have hnb66 := NB115_113.out
 have hnc66 := NB113_115.out
 have hcz67_0 : wc.cell? ⟨gb115, 0, none⟩ = some (.slice (some ad116) ((rd_T52 l1 x19_1).f0).length c114_0) := zT BK115 0
 have hfz67_0 := blk_frozen BK115.out 0
 have p121 : 0 ≤ ((ji51) : Int) := od
 have q121 : (ji51) < (((rd_T52 l1 x19_1).f0).length : Int) := od
 obtain ⟨ad121, e121, hx121_0⟩ := Kd.at_int HR114_0.out (ji51) p121 q121
 obtain rfl : ad116 = ad121 := (by injection e121)
 replace hx121_0 := zL HB hx121_0
 replace p121 := eq_true p121
 replace q121 := eq_true q121
 have hnb68 := NB113_111.out
 have hnc68 := NB111_113.out
 have pa122_0 := eq_true (od : 0 ≤ (rd ((rd_T52 l1 x19_1).f0) (ji51)))
 have pa122_1 := eq_true (od : (rd ((rd_T52 l1 x19_1).f0) (ji51)) < 16)
 have pa122_2 := eq_true (od : 0 ≤ (rd ((rd_T52 l1 x19_1).f0) x27_2))
 have pa122_3 := eq_true (od : (rd ((rd_T52 l1 x19_1).f0) x27_2) < 16)
 have hx122_0 := arr_cell (enc := ag66_enc) ag66_len BK113.out z64 16 0 (Mi := 16) rfl (i := (rd ((rd_T52 l1 x19_1).f0) (ji51))) (j := (rd ((rd_T52 l1 x19_1).f0) x27_2)) (of_eq_true pa122_0) (of_eq_true pa122_2) (od) (by decide) rfl
 replace hx122_0 : World.cell? _ ⟨gb113, ((rd ((rd_T52 l1 x19_1).f0) (ji51)) : Int).toNat * 32 + ((rd ((rd_T52 l1 x19_1).f0) x27_2) : Int).toNat * 2, none⟩ = some (.int .i64 ((rd_T64 t112 (16 * (rd ((rd_T52 l1 x19_1).f0) (ji51)) + (rd ((rd_T52 l1 x19_1).f0) x27_2))).f0)) := hx122_0
 go_wp2
 go_roundg kj19
 case measure => have := HK1.out; have := HK2.out; have := HJ19.out; omega
 case rel => exact ⟨(wrap64 (x27_2 + 1)), zR, H', ⟨by have := HK1.out; have := HK2.out; have := HJ19.out; omega⟩, ⟨zK BK111⟩, ⟨zK BK113⟩, ⟨zK BK115⟩, ⟨zB⟩⟩
/-! ### best_Check_1: function 38 -/
def best_Check_1.f (a0_0 : Int) (a0_1 : Int) (a0_2 : Int) (a0_3 : Int) (a0_4 : Int) (a1_0 : Int) (a1_1 : Int) (a1_2 : Int) (a1_3 : Int) (a1_4 : Int) : Option (Bool) := if a0_0 = a1_0 then (if a0_1 = a1_1 then (some true) else (if a0_0 = a1_1 then (some (a0_1 == a1_0)) else (some false))) else (if a0_0 = a1_1 then (some (a0_1 == a1_0)) else (some false))
set_option maxHeartbeats 8000000 in
set_option maxRecDepth 100000 in
theorem best_Check_1.calls (a0_0 : Int) (a0_1 : Int) (a0_2 : Int) (a0_3 : Int) (a0_4 : Int) (gc1_0 : Nat) (a1_0 : Int) (a1_1 : Int) (a1_2 : Int) (a1_3 : Int) (a1_4 : Int) (r : Bool) (w : World) (hcap1_0 : w.heap[gc1_0]? = some (.cells #[.int .i64 a1_0, .int .i64 a1_1, .int .i64 a1_2, .int .i64 a1_3, .int .i64 a1_4] 71 (0, 0))) (h : best_Check_1.f a0_0 a0_1 a0_2 a0_3 a0_4 a1_0 a1_1 a1_2 a1_3 a1_4 = some r) :
 Calls Try.prog 38 #[.agg #[.int .i64 a0_0, .int .i64 a0_1, .int .i64 a0_2, .int .i64 a0_3, .int .i64 a0_4], .pointer (some ⟨gc1_0, 0, none⟩)] w fun e w' => e = .returned (.bool r) ∧ Below w.heap.size w w' := by
 have hu71 := Try.underlying71
 have hu3 := Try.underlying3
 have BK132 := Aside0.mk hcap1_0
 clear hcap1_0
 have HB := Aside0.mk (Below.refl w.heap.size w)
 have H : (if a0_0 = a1_0 then (if a0_1 = a1_1 then (some true) else (if a0_0 = a1_1 then (some (a0_1 == a1_0)) else (some false))) else (if a0_0 = a1_1 then (some (a0_1 == a1_0)) else (some false))) = some r := h
 clear h
 by_cases c3 : a0_0 = a1_0
 rotate_left
 ·
  rw [if_neg c3] at H
  have c3b0 : (a0_0 == a1_0) = false := beq_eq_false_iff_ne.mpr c3
  have c3b1 : (a0_0 != a1_0) = true := bne_iff_ne.mpr c3
  by_cases c18 : a0_0 = a1_1
  ·
   rw [if_pos c18] at H
   have c18b0 : (a0_0 == a1_1) = true := beq_iff_eq.mpr c18
   have c18b1 : (a0_0 != a1_1) = false := bne_eq_false_iff_eq.mpr c18
   clear c18
   obtain rfl := Option.some.inj H
   go_enter Try.func38, Try.ntmps38
   go_wp2_with (first | ((with_reducible refine gate_dst (N := 2) rfl ?_); refine bx 2 (#[.int .i64 a0_0, .int .i64 a0_1, .int .i64 a0_2, .int .i64 a0_3, .int .i64 a0_4]) 71 ?_; intro gb133 hg w19 hbox hb; have n0_ := Aside0.mk (blk_below (g := gc1_0) (o := .cells #[.int .i64 a1_0, .int .i64 a1_1, .int .i64 a1_2, .int .i64 a1_3, .int .i64 a1_4] 71 (0, 0)) (zK BK132) hb); have n1_ := Aside0.mk (below_step zB hb); have n2_ := Aside0.mk (hbox); have n3_ := Aside0.mk ((zG hg : w.heap.size ≤ gb133)); have n4_ := Aside0.mk ((zG hg : w.heap.size ≤ gb133)); have n5_ := Aside0.mk ((by rw [hg]; exact Nat.ne_of_lt (blk_lt (g := gc1_0) (o := .cells #[.int .i64 a1_0, .int .i64 a1_1, .int .i64 a1_2, .int .i64 a1_3, .int .i64 a1_4] 71 (0, 0)) (zK BK132)) : gc1_0 ≠ gb133)); have n6_ := Aside0.mk ((by rw [hg]; exact Nat.ne_of_gt (blk_lt (g := gc1_0) (o := .cells #[.int .i64 a1_0, .int .i64 a1_1, .int .i64 a1_2, .int .i64 a1_3, .int .i64 a1_4] 71 (0, 0)) (zK BK132)) : gb133 ≠ gc1_0)); clear BK132; clear HB; have BK132 := n0_; have HB := n1_; have BK133 := n2_; have GW133 := n3_; have GE133 := n4_; have NB132_133 := n5_; have NB133_132 := n6_; clear n0_ n1_ n2_ n3_ n4_ n5_ n6_; clear hb hbox hg; have hnb20 := NB133_132.out; have hnc20 := NB132_133.out; have hcz21_0 : w19.cell? ⟨gb133, 0, none⟩ = some (.int .i64 a0_0) := zT BK133 0; have hcz21_1 : w19.cell? ⟨gb133, 1, none⟩ = some (.int .i64 a0_1) := zT BK133 1; have hcz21_2 : w19.cell? ⟨gb133, 2, none⟩ = some (.int .i64 a0_2) := zT BK133 2; have hcz21_3 : w19.cell? ⟨gb133, 3, none⟩ = some (.int .i64 a0_3) := zT BK133 3; have hcz21_4 : w19.cell? ⟨gb133, 4, none⟩ = some (.int .i64 a0_4) := zT BK133 4; have hfz21_0 := blk_frozen BK133.out 0; have hfz21_1 := blk_frozen BK133.out 1; have hfz21_2 := blk_frozen BK133.out 2; have hfz21_3 := blk_frozen BK133.out 3; have hfz21_4 := blk_frozen BK133.out 4; have hcz22_0 : w19.cell? ⟨gc1_0, 0, none⟩ = some (.int .i64 a1_0) := zT BK132 0; have hcz22_1 : w19.cell? ⟨gc1_0, 1, none⟩ = some (.int .i64 a1_1) := zT BK132 1; have hcz22_2 : w19.cell? ⟨gc1_0, 2, none⟩ = some (.int .i64 a1_2) := zT BK132 2; have hcz22_3 : w19.cell? ⟨gc1_0, 3, none⟩ = some (.int .i64 a1_3) := zT BK132 3; have hcz22_4 : w19.cell? ⟨gc1_0, 4, none⟩ = some (.int .i64 a1_4) := zT BK132 4; have hfz22_0 := blk_frozen BK132.out 0; have hfz22_1 := blk_frozen BK132.out 1; have hfz22_2 := blk_frozen BK132.out 2; have hfz22_3 := blk_frozen BK132.out 3; have hfz22_4 := blk_frozen BK132.out 4))
   go_ret
   exact ⟨zE, zB⟩
  rw [if_neg c18] at H
  have c18b0 : (a0_0 == a1_1) = false := beq_eq_false_iff_ne.mpr c18
  have c18b1 : (a0_0 != a1_1) = true := bne_iff_ne.mpr c18
  obtain rfl := Option.some.inj H
  go_enter Try.func38, Try.ntmps38
  go_wp2_with (first | ((with_reducible refine gate_dst (N := 2) rfl ?_); refine bx 2 (#[.int .i64 a0_0, .int .i64 a0_1, .int .i64 a0_2, .int .i64 a0_3, .int .i64 a0_4]) 71 ?_; intro gb133 hg w23 hbox hb; have n0_ := Aside0.mk (blk_below (g := gc1_0) (o := .cells #[.int .i64 a1_0, .int .i64 a1_1, .int .i64 a1_2, .int .i64 a1_3, .int .i64 a1_4] 71 (0, 0)) (zK BK132) hb); have n1_ := Aside0.mk (below_step zB hb); have n2_ := Aside0.mk (hbox); have n3_ := Aside0.mk ((zG hg : w.heap.size ≤ gb133)); have n4_ := Aside0.mk ((zG hg : w.heap.size ≤ gb133)); have n5_ := Aside0.mk ((by rw [hg]; exact Nat.ne_of_lt (blk_lt (g := gc1_0) (o := .cells #[.int .i64 a1_0, .int .i64 a1_1, .int .i64 a1_2, .int .i64 a1_3, .int .i64 a1_4] 71 (0, 0)) (zK BK132)) : gc1_0 ≠ gb133)); have n6_ := Aside0.mk ((by rw [hg]; exact Nat.ne_of_gt (blk_lt (g := gc1_0) (o := .cells #[.int .i64 a1_0, .int .i64 a1_1, .int .i64 a1_2, .int .i64 a1_3, .int .i64 a1_4] 71 (0, 0)) (zK BK132)) : gb133 ≠ gc1_0)); clear BK132; clear HB; have BK132 := n0_; have HB := n1_; have BK133 := n2_; have GW133 := n3_; have GE133 := n4_; have NB132_133 := n5_; have NB133_132 := n6_; clear n0_ n1_ n2_ n3_ n4_ n5_ n6_; clear hb hbox hg; have hnb24 := NB133_132.out; have hnc24 := NB132_133.out; have hcz25_0 : w23.cell? ⟨gb133, 0, none⟩ = some (.int .i64 a0_0) := zT BK133 0; have hcz25_1 : w23.cell? ⟨gb133, 1, none⟩ = some (.int .i64 a0_1) := zT BK133 1; have hcz25_2 : w23.cell? ⟨gb133, 2, none⟩ = some (.int .i64 a0_2) := zT BK133 2; have hcz25_3 : w23.cell? ⟨gb133, 3, none⟩ = some (.int .i64 a0_3) := zT BK133 3; have hcz25_4 : w23.cell? ⟨gb133, 4, none⟩ = some (.int .i64 a0_4) := zT BK133 4; have hfz25_0 := blk_frozen BK133.out 0; have hfz25_1 := blk_frozen BK133.out 1; have hfz25_2 := blk_frozen BK133.out 2; have hfz25_3 := blk_frozen BK133.out 3; have hfz25_4 := blk_frozen BK133.out 4; have hcz26_0 : w23.cell? ⟨gc1_0, 0, none⟩ = some (.int .i64 a1_0) := zT BK132 0; have hcz26_1 : w23.cell? ⟨gc1_0, 1, none⟩ = some (.int .i64 a1_1) := zT BK132 1; have hcz26_2 : w23.cell? ⟨gc1_0, 2, none⟩ = some (.int .i64 a1_2) := zT BK132 2; have hcz26_3 : w23.cell? ⟨gc1_0, 3, none⟩ = some (.int .i64 a1_3) := zT BK132 3; have hcz26_4 : w23.cell? ⟨gc1_0, 4, none⟩ = some (.int .i64 a1_4) := zT BK132 4; have hfz26_0 := blk_frozen BK132.out 0; have hfz26_1 := blk_frozen BK132.out 1; have hfz26_2 := blk_frozen BK132.out 2; have hfz26_3 := blk_frozen BK132.out 3; have hfz26_4 := blk_frozen BK132.out 4))
  go_ret
  exact ⟨zE, zB⟩
 rw [if_pos c3] at H
 have c3b0 : (a0_0 == a1_0) = true := beq_iff_eq.mpr c3
 have c3b1 : (a0_0 != a1_0) = false := bne_eq_false_iff_eq.mpr c3
 clear c3
 by_cases c4 : a0_1 = a1_1
 ·
  rw [if_pos c4] at H
  have c4b0 : (a0_1 == a1_1) = true := beq_iff_eq.mpr c4
  have c4b1 : (a0_1 != a1_1) = false := bne_eq_false_iff_eq.mpr c4
  clear c4
  obtain rfl := Option.some.inj H
  go_enter Try.func38, Try.ntmps38
  go_wp2_with (first | ((with_reducible refine gate_dst (N := 2) rfl ?_); refine bx 2 (#[.int .i64 a0_0, .int .i64 a0_1, .int .i64 a0_2, .int .i64 a0_3, .int .i64 a0_4]) 71 ?_; intro gb133 hg w5 hbox hb; have n0_ := Aside0.mk (blk_below (g := gc1_0) (o := .cells #[.int .i64 a1_0, .int .i64 a1_1, .int .i64 a1_2, .int .i64 a1_3, .int .i64 a1_4] 71 (0, 0)) (zK BK132) hb); have n1_ := Aside0.mk (below_step zB hb); have n2_ := Aside0.mk (hbox); have n3_ := Aside0.mk ((zG hg : w.heap.size ≤ gb133)); have n4_ := Aside0.mk ((zG hg : w.heap.size ≤ gb133)); have n5_ := Aside0.mk ((by rw [hg]; exact Nat.ne_of_lt (blk_lt (g := gc1_0) (o := .cells #[.int .i64 a1_0, .int .i64 a1_1, .int .i64 a1_2, .int .i64 a1_3, .int .i64 a1_4] 71 (0, 0)) (zK BK132)) : gc1_0 ≠ gb133)); have n6_ := Aside0.mk ((by rw [hg]; exact Nat.ne_of_gt (blk_lt (g := gc1_0) (o := .cells #[.int .i64 a1_0, .int .i64 a1_1, .int .i64 a1_2, .int .i64 a1_3, .int .i64 a1_4] 71 (0, 0)) (zK BK132)) : gb133 ≠ gc1_0)); clear BK132; clear HB; have BK132 := n0_; have HB := n1_; have BK133 := n2_; have GW133 := n3_; have GE133 := n4_; have NB132_133 := n5_; have NB133_132 := n6_; clear n0_ n1_ n2_ n3_ n4_ n5_ n6_; clear hb hbox hg; have hnb6 := NB133_132.out; have hnc6 := NB132_133.out; have hcz7_0 : w5.cell? ⟨gb133, 0, none⟩ = some (.int .i64 a0_0) := zT BK133 0; have hcz7_1 : w5.cell? ⟨gb133, 1, none⟩ = some (.int .i64 a0_1) := zT BK133 1; have hcz7_2 : w5.cell? ⟨gb133, 2, none⟩ = some (.int .i64 a0_2) := zT BK133 2; have hcz7_3 : w5.cell? ⟨gb133, 3, none⟩ = some (.int .i64 a0_3) := zT BK133 3; have hcz7_4 : w5.cell? ⟨gb133, 4, none⟩ = some (.int .i64 a0_4) := zT BK133 4; have hfz7_0 := blk_frozen BK133.out 0; have hfz7_1 := blk_frozen BK133.out 1; have hfz7_2 := blk_frozen BK133.out 2; have hfz7_3 := blk_frozen BK133.out 3; have hfz7_4 := blk_frozen BK133.out 4; have hcz8_0 : w5.cell? ⟨gc1_0, 0, none⟩ = some (.int .i64 a1_0) := zT BK132 0; have hcz8_1 : w5.cell? ⟨gc1_0, 1, none⟩ = some (.int .i64 a1_1) := zT BK132 1; have hcz8_2 : w5.cell? ⟨gc1_0, 2, none⟩ = some (.int .i64 a1_2) := zT BK132 2; have hcz8_3 : w5.cell? ⟨gc1_0, 3, none⟩ = some (.int .i64 a1_3) := zT BK132 3; have hcz8_4 : w5.cell? ⟨gc1_0, 4, none⟩ = some (.int .i64 a1_4) := zT BK132 4; have hfz8_0 := blk_frozen BK132.out 0; have hfz8_1 := blk_frozen BK132.out 1; have hfz8_2 := blk_frozen BK132.out 2; have hfz8_3 := blk_frozen BK132.out 3; have hfz8_4 := blk_frozen BK132.out 4))
  go_ret
  exact ⟨zE, zB⟩
 rw [if_neg c4] at H
 have c4b0 : (a0_1 == a1_1) = false := beq_eq_false_iff_ne.mpr c4
 have c4b1 : (a0_1 != a1_1) = true := bne_iff_ne.mpr c4
 by_cases c9 : a0_0 = a1_1
 ·
  rw [if_pos c9] at H
  have c9b0 : (a0_0 == a1_1) = true := beq_iff_eq.mpr c9
  have c9b1 : (a0_0 != a1_1) = false := bne_eq_false_iff_eq.mpr c9
  clear c9
  obtain rfl := Option.some.inj H
  go_enter Try.func38, Try.ntmps38
  go_wp2_with (first | ((with_reducible refine gate_dst (N := 2) rfl ?_); refine bx 2 (#[.int .i64 a0_0, .int .i64 a0_1, .int .i64 a0_2, .int .i64 a0_3, .int .i64 a0_4]) 71 ?_; intro gb133 hg w10 hbox hb; have n0_ := Aside0.mk (blk_below (g := gc1_0) (o := .cells #[.int .i64 a1_0, .int .i64 a1_1, .int .i64 a1_2, .int .i64 a1_3, .int .i64 a1_4] 71 (0, 0)) (zK BK132) hb); have n1_ := Aside0.mk (below_step zB hb); have n2_ := Aside0.mk (hbox); have n3_ := Aside0.mk ((zG hg : w.heap.size ≤ gb133)); have n4_ := Aside0.mk ((zG hg : w.heap.size ≤ gb133)); have n5_ := Aside0.mk ((by rw [hg]; exact Nat.ne_of_lt (blk_lt (g := gc1_0) (o := .cells #[.int .i64 a1_0, .int .i64 a1_1, .int .i64 a1_2, .int .i64 a1_3, .int .i64 a1_4] 71 (0, 0)) (zK BK132)) : gc1_0 ≠ gb133)); have n6_ := Aside0.mk ((by rw [hg]; exact Nat.ne_of_gt (blk_lt (g := gc1_0) (o := .cells #[.int .i64 a1_0, .int .i64 a1_1, .int .i64 a1_2, .int .i64 a1_3, .int .i64 a1_4] 71 (0, 0)) (zK BK132)) : gb133 ≠ gc1_0)); clear BK132; clear HB; have BK132 := n0_; have HB := n1_; have BK133 := n2_; have GW133 := n3_; have GE133 := n4_; have NB132_133 := n5_; have NB133_132 := n6_; clear n0_ n1_ n2_ n3_ n4_ n5_ n6_; clear hb hbox hg; have hnb11 := NB133_132.out; have hnc11 := NB132_133.out; have hcz12_0 : w10.cell? ⟨gb133, 0, none⟩ = some (.int .i64 a0_0) := zT BK133 0; have hcz12_1 : w10.cell? ⟨gb133, 1, none⟩ = some (.int .i64 a0_1) := zT BK133 1; have hcz12_2 : w10.cell? ⟨gb133, 2, none⟩ = some (.int .i64 a0_2) := zT BK133 2; have hcz12_3 : w10.cell? ⟨gb133, 3, none⟩ = some (.int .i64 a0_3) := zT BK133 3; have hcz12_4 : w10.cell? ⟨gb133, 4, none⟩ = some (.int .i64 a0_4) := zT BK133 4; have hfz12_0 := blk_frozen BK133.out 0; have hfz12_1 := blk_frozen BK133.out 1; have hfz12_2 := blk_frozen BK133.out 2; have hfz12_3 := blk_frozen BK133.out 3; have hfz12_4 := blk_frozen BK133.out 4; have hcz13_0 : w10.cell? ⟨gc1_0, 0, none⟩ = some (.int .i64 a1_0) := zT BK132 0; have hcz13_1 : w10.cell? ⟨gc1_0, 1, none⟩ = some (.int .i64 a1_1) := zT BK132 1; have hcz13_2 : w10.cell? ⟨gc1_0, 2, none⟩ = some (.int .i64 a1_2) := zT BK132 2; have hcz13_3 : w10.cell? ⟨gc1_0, 3, none⟩ = some (.int .i64 a1_3) := zT BK132 3; have hcz13_4 : w10.cell? ⟨gc1_0, 4, none⟩ = some (.int .i64 a1_4) := zT BK132 4; have hfz13_0 := blk_frozen BK132.out 0; have hfz13_1 := blk_frozen BK132.out 1; have hfz13_2 := blk_frozen BK132.out 2; have hfz13_3 := blk_frozen BK132.out 3; have hfz13_4 := blk_frozen BK132.out 4))
  go_ret
  exact ⟨zE, zB⟩
 rw [if_neg c9] at H
 have c9b0 : (a0_0 == a1_1) = false := beq_eq_false_iff_ne.mpr c9
 have c9b1 : (a0_0 != a1_1) = true := bne_iff_ne.mpr c9
 obtain rfl := Option.some.inj H
 go_enter Try.func38, Try.ntmps38
 go_wp2_with (first | ((with_reducible refine gate_dst (N := 2) rfl ?_); refine bx 2 (#[.int .i64 a0_0, .int .i64 a0_1, .int .i64 a0_2, .int .i64 a0_3, .int .i64 a0_4]) 71 ?_; intro gb133 hg w14 hbox hb; have n0_ := Aside0.mk (blk_below (g := gc1_0) (o := .cells #[.int .i64 a1_0, .int .i64 a1_1, .int .i64 a1_2, .int .i64 a1_3, .int .i64 a1_4] 71 (0, 0)) (zK BK132) hb); have n1_ := Aside0.mk (below_step zB hb); have n2_ := Aside0.mk (hbox); have n3_ := Aside0.mk ((zG hg : w.heap.size ≤ gb133)); have n4_ := Aside0.mk ((zG hg : w.heap.size ≤ gb133)); have n5_ := Aside0.mk ((by rw [hg]; exact Nat.ne_of_lt (blk_lt (g := gc1_0) (o := .cells #[.int .i64 a1_0, .int .i64 a1_1, .int .i64 a1_2, .int .i64 a1_3, .int .i64 a1_4] 71 (0, 0)) (zK BK132)) : gc1_0 ≠ gb133)); have n6_ := Aside0.mk ((by rw [hg]; exact Nat.ne_of_gt (blk_lt (g := gc1_0) (o := .cells #[.int .i64 a1_0, .int .i64 a1_1, .int .i64 a1_2, .int .i64 a1_3, .int .i64 a1_4] 71 (0, 0)) (zK BK132)) : gb133 ≠ gc1_0)); clear BK132; clear HB; have BK132 := n0_; have HB := n1_; have BK133 := n2_; have GW133 := n3_; have GE133 := n4_; have NB132_133 := n5_; have NB133_132 := n6_; clear n0_ n1_ n2_ n3_ n4_ n5_ n6_; clear hb hbox hg; have hnb15 := NB133_132.out; have hnc15 := NB132_133.out; have hcz16_0 : w14.cell? ⟨gb133, 0, none⟩ = some (.int .i64 a0_0) := zT BK133 0; have hcz16_1 : w14.cell? ⟨gb133, 1, none⟩ = some (.int .i64 a0_1) := zT BK133 1; have hcz16_2 : w14.cell? ⟨gb133, 2, none⟩ = some (.int .i64 a0_2) := zT BK133 2; have hcz16_3 : w14.cell? ⟨gb133, 3, none⟩ = some (.int .i64 a0_3) := zT BK133 3; have hcz16_4 : w14.cell? ⟨gb133, 4, none⟩ = some (.int .i64 a0_4) := zT BK133 4; have hfz16_0 := blk_frozen BK133.out 0; have hfz16_1 := blk_frozen BK133.out 1; have hfz16_2 := blk_frozen BK133.out 2; have hfz16_3 := blk_frozen BK133.out 3; have hfz16_4 := blk_frozen BK133.out 4; have hcz17_0 : w14.cell? ⟨gc1_0, 0, none⟩ = some (.int .i64 a1_0) := zT BK132 0; have hcz17_1 : w14.cell? ⟨gc1_0, 1, none⟩ = some (.int .i64 a1_1) := zT BK132 1; have hcz17_2 : w14.cell? ⟨gc1_0, 2, none⟩ = some (.int .i64 a1_2) := zT BK132 2; have hcz17_3 : w14.cell? ⟨gc1_0, 3, none⟩ = some (.int .i64 a1_3) := zT BK132 3; have hcz17_4 : w14.cell? ⟨gc1_0, 4, none⟩ = some (.int .i64 a1_4) := zT BK132 4; have hfz17_0 := blk_frozen BK132.out 0; have hfz17_1 := blk_frozen BK132.out 1; have hfz17_2 := blk_frozen BK132.out 2; have hfz17_3 := blk_frozen BK132.out 3; have hfz17_4 := blk_frozen BK132.out 4))
 go_ret
 exact ⟨zE, zB⟩
/-! ### g4_: function 44 -/
def g4_.l0 : Nat → List (S71) → Int → Int → Int → Int → Int → Int → Int → Option (Int)
  | 0, _, _, _, _, _, _, _, _ => none
  | k + 1, x0, x7, x8, x136000, x136001, x136002, x136003, x136004 => if x8 < x7 then (if 0 ≤ x8 then (if x8 < (x0.length : Int) then ((best_Check_1.f ((rd_T71 x0 x8).f0) ((rd_T71 x0 x8).f1) ((rd_T71 x0 x8).f2) ((rd_T71 x0 x8).f3) ((rd_T71 x0 x8).f4) x136000 x136001 x136002 x136003 x136004).bind fun t137 => (if t137 = true then (some x8) else (g4_.l0 k x0 x7 (wrap64 (x8 + 1)) x136000 x136001 x136002 x136003 x136004))) else (none)) else (none)) else (some (-1))
def g4_.f (k : Nat) (l0 : List (S71)) (a1_0 : Int) (a1_1 : Int) (a1_2 : Int) (a1_3 : Int) (a1_4 : Int) : Option (Int) := g4_.l0 k l0 (l0.length : Int) 0 a1_0 a1_1 a1_2 a1_3 a1_4
theorem g4_.mono_l : ∀ k, (∀ y0 y1 y2 y3 y4 y5 y6 y7, LeO (g4_.l0 k y0 y1 y2 y3 y4 y5 y6 y7) (g4_.l0 (k + 1) y0 y1 y2 y3 y4 y5 y6 y7))
  | 0 => fun _ _ _ _ _ _ _ _ r h => by simp [g4_.l0] at h
  | k + 1 => by
    have ih0 := g4_.mono_l k
    · intro y0 y1 y2 y3 y4 y5 y6 y7
      unfold g4_.l0
      repeat' (with_reducible first | exact ih0 _ _ _ _ _ _ _ _ | exact LeO.refl _ | exact LeO.none _ | refine LeO.ite ?_ ?_ | refine LeO.bind ?_ (fun _ => ?_))
theorem g4_.mono : ∀ a0 a1 a2 a3 a4 a5 k, LeO (g4_.f k a0 a1 a2 a3 a4 a5) (g4_.f (k + 1) a0 a1 a2 a3 a4 a5) := by
  intro a0 a1 a2 a3 a4 a5 k
  have ih0 := g4_.mono_l k
  unfold g4_.f
  repeat' (with_reducible first | exact ih0 _ _ _ _ _ _ _ _ | exact LeO.refl _ | exact LeO.none _ | refine LeO.ite ?_ ?_ | refine LeO.bind ?_ (fun _ => ?_))
set_option maxHeartbeats 8000000 in
set_option maxRecDepth 100000 in
theorem g4_.calls (k : Nat) (A0 : Option Addr) (c0 : Nat) (l0 : List (S71)) (gc1_0 : Nat) (a1_0 : Int) (a1_1 : Int) (a1_2 : Int) (a1_3 : Int) (a1_4 : Int) (r : Int) (w : World) (hr0 : Kd.C k71 w A0 l0.length l0) (hc0 : l0.length ≤ c0) (hcap1_0 : w.heap[gc1_0]? = some (.cells #[.int .i64 a1_0, .int .i64 a1_1, .int .i64 a1_2, .int .i64 a1_3, .int .i64 a1_4] 71 (0, 0))) (h : g4_.f k l0 a1_0 a1_1 a1_2 a1_3 a1_4 = some r) :
 Calls Try.prog 44 #[.slice A0 l0.length c0, .func (.func 38) #[] #[.pointer (some ⟨gc1_0, 0, none⟩)]] w fun e w' => e = .returned (.int .i64 r) ∧ Below w.heap.size w w' := by
 have hu71 := Try.underlying71
 have HR0 := Aside0.mk hr0
 have HC0 := Aside0.mk hc0
 clear hr0 hc0
 have HCP1_0 := Aside0.mk hcap1_0
 clear hcap1_0
 have HB := Aside0.mk (Below.refl w.heap.size w)
 have H : (g4_.l0 k l0 (l0.length : Int) 0 a1_0 a1_1 a1_2 a1_3 a1_4) = some r := h
 clear h
 have H' := Aside0.mk H
 clear H
 go_enter Try.func44, Try.ntmps44
 go_wp2
 go_loopg [8] k (fun kq v8 w' => ∃ (x8_1 : Int), v8 = .int .i64 x8_1 ∧ Aside0 (g4_.l0 kq l0 (l0.length : Int) x8_1 a1_0 a1_1 a1_2 a1_3 a1_4 = some r) ∧ Aside0 (kq ≤ k) ∧ Aside0 (Below w.heap.size w w'))
 case atStart => exact ⟨(0), zR, H', ⟨Nat.le_refl _⟩, ⟨zB⟩⟩
 clear H'
 try clear p1
 try clear p2
 obtain ⟨x8_1, rfl, HA, HK1, HB⟩ := hrel
 rcases gk with _ | k1
 · exact absurd HA.out (by simp [g4_.l0])
 have H := HA.out
 clear HA
 simp only [g4_.l0] at H
 by_cases c3 : x8_1 < (l0.length : Int)
 rotate_left
 ·
  rw [if_neg c3] at H
  have c3b0 : decide (x8_1 < (l0.length : Int)) = false := decide_eq_false c3
  clear c3
  obtain rfl := Option.some.inj H
  go_wp2
  go_ret
  exact ⟨zE, zB⟩
 rw [if_pos c3] at H
 have c3b0 : decide (x8_1 < (l0.length : Int)) = true := decide_eq_true c3
 clear c3
 by_cases c4 : 0 ≤ x8_1
 rotate_left
 · rw [if_neg c4] at H; exact absurd H (by simp)
 rw [if_pos c4] at H
 have c4b0 : decide (0 ≤ x8_1) = true := decide_eq_true c4
 clear c4
 by_cases c5 : x8_1 < (l0.length : Int)
 rotate_left
 · rw [if_neg c5] at H; exact absurd H (by simp)
 rw [if_pos c5] at H
 have c5b0 : decide (x8_1 < (l0.length : Int)) = true := decide_eq_true c5
 clear c5
 replace H := Option.bind_eq_some_iff.mp H
 obtain ⟨t137, A60, H⟩ := H
 replace H : (if t137 = true then (some x8_1) else (g4_.l0 k1 l0 (l0.length : Int) (wrap64 (x8_1 + 1)) a1_0 a1_1 a1_2 a1_3 a1_4)) = some r := H
 have A6 := Aside0.mk A60
 clear A60
 by_cases c7 : t137 = true
 ·
  subst c7
  have H1 : (some x8_1) = some r := by rw [if_pos rfl] at H; exact H
  clear H
  have H := H1
  clear H1
  obtain rfl := Option.some.inj H
  have p136 : 0 ≤ (x8_1 : Int) := od
  have q136 : x8_1 < (l0.length : Int) := od
  obtain ⟨ad136, e136, hx136_0, hx136_1, hx136_2, hx136_3, hx136_4⟩ := at_T71 HR0.out x8_1 p136 q136
  cases e136
  replace hx136_0 := zL HB hx136_0
  replace hx136_1 := zL HB hx136_1
  replace hx136_2 := zL HB hx136_2
  replace hx136_3 := zL HB hx136_3
  replace hx136_4 := zL HB hx136_4
  replace p136 := eq_true p136
  replace q136 := eq_true q136
  go_wp2_with (first | (go_at_call 38; (with_reducible refine (best_Check_1.calls ((rd_T71 l0 x8_1).f0) ((rd_T71 l0 x8_1).f1) ((rd_T71 l0 x8_1).f2) ((rd_T71 l0 x8_1).f3) ((rd_T71 l0 x8_1).f4) gc1_0 a1_0 a1_1 a1_2 a1_3 a1_4 true _ ?side1 A6.out).mono ?_); (case side1 => exact blk_below HCP1_0.out zB); rintro e w8 ⟨rfl, hb⟩; have n0_ := Aside0.mk (below_step zB hb); clear HB; have HB := n0_; clear n0_; (try clear hb); (try clear hb2); (try clear hk); (try clear hi)))
  go_ret
  exact ⟨zE, zB⟩
 replace c7 := Bool.eq_false_iff.mpr c7
 subst c7
 have H1 : (g4_.l0 k1 l0 (l0.length : Int) (wrap64 (x8_1 + 1)) a1_0 a1_1 a1_2 a1_3 a1_4) = some r := by rw [if_neg (show ¬ (false = true) by decide)] at H; exact H
 clear H
 have H := H1
 clear H1
 have H' := Aside0.mk H
 clear H
 have p136 : 0 ≤ (x8_1 : Int) := od
 have q136 : x8_1 < (l0.length : Int) := od
 obtain ⟨ad136, e136, hx136_0, hx136_1, hx136_2, hx136_3, hx136_4⟩ := at_T71 HR0.out x8_1 p136 q136
 cases e136
 replace hx136_0 := zL HB hx136_0
 replace hx136_1 := zL HB hx136_1
 replace hx136_2 := zL HB hx136_2
 replace hx136_3 := zL HB hx136_3
 replace hx136_4 := zL HB hx136_4
 replace p136 := eq_true p136
 replace q136 := eq_true q136
 go_wp2_with (first | (go_at_call 38; (with_reducible refine (best_Check_1.calls ((rd_T71 l0 x8_1).f0) ((rd_T71 l0 x8_1).f1) ((rd_T71 l0 x8_1).f2) ((rd_T71 l0 x8_1).f3) ((rd_T71 l0 x8_1).f4) gc1_0 a1_0 a1_1 a1_2 a1_3 a1_4 false _ ?side1 A6.out).mono ?_); (case side1 => exact blk_below HCP1_0.out zB); rintro e w9 ⟨rfl, hb⟩; have n0_ := Aside0.mk (below_step zB hb); clear HB; have HB := n0_; clear n0_; (try clear hb); (try clear hb2); (try clear hk); (try clear hi)))
 go_roundg k1
 case measure => have := HK1.out; omega
 case rel => exact ⟨(wrap64 (x8_1 + 1)), zR, H', ⟨by have := HK1.out; omega⟩, ⟨zB⟩⟩
end Go.Proofs.Ytplcdbhklepkgaa.BS
