-- Made by gen.py, a program of this session's, over the kit's print.
import Derived.Test.YtplcdbhklepkgaaVValleyShort
import Derived.Test.YtplcdbhklepkgaaVValleyBSx0
import Derived.Test.YtplcdbhklepkgaaVValleyBSx4
import Derived.Test.YtplcdbhklepkgaaVValleyBSx8
import Derived.Test.YtplcdbhklepkgaaVValleyExtTies
namespace Go.Proofs.Ytplcdbhklepkgaa.BS
open Go.RowKit Go.Proofs.YtplcdbhklepkgaaW.PrintWords Go.Proofs.YtplcdbhklepkgaaW.PrintLast Go.Proofs.YtplcdbhklepkgaaW.PrintMore Go.Proofs.Ytplcdbhklepkgaa.GenWords
attribute [local go_sem] max2_int min2_int max_two min_two max_three min_three max_four min_four   -- for this text's walks alone
set_option linter.unusedVariables false
set_option linter.unusedSimpArgs false

/-! ### best_Settle: function 14 -/
mutual
def best_Settle.j0 : Nat → Int → Int → Bool → Int → List (S71) → Option ((List (S52)) × Int × Int)
  | 0, _, _, _, _, _ => none
  | k + 1, x1, x2, x20, x274000, x274001 => if x20 = true then (some (([] : List (S52)), 0, 1)) else (if x2 < 1 then (some (([] : List (S52)), 0, 10)) else (if x2 > 1000 then (some (([] : List (S52)), 0, 10)) else ((best_ties.f k x274000 x274001).bind fun t275 => (if t275.length = 256 then (if 0 ≤ x274000 then (if (x274000 : Int).toNat ≤ 11728124029610 then (best_Settle.l0 k x1 (List.replicate (x274000 : Int).toNat z52) x2 0 t275) else (none)) else (none)) else (none)))))
def best_Settle.l0 : Nat → Int → List (S52) → Int → Int → List S64 → Option ((List (S52)) × Int × Int)
  | 0, _, _, _, _, _ => none
  | k + 1, x1, x11, x41, x42, x277000 => if x42 < x41 then ((best_round.f k x277000 x1 x11).bind fun t280 => ((g2_.f k t280 x11).bind fun t283 => (if t283 = true then (some (x11, x42, 0)) else (best_Settle.l0 k x1 t280 x41 (wrap64 (x42 + 1)) x277000)))) else (some (([] : List (S52)), 0, 12))
end
def best_Settle.f (k : Nat) (a0_0 : Int) (l0_1 : List (S71)) (a1 : Int) (a2 : Int) : Option ((List (S52)) × Int × Int) := (best_Check.f k a0_0 l0_1).bind fun t274 => (if t274 = 0 then (if a1 < 0 then (best_Settle.j0 k a1 a2 true a0_0 l0_1) else (best_Settle.j0 k a1 a2 (decide (a1 ≥ a0_0)) a0_0 l0_1)) else (some (([] : List (S52)), 0, t274)))
theorem best_Settle.mono_l : ∀ k, (∀ y0 y1 y2 y3 y4, LeO (best_Settle.j0 k y0 y1 y2 y3 y4) (best_Settle.j0 (k + 1) y0 y1 y2 y3 y4)) ∧ (∀ y0 y1 y2 y3 y4, LeO (best_Settle.l0 k y0 y1 y2 y3 y4) (best_Settle.l0 (k + 1) y0 y1 y2 y3 y4))
  | 0 => ⟨fun _ _ _ _ _ r h => by simp [best_Settle.j0] at h, fun _ _ _ _ _ r h => by simp [best_Settle.l0] at h⟩
  | k + 1 => by
    obtain ⟨ih0, ih1⟩ := best_Settle.mono_l k
    refine ⟨?_, ?_⟩
    · intro y0 y1 y2 y3 y4
      unfold best_Settle.j0
      repeat' (with_reducible first | exact ih0 _ _ _ _ _ | exact ih1 _ _ _ _ _ | exact best_Check.mono _ _ _ | exact best_round.mono _ _ _ _ | exact best_ties.mono _ _ _ | exact g2_.mono _ _ _ | exact LeO.refl _ | exact LeO.none _ | refine LeO.ite ?_ ?_ | refine LeO.bind ?_ (fun _ => ?_))
    · intro y0 y1 y2 y3 y4
      unfold best_Settle.l0
      repeat' (with_reducible first | exact ih0 _ _ _ _ _ | exact ih1 _ _ _ _ _ | exact best_Check.mono _ _ _ | exact best_round.mono _ _ _ _ | exact best_ties.mono _ _ _ | exact g2_.mono _ _ _ | exact LeO.refl _ | exact LeO.none _ | refine LeO.ite ?_ ?_ | refine LeO.bind ?_ (fun _ => ?_))
theorem best_Settle.mono : ∀ a0 a1 a2 a3 k, LeO (best_Settle.f k a0 a1 a2 a3) (best_Settle.f (k + 1) a0 a1 a2 a3) := by
  intro a0 a1 a2 a3 k
  obtain ⟨ih0, ih1⟩ := best_Settle.mono_l k
  unfold best_Settle.f
  repeat' (with_reducible first | exact ih0 _ _ _ _ _ | exact ih1 _ _ _ _ _ | exact best_Check.mono _ _ _ | exact best_round.mono _ _ _ _ | exact best_ties.mono _ _ _ | exact g2_.mono _ _ _ | exact LeO.refl _ | exact LeO.none _ | refine LeO.ite ?_ ?_ | refine LeO.bind ?_ (fun _ => ?_))
set_option maxHeartbeats 8000000 in
set_option maxRecDepth 100000 in
theorem best_Settle.calls (k : Nat) (a0_0 : Int) (A0_1 : Option Addr) (c0_1 : Nat) (l0_1 : List (S71)) (a1 : Int) (a2 : Int) (r1 : List (S52)) (r2 : Int) (r3 : Int) (w : World) (hr0_1 : Kd.C k71 w A0_1 l0_1.length l0_1) (hc0_1 : l0_1.length ≤ c0_1) (h : best_Settle.f k a0_0 l0_1 a1 a2 = some (r1, r2, r3)) :
 Calls Try.prog 14 #[.agg #[.int .i64 a0_0, .slice A0_1 l0_1.length c0_1], .int .i64 a1, .int .i64 a2] w fun e w' => ∃ v0_ : Value, e = .returned (.tuple #[v0_, .int .i64 r2, .int .i64 r3]) ∧ Kd.S k52 52 w' w.heap.size (fun _ => True) v0_ r1 ∧ Below w.heap.size w w' := by
 have hu42 := Try.underlying42
 have hu3 := Try.underlying3
 have hu66 := Try.underlying66
 have HR0_1 := Aside0.mk hr0_1
 have HC0_1 := Aside0.mk hc0_1
 clear hr0_1 hc0_1
 have HB := Aside0.mk (Below.refl w.heap.size w)
 have H : ((best_Check.f k a0_0 l0_1).bind fun t274 => (if t274 = 0 then (if a1 < 0 then (best_Settle.j0 k a1 a2 true a0_0 l0_1) else (best_Settle.j0 k a1 a2 (decide (a1 ≥ a0_0)) a0_0 l0_1)) else (some (([] : List (S52)), 0, t274)))) = some (r1, r2, r3) := h
 clear h
 replace H := Option.bind_eq_some_iff.mp H
 obtain ⟨t274, A40, H⟩ := H
 replace H : (if t274 = 0 then (if a1 < 0 then (best_Settle.j0 k a1 a2 true a0_0 l0_1) else (best_Settle.j0 k a1 a2 (decide (a1 ≥ a0_0)) a0_0 l0_1)) else (some (([] : List (S52)), 0, t274))) = some (r1, r2, r3) := H
 have A4 := Aside0.mk A40
 clear A40
 by_cases c5 : t274 = 0
 rotate_left
 ·
  rw [if_neg c5] at H
  have c5b0 : (t274 == 0) = false := beq_eq_false_iff_ne.mpr c5
  have c5b1 : (t274 != 0) = true := bne_iff_ne.mpr c5
  simp only [Option.some.injEq, Prod.mk.injEq] at H
  obtain ⟨rfl, rfl, rfl⟩ := H
  go_enter Try.func14, Try.ntmps14
  go_wp2_with (first | ((with_reducible refine gate_dst (N := 3) rfl ?_); refine bx 3 (#[.int .i64 a0_0, .slice A0_1 l0_1.length c0_1]) 42 ?_; intro gb273 hg w38 hbox hb; have n0_ := Aside0.mk (below_step zB hb); have n1_ := Aside0.mk (hbox); have n2_ := Aside0.mk ((zG hg : w.heap.size ≤ gb273)); have n3_ := Aside0.mk ((zG hg : w.heap.size ≤ gb273)); clear HB; have HB := n0_; have BK273 := n1_; have GW273 := n2_; have GE273 := n3_; clear n0_ n1_ n2_ n3_; clear hb hbox hg; have hcz39_0 : w38.cell? ⟨gb273, 0, none⟩ = some (.int .i64 a0_0) := zT BK273 0; have hcz39_1 : w38.cell? ⟨gb273, 1, none⟩ = some (.slice A0_1 l0_1.length c0_1) := zT BK273 1; have hfz39_0 := blk_frozen BK273.out 0; have hfz39_1 := blk_frozen BK273.out 1) | ((with_reducible refine gate_callee (f := 27) rfl ?_); refine goesL_ (some 15) rfl rfl Try.func27 (by kernel_rfl) rfl #[.agg #[.int .i64 a0_0, .slice A0_1 l0_1.length c0_1]] rfl zM ?_; (with_reducible refine (best_Check.calls k a0_0 _ _ l0_1 t274 _ ?side1 ?side2 A4.out).mono ?_); (case side1 => exact zC HR0_1 HB); (case side2 => exact HC0_1.out); rintro e w40 ⟨rfl, hb⟩; refine ⟨_, rfl, ?_⟩; have n0_ := Aside0.mk (blk_below (g := gb273) (o := .cells #[.int .i64 a0_0, .slice A0_1 l0_1.length c0_1] 42 (0, 0)) (zK BK273) hb); have n1_ := Aside0.mk (below_step zB hb); clear BK273; clear HB; have BK273 := n0_; have HB := n1_; clear n0_ n1_; (try clear hb); (try clear hb2); (try clear hk); (try clear hi)))
  go_ret3
  exact ⟨_, zE, by first | exact Kd.S_nil _ _ _ _ _ | exact Kd.N_nil _ _ _ _ _ | exact Kd.V_nil _ _ _ _ _ | exact Kd.Q_nil _ _ _ _ _ | exact Kd.R_nil _ _ _ _ _, zB⟩
 rw [if_pos c5] at H
 have c5b0 : (t274 == 0) = true := beq_iff_eq.mpr c5
 have c5b1 : (t274 != 0) = false := bne_eq_false_iff_eq.mpr c5
 clear c5
 have HC6 := Aside0.mk H
 clear H
 go_enter Try.func14, Try.ntmps14
 go_upto_region 4 with (first | ((with_reducible refine gate_dst (N := 3) rfl ?_); refine bx 3 (#[.int .i64 a0_0, .slice A0_1 l0_1.length c0_1]) 42 ?_; intro gb273 hg w7 hbox hb; have n0_ := Aside0.mk (below_step zB hb); have n1_ := Aside0.mk (hbox); have n2_ := Aside0.mk ((zG hg : w.heap.size ≤ gb273)); have n3_ := Aside0.mk ((zG hg : w.heap.size ≤ gb273)); clear HB; have HB := n0_; have BK273 := n1_; have GW273 := n2_; have GE273 := n3_; clear n0_ n1_ n2_ n3_; clear hb hbox hg; have hcz8_0 : w7.cell? ⟨gb273, 0, none⟩ = some (.int .i64 a0_0) := zT BK273 0; have hcz8_1 : w7.cell? ⟨gb273, 1, none⟩ = some (.slice A0_1 l0_1.length c0_1) := zT BK273 1; have hfz8_0 := blk_frozen BK273.out 0; have hfz8_1 := blk_frozen BK273.out 1) | ((with_reducible refine gate_callee (f := 27) rfl ?_); refine goesL_ (some 15) rfl rfl Try.func27 (by kernel_rfl) rfl #[.agg #[.int .i64 a0_0, .slice A0_1 l0_1.length c0_1]] rfl zM ?_; (with_reducible refine (best_Check.calls k a0_0 _ _ l0_1 t274 _ ?side1 ?side2 A4.out).mono ?_); (case side1 => exact zC HR0_1 HB); (case side2 => exact HC0_1.out); rintro e w9 ⟨rfl, hb⟩; refine ⟨_, rfl, ?_⟩; have n0_ := Aside0.mk (blk_below (g := gb273) (o := .cells #[.int .i64 a0_0, .slice A0_1 l0_1.length c0_1] 42 (0, 0)) (zK BK273) hb); have n1_ := Aside0.mk (below_step zB hb); clear BK273; clear HB; have BK273 := n0_; have HB := n1_; clear n0_ n1_; (try clear hb); (try clear hb2); (try clear hk); (try clear hi)))
 (try simp only [Act.put, List.setIfInBounds_toArray, List.set_cons_zero, List.set_cons_succ])
 go_cut [20] (fun v20 wc => ∃ (kq : Nat) (x20_5 : Bool), v20 = .bool x20_5 ∧ Aside0 (best_Settle.j0 kq a1 a2 x20_5 a0_0 l0_1 = some (r1, r2, r3)) ∧ Aside0 (kq ≤ k) ∧ Aside0 (wc.heap[gb273]? = some (.cells #[.int .i64 a0_0, (.slice A0_1 l0_1.length c0_1)] 42 (0, 0))) ∧ Aside0 (Below w.heap.size w wc))
 case first =>
  have H := HC6.out
  clear HC6
  by_cases c10 : a1 < 0
  ·
   rw [if_pos c10] at H
   have c10b0 : decide (a1 < 0) = true := decide_eq_true c10
   clear c10
   (first | rw [c10b0] | (simp only [i64_w, i32_w]; rw [c10b0]) | skip)
   have H' := Aside0.mk H
   clear H
   go_wp2
   go_meet
   case rel => exact ⟨_, (true), zR, H', ⟨by first | omega | exact Nat.le_refl _⟩, ⟨zK BK273⟩, ⟨zB⟩⟩
  rw [if_neg c10] at H
  have c10b0 : decide (a1 < 0) = false := decide_eq_false c10
  clear c10
  (first | rw [c10b0] | (simp only [i64_w, i32_w]; rw [c10b0]) | skip)
  have H' := Aside0.mk H
  clear H
  have hcz11_0 : w9.cell? ⟨gb273, 0, none⟩ = some (.int .i64 a0_0) := zT BK273 0
  have hcz11_1 : w9.cell? ⟨gb273, 1, none⟩ = some (.slice A0_1 l0_1.length c0_1) := zT BK273 1
  have hfz11_0 := blk_frozen BK273.out 0
  have hfz11_1 := blk_frozen BK273.out 1
  go_wp2
  go_meet
  case rel => exact ⟨_, (decide (a1 ≥ a0_0)), zR, H', ⟨by first | omega | exact Nat.le_refl _⟩, ⟨zK BK273⟩, ⟨zB⟩⟩
 clear HC6
 try clear c1
 try clear c2
 try clear p2
 try clear c5
 try clear c5b0
 try clear c5b1
 try clear c10
 try clear c10b0
 try clear hcz11_0
 try clear hcz11_1
 try clear hcz8_0
 try clear hcz8_1
 try clear hfz11_0
 try clear hfz11_1
 try clear hfz8_0
 try clear hfz8_1
 obtain ⟨kq, x20_5, rfl, HA, HJ5, BK273, HB⟩ := hcut
 rcases kq with _ | kj5
 · exact absurd HA.out (by simp [best_Settle.j0])
 have H := HA.out
 clear HA
 simp only [best_Settle.j0] at H
 by_cases c12 : x20_5 = true
 ·
  subst c12
  have H1 : (some (([] : List (S52)), 0, 1)) = some (r1, r2, r3) := by rw [if_pos rfl] at H; exact H
  clear H
  have H := H1
  clear H1
  simp only [Option.some.injEq, Prod.mk.injEq] at H
  obtain ⟨rfl, rfl, rfl⟩ := H
  go_wp2
  go_ret3
  exact ⟨_, zE, by first | exact Kd.S_nil _ _ _ _ _ | exact Kd.N_nil _ _ _ _ _ | exact Kd.V_nil _ _ _ _ _ | exact Kd.Q_nil _ _ _ _ _ | exact Kd.R_nil _ _ _ _ _, zB⟩
 replace c12 := Bool.eq_false_iff.mpr c12
 subst c12
 have H1 : (if a2 < 1 then (some (([] : List (S52)), 0, 10)) else (if a2 > 1000 then (some (([] : List (S52)), 0, 10)) else ((best_ties.f kj5 a0_0 l0_1).bind fun t275 => (if t275.length = 256 then (if 0 ≤ a0_0 then (if (a0_0 : Int).toNat ≤ 11728124029610 then (best_Settle.l0 kj5 a1 (List.replicate (a0_0 : Int).toNat z52) a2 0 t275) else (none)) else (none)) else (none))))) = some (r1, r2, r3) := by rw [if_neg (show ¬ (false = true) by decide)] at H; exact H
 clear H
 have H := H1
 clear H1
 by_cases c13 : a2 < 1
 ·
  rw [if_pos c13] at H
  have c13b0 : decide (a2 < 1) = true := decide_eq_true c13
  clear c13
  simp only [Option.some.injEq, Prod.mk.injEq] at H
  obtain ⟨rfl, rfl, rfl⟩ := H
  go_wp2
  go_ret3
  exact ⟨_, zE, by first | exact Kd.S_nil _ _ _ _ _ | exact Kd.N_nil _ _ _ _ _ | exact Kd.V_nil _ _ _ _ _ | exact Kd.Q_nil _ _ _ _ _ | exact Kd.R_nil _ _ _ _ _, zB⟩
 rw [if_neg c13] at H
 have c13b0 : decide (a2 < 1) = false := decide_eq_false c13
 clear c13
 by_cases c14 : a2 > 1000
 ·
  rw [if_pos c14] at H
  have c14b0 : decide (1000 < a2) = true := decide_eq_true c14
  clear c14
  simp only [Option.some.injEq, Prod.mk.injEq] at H
  obtain ⟨rfl, rfl, rfl⟩ := H
  go_wp2
  go_ret3
  exact ⟨_, zE, by first | exact Kd.S_nil _ _ _ _ _ | exact Kd.N_nil _ _ _ _ _ | exact Kd.V_nil _ _ _ _ _ | exact Kd.Q_nil _ _ _ _ _ | exact Kd.R_nil _ _ _ _ _, zB⟩
 rw [if_neg c14] at H
 have c14b0 : decide (1000 < a2) = false := decide_eq_false c14
 clear c14
 replace H := Option.bind_eq_some_iff.mp H
 obtain ⟨t275, A150, H⟩ := H
 replace H : (if t275.length = 256 then (if 0 ≤ a0_0 then (if (a0_0 : Int).toNat ≤ 11728124029610 then (best_Settle.l0 kj5 a1 (List.replicate (a0_0 : Int).toNat z52) a2 0 t275) else (none)) else (none)) else (none)) = some (r1, r2, r3) := H
 have A15 := Aside0.mk A150
 clear A150
 by_cases c16 : t275.length = 256
 rotate_left
 · rw [if_neg c16] at H; exact absurd H (by simp)
 rw [if_pos c16] at H
 have LMc16 := Aside0.mk c16
 clear c16
 by_cases c17 : 0 ≤ a0_0
 rotate_left
 · rw [if_neg c17] at H; exact absurd H (by simp)
 rw [if_pos c17] at H
 have c17b0 := eq_true c17
 have c17b1 : decide (0 ≤ a0_0) = true := decide_eq_true c17
 clear c17
 by_cases c18 : (a0_0 : Int).toNat ≤ 11728124029610
 rotate_left
 · rw [if_neg c18] at H; exact absurd H (by simp)
 rw [if_pos c18] at H
 have c18b0 := eq_true c18
 have c18b1 : decide ((a0_0 : Int).toNat ≤ 11728124029610) = true := decide_eq_true c18
 clear c18
 obtain ⟨y277, hy277⟩ : ∃ y_ : List (S52), y_ = (List.replicate (a0_0 : Int).toNat z52) := ⟨_, rfl⟩
 replace H : (best_Settle.l0 kj5 a1 y277 a2 0 t275) = some (r1, r2, r3) := by first | (rw [hy277]; with_reducible exact H) | (have H2_ := (Option.bind_some _ _).symm.trans H; rw [hy277]; with_reducible exact H2_) | (have H2_ := (Option.bind_some _ _).symm.trans H; with_reducible exact H2_) | with_reducible exact H | (rw [hy277]; exact H) | exact H
 have Ny277 := Aside0.mk hy277
 clear hy277
 have H' := Aside0.mk H
 clear H
 have hcz19_0 : wc.cell? ⟨gb273, 0, none⟩ = some (.int .i64 a0_0) := zT BK273 0
 have hcz19_1 : wc.cell? ⟨gb273, 1, none⟩ = some (.slice A0_1 l0_1.length c0_1) := zT BK273 1
 have hfz19_0 := blk_frozen BK273.out 0
 have hfz19_1 := blk_frozen BK273.out 1
 go_wp2_with (first | ((with_reducible refine gate_callee (f := 28) rfl ?_); refine goesL_ (some 37) rfl rfl Try.func28 (by kernel_rfl) rfl #[.agg #[.int .i64 a0_0, .slice A0_1 l0_1.length c0_1]] rfl zM ?_; (with_reducible refine (best_ties.calls kj5 a0_0 _ _ l0_1 t275 _ ?side1 ?side2 A15.out).mono ?_); (case side1 => exact zC HR0_1 HB); (case side2 => exact HC0_1.out); rintro e w20 ⟨rfl, hb⟩; refine ⟨_, rfl, ?_⟩; have n0_ := Aside0.mk (blk_below (g := gb273) (o := .cells #[.int .i64 a0_0, .slice A0_1 l0_1.length c0_1] 42 (0, 0)) (zK BK273) hb); have n1_ := Aside0.mk (below_step zB hb); clear BK273; clear HB; have BK273 := n0_; have HB := n1_; clear n0_ n1_; (try clear hb); (try clear hb2); (try clear hk); (try clear hi)) | ((with_reducible refine gate_dst (N := 10) rfl ?_); refine arr_event (N := 10) rfl rfl rfl rfl rfl rfl infoA66 ((ag66_size _).trans (by rw [List.length_replicate])) (cs := ag66 t275) ((ag66_size _).trans (by have := LMc16.out; omega)) (ag66_one _) ?hn ?hx ?_; (case hn => first | rfl | (go_simp; done) | (go_simp; rfl)); (case hx => first | rfl | (go_simp; done) | (go_simp; rfl)); intro gb276 hg w21 hbox hb; have n0_ := Aside0.mk (blk_below (g := gb273) (o := .cells #[.int .i64 a0_0, .slice A0_1 l0_1.length c0_1] 42 (0, 0)) (zK BK273) hb); have n1_ := Aside0.mk (below_step zB hb); have n2_ := Aside0.mk (hbox); have n3_ := Aside0.mk ((zG hg : w.heap.size ≤ gb276)); have n4_ := Aside0.mk ((zG hg : w.heap.size ≤ gb276)); have n5_ := Aside0.mk ((by rw [hg]; exact Nat.ne_of_lt (blk_lt (g := gb273) (o := .cells #[.int .i64 a0_0, .slice A0_1 l0_1.length c0_1] 42 (0, 0)) (zK BK273)) : gb273 ≠ gb276)); have n6_ := Aside0.mk ((by rw [hg]; exact Nat.ne_of_gt (blk_lt (g := gb273) (o := .cells #[.int .i64 a0_0, .slice A0_1 l0_1.length c0_1] 42 (0, 0)) (zK BK273)) : gb276 ≠ gb273)); clear BK273; clear HB; have BK273 := n0_; have HB := n1_; have BK276 := n2_; have GW276 := n3_; have GE276 := n4_; have NB273_276 := n5_; have NB276_273 := n6_; clear n0_ n1_ n2_ n3_ n4_ n5_ n6_; clear hb hbox hg; have hnb22 := NB273_276.out; have hnc22 := NB276_273.out; have hcz23_0 : w21.cell? ⟨gb273, 0, none⟩ = some (.int .i64 a0_0) := zT BK273 0; have hcz23_1 : w21.cell? ⟨gb273, 1, none⟩ = some (.slice A0_1 l0_1.length c0_1) := zT BK273 1; have hfz23_0 := blk_frozen BK273.out 0; have hfz23_1 := blk_frozen BK273.out 1) | ((with_reducible refine gate_dst (N := 40) rfl ?_); refine Kd.S_make k52 _ 52 rfl (N := 40) rfl 43 _ _ rfl a0_0 rfl rfl Try.underlying43 (.agg #[(.slice none 0 0)]) 24 info52 rfl (by decide) (by omega) z52 (ok := fun _ => True) (okp := fun _ => True) (k52_mkM _ _ _ z52 (Kd.R_nil _ _ _ _ _)) (fun _ hk => hk) trivial (od) (Nat.le_trans (Nat.mul_le_mul_right _ (od : a0_0.toNat ≤ 11728124029610)) (by omega)) (Below.refl _ _) (Nat.le_refl _) ?_; intro v278 w24 ho25 hb hg_ hnew_; clear hg_ hnew_; (first | rw [← Ny277.out] at ho25 | (simp only [Int.reduceToNat] at ho25; rw [← Ny277.out] at ho25)); have n0_ := Aside0.mk (Kd.S_lower ho25 (below_size zB)); have n1_ := Aside0.mk (blk_below (g := gb273) (o := .cells #[.int .i64 a0_0, .slice A0_1 l0_1.length c0_1] 42 (0, 0)) (zK BK273) hb); have n2_ := Aside0.mk (blk_below (g := gb276) (o := .cells (ag66 t275) 66 (0, 0)) (zK BK276) hb); have n3_ := Aside0.mk (below_step zB hb); clear BK273; clear BK276; clear HB; have HO279 := n0_; have BK273 := n1_; have BK276 := n2_; have HB := n3_; clear n0_ n1_ n2_ n3_; clear hb ho25))
 go_loopg [11, 42] kj5 (fun kq v11 v42 w' => ∃ (x11_2 : List (S52)) (x42_2 : Int), v42 = .int .i64 x42_2 ∧ Aside0 (best_Settle.l0 kq a1 x11_2 a2 x42_2 t275 = some (r1, r2, r3)) ∧ Aside0 (kq ≤ kj5) ∧ Aside0 (Kd.S k52 52 w' w.heap.size (fun _ => True) v11 x11_2) ∧ Aside0 (w'.heap[gb273]? = some (.cells #[.int .i64 a0_0, (.slice A0_1 l0_1.length c0_1)] 42 (0, 0))) ∧ Aside0 (w'.heap[gb276]? = some (.cells (ag66 t275) 66 (0, 0))) ∧ Aside0 (Below w.heap.size w w'))
 case atStart => exact ⟨(y277), (0), zR, H', ⟨Nat.le_refl _⟩, ⟨zS HO279⟩, ⟨zK BK273⟩, ⟨zK BK276⟩, ⟨zB⟩⟩
 clear H'
 try clear c1
 try clear c2
 try clear p2
 try clear c5
 try clear c5b0
 try clear c5b1
 try clear c10
 try clear c10b0
 try clear c12
 try clear c13
 try clear c13b0
 try clear c14
 try clear c14b0
 try clear c16
 try clear c17
 try clear c17b0
 try clear c17b1
 try clear c18
 try clear c18b0
 try clear c18b1
 try clear c22
 try clear hcz11_0
 try clear hcz11_1
 try clear hcz19_0
 try clear hcz19_1
 try clear hcz23_0
 try clear hcz23_1
 try clear hcz8_0
 try clear hcz8_1
 try clear hfz11_0
 try clear hfz11_1
 try clear hfz19_0
 try clear hfz19_1
 try clear hfz23_0
 try clear hfz23_1
 try clear hfz8_0
 try clear hfz8_1
 try clear p2
 obtain ⟨x11_2, x42_2, rfl, HA, HK2, HO_11, BK273, BK276, HB⟩ := hrel
 rcases gk with _ | k2
 · exact absurd HA.out (by simp [best_Settle.l0])
 have H := HA.out
 clear HA
 simp only [best_Settle.l0] at H
 by_cases c26 : x42_2 < a2
 rotate_left
 ·
  rw [if_neg c26] at H
  have c26b0 : decide (x42_2 < a2) = false := decide_eq_false c26
  clear c26
  simp only [Option.some.injEq, Prod.mk.injEq] at H
  obtain ⟨rfl, rfl, rfl⟩ := H
  go_wp2
  go_ret3
  exact ⟨_, zE, by first | exact Kd.S_nil _ _ _ _ _ | exact Kd.N_nil _ _ _ _ _ | exact Kd.V_nil _ _ _ _ _ | exact Kd.Q_nil _ _ _ _ _ | exact Kd.R_nil _ _ _ _ _, zB⟩
 rw [if_pos c26] at H
 have c26b0 : decide (x42_2 < a2) = true := decide_eq_true c26
 clear c26
 replace H := Option.bind_eq_some_iff.mp H
 obtain ⟨t280, A270, H⟩ := H
 replace H : ((g2_.f k2 t280 x11_2).bind fun t283 => (if t283 = true then (some (x11_2, x42_2, 0)) else (best_Settle.l0 k2 a1 t280 a2 (wrap64 (x42_2 + 1)) t275))) = some (r1, r2, r3) := H
 have A27 := Aside0.mk A270
 clear A270
 replace H := Option.bind_eq_some_iff.mp H
 obtain ⟨t283, A280, H⟩ := H
 replace H : (if t283 = true then (some (x11_2, x42_2, 0)) else (best_Settle.l0 k2 a1 t280 a2 (wrap64 (x42_2 + 1)) t275)) = some (r1, r2, r3) := H
 have A28 := Aside0.mk A280
 clear A280
 by_cases c29 : t283 = true
 ·
  subst c29
  have H1 : (some (x11_2, x42_2, 0)) = some (r1, r2, r3) := by rw [if_pos rfl] at H; exact H
  clear H
  have H := H1
  clear H1
  simp only [Option.some.injEq, Prod.mk.injEq] at H
  obtain ⟨rfl, rfl, rfl⟩ := H
  obtain ⟨Ao30, co30, eo30⟩ := Kd.S_slice HO_11.out
  subst eo30
  go_wp2_with (first | ((with_reducible refine gate_callee (f := 29) rfl ?_); refine goesL_ (some 47) rfl rfl Try.func29 (by kernel_rfl) rfl #[.pointer (some ⟨gb276, 0, none⟩), .int .i64 a1, .slice Ao30 x11_2.length co30] rfl zM ?_; (with_reducible refine (best_round.calls k2 gb276 t275 a1 _ _ x11_2 t280 _ ?side1 ?side2 ?side3 A27.out).mono ?_); (case side1 => exact (zK BK276)); (case side2 => repeat (first | exact (Kd.S_reads' HO_11.out).2.2 | (with_reducible refine Kd.C_alloc ?_ _) | (with_reducible refine Kd.C_drewN ?_ _) | (with_reducible refine Kd.C_drew ?_))); (case side3 => exact (Kd.S_reads' HO_11.out).2.1); rintro e w31 ⟨v281, rfl, ho0, hb⟩; refine ⟨_, rfl, ?_⟩; have n0_ := Aside0.mk (Kd.S_elder' (zS HO_11) (Kd.S_base ho0) hb); have n1_ := Aside0.mk (Kd.S_lower (Kd.S_new' ho0 (Kd.S_lt (zS HO_11))) (below_size zB)); have n2_ := Aside0.mk (blk_below (g := gb273) (o := .cells #[.int .i64 a0_0, .slice A0_1 l0_1.length c0_1] 42 (0, 0)) (zK BK273) hb); have n3_ := Aside0.mk (blk_below (g := gb276) (o := .cells (ag66 t275) 66 (0, 0)) (zK BK276) hb); have n4_ := Aside0.mk (below_step zB hb); clear HO_11; clear BK273; clear BK276; clear HB; have HO_11 := n0_; have HO282 := n1_; have BK273 := n2_; have BK276 := n3_; have HB := n4_; clear n0_ n1_ n2_ n3_ n4_; (try clear hb); (try clear hb2); (try clear hk); (try clear hi); (try clear ho0); obtain ⟨Ao32, co32, eo32⟩ := Kd.S_slice HO282.out; subst eo32) | ((with_reducible refine gate_callee (f := 19) rfl ?_); refine goesL_ (some 50) rfl rfl Try.func19 (by kernel_rfl) rfl #[.slice Ao32 t280.length co32, .slice Ao30 x11_2.length co30, .func (.func 30) #[] #[]] rfl zM ?_; (with_reducible refine (g2_.calls k2 _ _ t280 _ _ x11_2  true _ ?side1 ?side2 ?side3 ?side4 A28.out).mono ?_); (case side1 => repeat (first | exact (Kd.S_reads' HO282.out).2.2 | (with_reducible refine Kd.C_alloc ?_ _) | (with_reducible refine Kd.C_drewN ?_ _) | (with_reducible refine Kd.C_drew ?_))); (case side2 => exact (Kd.S_reads' HO282.out).2.1); (case side3 => repeat (first | exact (Kd.S_reads' HO_11.out).2.2 | (with_reducible refine Kd.C_alloc ?_ _) | (with_reducible refine Kd.C_drewN ?_ _) | (with_reducible refine Kd.C_drew ?_))); (case side4 => exact (Kd.S_reads' HO_11.out).2.1); rintro e w33 ⟨rfl, hb⟩; refine ⟨_, rfl, ?_⟩; have n0_ := Aside0.mk (Kd.S_below (zS HO_11) hb); have n1_ := Aside0.mk (Kd.S_below (zS HO282) hb); have n2_ := Aside0.mk (blk_below (g := gb273) (o := .cells #[.int .i64 a0_0, .slice A0_1 l0_1.length c0_1] 42 (0, 0)) (zK BK273) hb); have n3_ := Aside0.mk (blk_below (g := gb276) (o := .cells (ag66 t275) 66 (0, 0)) (zK BK276) hb); have n4_ := Aside0.mk (below_step zB hb); clear HO_11; clear HO282; clear BK273; clear BK276; clear HB; have HO_11 := n0_; have HO282 := n1_; have BK273 := n2_; have BK276 := n3_; have HB := n4_; clear n0_ n1_ n2_ n3_ n4_; (try clear hb); (try clear hb2); (try clear hk); (try clear hi)))
  go_ret3
  exact ⟨_, zE, by (with_reducible repeat (first | apply Kd.S_alloc | apply Kd.S_drewN | apply Kd.S_drew)); exact Kd.S_mono HO_11.out (fun _ hk => trivial), zB⟩
 replace c29 := Bool.eq_false_iff.mpr c29
 subst c29
 have H1 : (best_Settle.l0 k2 a1 t280 a2 (wrap64 (x42_2 + 1)) t275) = some (r1, r2, r3) := by rw [if_neg (show ¬ (false = true) by decide)] at H; exact H
 clear H
 have H := H1
 clear H1
 have H' := Aside0.mk H
 clear H
 obtain ⟨Ao34, co34, eo34⟩ := Kd.S_slice HO_11.out
 subst eo34
 go_wp2_with (first | ((with_reducible refine gate_callee (f := 29) rfl ?_); refine goesL_ (some 47) rfl rfl Try.func29 (by kernel_rfl) rfl #[.pointer (some ⟨gb276, 0, none⟩), .int .i64 a1, .slice Ao34 x11_2.length co34] rfl zM ?_; (with_reducible refine (best_round.calls k2 gb276 t275 a1 _ _ x11_2 t280 _ ?side1 ?side2 ?side3 A27.out).mono ?_); (case side1 => exact (zK BK276)); (case side2 => repeat (first | exact (Kd.S_reads' HO_11.out).2.2 | (with_reducible refine Kd.C_alloc ?_ _) | (with_reducible refine Kd.C_drewN ?_ _) | (with_reducible refine Kd.C_drew ?_))); (case side3 => exact (Kd.S_reads' HO_11.out).2.1); rintro e w35 ⟨v281, rfl, ho0, hb⟩; refine ⟨_, rfl, ?_⟩; have n0_ := Aside0.mk (Kd.S_elder' (zS HO_11) (Kd.S_base ho0) hb); have n1_ := Aside0.mk (Kd.S_lower (Kd.S_new' ho0 (Kd.S_lt (zS HO_11))) (below_size zB)); have n2_ := Aside0.mk (blk_below (g := gb273) (o := .cells #[.int .i64 a0_0, .slice A0_1 l0_1.length c0_1] 42 (0, 0)) (zK BK273) hb); have n3_ := Aside0.mk (blk_below (g := gb276) (o := .cells (ag66 t275) 66 (0, 0)) (zK BK276) hb); have n4_ := Aside0.mk (below_step zB hb); clear HO_11; clear BK273; clear BK276; clear HB; have HO_11 := n0_; have HO282 := n1_; have BK273 := n2_; have BK276 := n3_; have HB := n4_; clear n0_ n1_ n2_ n3_ n4_; (try clear hb); (try clear hb2); (try clear hk); (try clear hi); (try clear ho0); obtain ⟨Ao36, co36, eo36⟩ := Kd.S_slice HO282.out; subst eo36) | ((with_reducible refine gate_callee (f := 19) rfl ?_); refine goesL_ (some 50) rfl rfl Try.func19 (by kernel_rfl) rfl #[.slice Ao36 t280.length co36, .slice Ao34 x11_2.length co34, .func (.func 30) #[] #[]] rfl zM ?_; (with_reducible refine (g2_.calls k2 _ _ t280 _ _ x11_2  false _ ?side1 ?side2 ?side3 ?side4 A28.out).mono ?_); (case side1 => repeat (first | exact (Kd.S_reads' HO282.out).2.2 | (with_reducible refine Kd.C_alloc ?_ _) | (with_reducible refine Kd.C_drewN ?_ _) | (with_reducible refine Kd.C_drew ?_))); (case side2 => exact (Kd.S_reads' HO282.out).2.1); (case side3 => repeat (first | exact (Kd.S_reads' HO_11.out).2.2 | (with_reducible refine Kd.C_alloc ?_ _) | (with_reducible refine Kd.C_drewN ?_ _) | (with_reducible refine Kd.C_drew ?_))); (case side4 => exact (Kd.S_reads' HO_11.out).2.1); rintro e w37 ⟨rfl, hb⟩; refine ⟨_, rfl, ?_⟩; have n0_ := Aside0.mk (Kd.S_below (zS HO_11) hb); have n1_ := Aside0.mk (Kd.S_below (zS HO282) hb); have n2_ := Aside0.mk (blk_below (g := gb273) (o := .cells #[.int .i64 a0_0, .slice A0_1 l0_1.length c0_1] 42 (0, 0)) (zK BK273) hb); have n3_ := Aside0.mk (blk_below (g := gb276) (o := .cells (ag66 t275) 66 (0, 0)) (zK BK276) hb); have n4_ := Aside0.mk (below_step zB hb); clear HO_11; clear HO282; clear BK273; clear BK276; clear HB; have HO_11 := n0_; have HO282 := n1_; have BK273 := n2_; have BK276 := n3_; have HB := n4_; clear n0_ n1_ n2_ n3_ n4_; (try clear hb); (try clear hb2); (try clear hk); (try clear hi)))
 go_roundg k2
 case measure => have := HJ5.out; have := HK2.out; omega
 case rel => exact ⟨(t280), (wrap64 (x42_2 + 1)), zR, H', ⟨by have := HJ5.out; have := HK2.out; omega⟩, ⟨by (with_reducible repeat (first | apply Kd.S_alloc | apply Kd.S_drewN | apply Kd.S_drew)); exact Kd.S_mono HO282.out (fun _ hk => trivial)⟩, ⟨zK BK273⟩, ⟨zK BK276⟩, ⟨zB⟩⟩
/-! ### g16_: function 15 -/
def g16_.l0 : Nat → List (S71) → Int → Option (Int × (List (S71)))
  | 0, _, _ => none
  | k + 1, x1, x2 => if x2 ≤ 3 then ((some (([(⟨x2, 0, 1, 0, 0⟩ : S71), (⟨x2, wrap64 ((Int.tmod x2 3) + 1), 2, 400, 0⟩ : S71)] : List (S71)) : List (S71))).bind fun y286 => (if x1.length + y286.length < 3518437208883 then (g16_.l0 k (x1 ++ y286) (wrap64 (x2 + 1))) else (none))) else (some (4, x1))
def g16_.f (k : Nat)  : Option (Int × (List (S71))) := g16_.l0 k ([] : List (S71)) 1
theorem g16_.mono_l : ∀ k, (∀ y0 y1, LeO (g16_.l0 k y0 y1) (g16_.l0 (k + 1) y0 y1))
  | 0 => fun _ _ r h => by simp [g16_.l0] at h
  | k + 1 => by
    have ih0 := g16_.mono_l k
    · intro y0 y1
      unfold g16_.l0
      repeat' (with_reducible first | exact ih0 _ _ | exact LeO.refl _ | exact LeO.none _ | refine LeO.ite ?_ ?_ | refine LeO.bind ?_ (fun _ => ?_))
theorem g16_.mono : ∀ k, LeO (g16_.f k ) (g16_.f (k + 1) ) := by
  intro  k
  have ih0 := g16_.mono_l k
  unfold g16_.f
  repeat' (with_reducible first | exact ih0 _ _ | exact LeO.refl _ | exact LeO.none _ | refine LeO.ite ?_ ?_ | refine LeO.bind ?_ (fun _ => ?_))
set_option maxHeartbeats 8000000 in
set_option maxRecDepth 100000 in
theorem g16_.calls (k : Nat)  (r1 : Int) (r2 : List (S71)) (w : World) (h : g16_.f k  = some (r1, r2)) :
 Calls Try.prog 15 #[] w fun e w' => ∃ v1_ : Value, e = .returned (.agg #[.int .i64 r1, v1_]) ∧ Kd.R k71 71 w' w.heap.size (fun _ => True) v1_ r2 ∧ Below w.heap.size w w' := by
 have hu42 := Try.underlying42
 have hu71 := Try.underlying71
 have HB := Aside0.mk (Below.refl w.heap.size w)
 have H : (g16_.l0 k ([] : List (S71)) 1) = some (r1, r2) := h
 clear h
 have H' := Aside0.mk H
 clear H
 go_enter Try.func15, Try.ntmps15
 go_wp2_with (first | ((with_reducible refine gate_dst (N := 0) rfl ?_); refine bx 0 (#[.int .i64 0, .slice none 0 0]) 42 ?_; intro gb285 hg w1 hbox hb; have n0_ := Aside0.mk (below_step zB hb); have n1_ := Aside0.mk (hbox); have n2_ := Aside0.mk ((zG hg : w.heap.size ≤ gb285)); have n3_ := Aside0.mk ((zG hg : w.heap.size ≤ gb285)); clear HB; have HB := n0_; have BK285 := n1_; have GW285 := n2_; have GE285 := n3_; clear n0_ n1_ n2_ n3_; clear hb hbox hg))
 go_loopg [1, 2] k (fun kq v1 v2 w' => ∃ (x1_1 : List (S71)) (x2_1 : Int), v2 = .int .i64 x2_1 ∧ Aside0 (g16_.l0 kq x1_1 x2_1 = some (r1, r2)) ∧ Aside0 (kq ≤ k) ∧ Aside0 (Kd.R k71 71 w' w.heap.size (fun _ => True) v1 x1_1) ∧ Aside0 (w'.heap[gb285]? = some (.cells #[.int .i64 0, (.slice none 0 0)] 42 (0, 0))) ∧ Aside0 (Below w.heap.size w w'))
 case atStart => exact ⟨(([] : List (S71))), (1), zR, H', ⟨Nat.le_refl _⟩, ⟨by first | exact Kd.R_nil _ _ _ _ _ | exact Kd.N_nil _ _ _ _ _ | exact Kd.V_nil _ _ _ _ _ | exact Kd.Q_nil _ _ _ _ _ | exact Kd.S_nil _ _ _ _ _⟩, ⟨zK BK285⟩, ⟨zB⟩⟩
 clear H'
 try clear c1
 obtain ⟨x1_1, x2_1, rfl, HA, HK1, HO_1, BK285, HB⟩ := hrel
 rcases gk with _ | k1
 · exact absurd HA.out (by simp [g16_.l0])
 have H := HA.out
 clear HA
 simp only [g16_.l0] at H
 by_cases c2 : x2_1 ≤ 3
 rotate_left
 ·
  rw [if_neg c2] at H
  have c2b0 : decide (x2_1 ≤ 3) = false := decide_eq_false c2
  clear c2
  simp only [Option.some.injEq, Prod.mk.injEq] at H
  obtain ⟨rfl, rfl⟩ := H
  obtain ⟨Ao8, co8, eo8⟩ := Kd.R_slice HO_1.out
  subst eo8
  have hcz9_0 : wr.cell? ⟨gb285, 0, none⟩ = some (.int .i64 0) := zT BK285 0
  have hcz9_1 : wr.cell? ⟨gb285, 1, none⟩ = some (.slice none 0 0) := zT BK285 1
  have hfz9_0 := blk_frozen BK285.out 0
  have hfz9_1 := blk_frozen BK285.out 1
  go_wp2
  refine bodyPost_ret (results_cell_row rfl _ _ gb285 42 #[.int .i64 4, .slice Ao8 x1_1.length co8] (0, 0) _ rfl (by (with_reducible repeat (first | refine blk_drewN ?_ _ | refine blk_drew ?_ | refine blk_alloc ?_ _)); refine blk_put (cs := #[.int .i64 4, .slice none 0 0]) ?_ 1 _ rfl; (with_reducible repeat (first | refine blk_drewN ?_ _ | refine blk_drew ?_ | refine blk_alloc ?_ _)); refine blk_put (cs := #[.int .i64 0, .slice none 0 0]) ?_ 0 _ rfl; (with_reducible repeat (first | refine blk_drewN ?_ _ | refine blk_drew ?_ | refine blk_alloc ?_ _)); exact BK285.out) Try.underlying42 rfl (by kernel_rfl)) rfl ?_
  exact ⟨_, zE, by (with_reducible repeat (first | apply Kd.R_alloc | apply Kd.R_drewN | apply Kd.R_drew)); exact Kd.R_mono (Kd.R_far (p := ⟨gb285, 1, none⟩) (Kd.R_far (p := ⟨gb285, 0, none⟩) (Kd.R_types HO_1.out BK285.out (by decide)) (fun _ hk => hk.2) (.int .i64 4)) (fun _ hk => hk.2) (.slice Ao8 x1_1.length co8)) (fun _ hk => trivial), zB⟩
 rw [if_pos c2] at H
 have c2b0 : decide (x2_1 ≤ 3) = true := decide_eq_true c2
 clear c2
 obtain ⟨y286, hy286⟩ : ∃ y_ : List (S71), y_ = (([(⟨x2_1, 0, 1, 0, 0⟩ : S71), (⟨x2_1, wrap64 ((Int.tmod x2_1 3) + 1), 2, 400, 0⟩ : S71)] : List (S71))) := ⟨_, rfl⟩
 replace H : (if x1_1.length + y286.length < 3518437208883 then (g16_.l0 k1 (x1_1 ++ y286) (wrap64 (x2_1 + 1))) else (none)) = some (r1, r2) := by first | (rw [hy286]; with_reducible exact H) | (have H2_ := (Option.bind_some _ _).symm.trans H; rw [hy286]; with_reducible exact H2_) | (have H2_ := (Option.bind_some _ _).symm.trans H; with_reducible exact H2_) | with_reducible exact H | (rw [hy286]; exact H) | exact H
 have Ny286 := Aside0.mk hy286
 clear hy286
 by_cases c3 : x1_1.length + y286.length < 3518437208883
 rotate_left
 · rw [if_neg c3] at H; exact absurd H (by simp)
 rw [if_pos c3] at H
 have LMc3 := Aside0.mk c3
 clear c3
 obtain ⟨y289, hy289⟩ : ∃ y_ : List (S71), y_ = (x1_1 ++ y286) := ⟨_, rfl⟩
 replace H : (g16_.l0 k1 y289 (wrap64 (x2_1 + 1))) = some (r1, r2) := by first | (rw [hy289]; with_reducible exact H) | (have H2_ := (Option.bind_some _ _).symm.trans H; rw [hy289]; with_reducible exact H2_) | (have H2_ := (Option.bind_some _ _).symm.trans H; with_reducible exact H2_) | with_reducible exact H | (rw [hy289]; exact H) | exact H
 have Ny289 := Aside0.mk hy289
 clear hy289
 have H' := Aside0.mk H
 clear H
 go_wp2_with (first | ((with_reducible refine gate_dst (N := 15) rfl ?_); refine Kd.R_lit k71 _ 71 ?hg (N := 15) ?hd (xs := ([(⟨x2_1, 0, 1, 0, 0⟩ : S71), (⟨x2_1, wrap64 ((Int.tmod x2_1 3) + 1), 2, 400, 0⟩ : S71)] : List (S71))) (inner := [.int .i64 x2_1, .int .i64 0, .int .i64 1, .int .i64 0, .int .i64 0, .int .i64 x2_1, .int .i64 (wrap64 ((Int.tmod x2_1 3) + 1)), .int .i64 2, .int .i64 400, .int .i64 0]) (ok := fun _ => True) (okp := fun _ => True) ?hr ?hp (fun _ hk => hk) trivial (Below.refl _ _) (Nat.le_refl _) (by simp) ?_; (case hd => rfl); (case hg => rfl); (case hr => first | (go_simp; done) | (go_simp; rfl)); (case hp => exact (Reps.c5 (show Kd.M k71 _ _ _ (⟨x2_1, 0, 1, 0, 0⟩ : S71) [.int .i64 x2_1, .int .i64 0, .int .i64 1, .int .i64 0, .int .i64 0] from (k71_mkM _ _ _ (⟨x2_1, 0, 1, 0, 0⟩ : S71) )) (Reps.c5 (show Kd.M k71 _ _ _ (⟨x2_1, wrap64 ((Int.tmod x2_1 3) + 1), 2, 400, 0⟩ : S71) [.int .i64 x2_1, .int .i64 (wrap64 ((Int.tmod x2_1 3) + 1)), .int .i64 2, .int .i64 400, .int .i64 0] from (k71_mkM _ _ _ (⟨x2_1, wrap64 ((Int.tmod x2_1 3) + 1), 2, 400, 0⟩ : S71) )) (Reps.none _ _)))); intro v287 w4 ho5 hb hg_ hnew_; clear hg_ hnew_; (first | rw [← Ny286.out] at ho5 | (simp only [Int.reduceToNat] at ho5; rw [← Ny286.out] at ho5)); have n0_ := Aside0.mk (Kd.R_elder' (zO HO_1) (Kd.R_base ho5) hb); have n1_ := Aside0.mk (Kd.R_lower (Kd.R_new' ho5 (Kd.R_lt (zO HO_1))) (below_size zB)); have n2_ := Aside0.mk (blk_below (g := gb285) (o := .cells #[.int .i64 0, .slice none 0 0] 42 (0, 0)) (zK BK285) hb); have n3_ := Aside0.mk (below_step zB hb); clear HO_1; clear BK285; clear HB; have HO_1 := n0_; have HO288 := n1_; have BK285 := n2_; have HB := n3_; clear n0_ n1_ n2_ n3_; clear hb ho5; obtain ⟨Ao7, co7, eo7⟩ := Kd.R_slice HO288.out; subst eo7) | ((with_reducible refine gate_builtin (b := .append) (xs := #[.tmp 7, .tmp 15]) rfl ?_); at_builtin; refine Kd.R_append_rows k71 (w0 := w) w.heap.size rfl (.tmp 7) (.tmp 15) 40 71 (.agg #[(.int .i64 0), (.int .i64 0), (.int .i64 0), (.int .i64 0), (.int .i64 0)]) 40 rfl Try.underlying40 info71 rfl (by decide) (by omega) u1 x1_1 y286 _ _ _ (fun k_ => some k_ ≠ (.slice Ao7 y286.length co7 : Value).ownBlock) (fun _ => False) rfl rfl ?aO ?aR (fun _ _ h => h) (fun _ h => h.elim) ?aF ?aB ?aS ?aL ?_; (case aR => repeat (first | exact (Kd.R_reads' HO288.out).2.2 | (with_reducible refine Kd.C_alloc ?_ _) | (with_reducible refine Kd.C_drewN ?_ _) | (with_reducible refine Kd.C_drew ?_))); (case aB => exact zB); (case aF => exact (fun k_ hk => Kd.fresh' (Kd.R_lt (zO HO288)) k_ hk)); (case aO => exact (by (with_reducible repeat (first | apply Kd.R_alloc | apply Kd.R_drewN | apply Kd.R_drew)); exact Kd.R_mono HO_1.out (fun _ hk => hk.2))); (case aS => exact (below_size zB)); (case aL => have := LMc3.out; omega); intro v290 w6 ho hb hg hat; rw [← Ny289.out] at ho; have n0_ := Aside0.mk (blk_grown (g := gb285) (o := .cells #[.int .i64 0, .slice none 0 0] 42 (0, 0)) (zK BK285) hg (Kd.R_ne HO_1.out BK285.out (by decide))); have n1_ := Aside0.mk (Kd.R_after (ok := (fun _ => True)) (zO HO288) hg hat); have n2_ := Aside0.mk (hb); have n3_ := Aside0.mk (ho); clear BK285; clear HO288; clear HB; clear HO_1; have BK285 := n0_; have HO288 := n1_; have HB := n2_; have HO291 := n3_; clear n0_ n1_ n2_ n3_; clear ho hb hg hat))
 go_roundg k1
 case measure => have := HK1.out; omega
 case rel => exact ⟨(y289), (wrap64 (x2_1 + 1)), zR, H', ⟨by have := HK1.out; omega⟩, ⟨by (with_reducible repeat (first | apply Kd.R_alloc | apply Kd.R_drewN | apply Kd.R_drew)); exact Kd.R_mono HO291.out (fun _ hk => trivial)⟩, ⟨zK BK285⟩, ⟨zB⟩⟩
/-! ### addr_Mask: function 65 -/
def addr_Mask.f (a0 : Int) : Option (Int × Int) := if a0 < 0 then (some (0, 10)) else (if a0 > 32 then (some (0, 10)) else (if 0 ≤ (wrap64 (32 - a0)) then (some (shl .u32 4294967295 (wrap64 (32 - a0)), 0)) else (none)))
set_option maxHeartbeats 8000000 in
set_option maxRecDepth 100000 in
theorem addr_Mask.calls (a0 : Int) (r1 : Int) (r2 : Int) (w : World) (h : addr_Mask.f a0 = some (r1, r2)) :
 Calls Try.prog 65 #[.int .i64 a0] w fun e w' => e = .returned (.tuple #[.int .u32 r1, .int .i64 r2]) ∧ Drawn0 w w' := by
 have H : (if a0 < 0 then (some (0, 10)) else (if a0 > 32 then (some (0, 10)) else (if 0 ≤ (wrap64 (32 - a0)) then (some (shl .u32 4294967295 (wrap64 (32 - a0)), 0)) else (none)))) = some (r1, r2) := h
 clear h
 by_cases c2 : a0 < 0
 ·
  rw [if_pos c2] at H
  have c2b0 : decide (a0 < 0) = true := decide_eq_true c2
  clear c2
  simp only [Option.some.injEq, Prod.mk.injEq] at H
  obtain ⟨rfl, rfl⟩ := H
  go_enter Try.func65, Try.ntmps65
  go_wp2
  go_ret2
  exact ⟨zR, by repeat (first | exact Drawn0.refl _ | apply Drawn0.step)⟩
 rw [if_neg c2] at H
 have c2b0 : decide (a0 < 0) = false := decide_eq_false c2
 clear c2
 by_cases c3 : a0 > 32
 ·
  rw [if_pos c3] at H
  have c3b0 : decide (32 < a0) = true := decide_eq_true c3
  clear c3
  simp only [Option.some.injEq, Prod.mk.injEq] at H
  obtain ⟨rfl, rfl⟩ := H
  go_enter Try.func65, Try.ntmps65
  go_wp2
  go_ret2
  exact ⟨zR, by repeat (first | exact Drawn0.refl _ | apply Drawn0.step)⟩
 rw [if_neg c3] at H
 have c3b0 : decide (32 < a0) = false := decide_eq_false c3
 clear c3
 obtain ⟨ji4, hji4⟩ : ∃ j_ : Int, (wrap64 (32 - a0)) = j_ := ⟨_, rfl⟩
 replace H : (if 0 ≤ (ji4) then (some (shl .u32 4294967295 (ji4), 0)) else (none)) = some (r1, r2) := by first | (rw [hji4] at H; exact H) | (simp only [hji4] at H ⊢; exact H)
 have hji4w : (IntKind.i64.wrap (32 - a0)) = ji4 := (i64_w _).trans hji4
 by_cases c5 : 0 ≤ (ji4)
 rotate_left
 · rw [if_neg c5] at H; exact absurd H (by simp)
 rw [if_pos c5] at H
 have c5b0 := eq_true c5
 have c5b1 : decide (0 ≤ (ji4)) = true := decide_eq_true c5
 clear c5
 obtain ⟨ji6, hji6⟩ : ∃ j_ : Int, (shl .u32 4294967295 (ji4)) = j_ := ⟨_, rfl⟩
 replace H : (some (ji6, 0)) = some (r1, r2) := by first | (rw [hji6] at H; exact H) | (simp only [hji6] at H ⊢; exact H)
 have hji6_ : (IntKind.u32.wrap (4294967295 * 2 ^ min (ji4).toNat 32)) = ji6 := hji6
 have hji6z : (ji4) ≤ 32 → (IntKind.u32.wrap (4294967295 * 2 ^ (ji4).toNat)) = ji6 := shl_small hji6
 simp only [Option.some.injEq, Prod.mk.injEq] at H
 obtain ⟨rfl, rfl⟩ := H
 go_enter Try.func65, Try.ntmps65
 go_wp2
 go_ret2
 exact ⟨by first | rfl | (simp; done) | (simp only [← hji4, ← hji6] <;> (first | rfl | simp)) | (simp [*]; done), by repeat (first | exact Drawn0.refl _ | apply Drawn0.step)⟩
/-! ### addr_Check: function 51 -/
def addr_Check.f (a0_0 : Int) (a0_1 : Int) : Option (Int) := (addr_Mask.f a0_1).bind fun bt310 => (if bt310.2 = 0 then (if (Go.bits .andNot .u32 a0_0 bt310.1) = 0 then (some 0) else (some 3)) else (some bt310.2))
set_option maxHeartbeats 8000000 in
set_option maxRecDepth 100000 in
theorem addr_Check.calls (a0_0 : Int) (a0_1 : Int) (r : Int) (w : World) (h : addr_Check.f a0_0 a0_1 = some r) :
 Calls Try.prog 51 #[.agg #[.int .u32 a0_0, .int .i64 a0_1]] w fun e w' => e = .returned (.int .i64 r) ∧ Below w.heap.size w w' := by
 have hu75 := Try.underlying75
 have hu3 := Try.underlying3
 have hu73 := Try.underlying73
 have HB := Aside0.mk (Below.refl w.heap.size w)
 have H : ((addr_Mask.f a0_1).bind fun bt310 => (if bt310.2 = 0 then (if (Go.bits .andNot .u32 a0_0 bt310.1) = 0 then (some 0) else (some 3)) else (some bt310.2))) = some r := h
 clear h
 replace H := Option.bind_eq_some_iff.mp H
 obtain ⟨⟨t310, t311⟩, A20, H⟩ := H
 replace H : (if t311 = 0 then (if (Go.bits .andNot .u32 a0_0 t310) = 0 then (some 0) else (some 3)) else (some t311)) = some r := H
 have A2 := Aside0.mk A20
 clear A20
 by_cases c3 : t311 = 0
 rotate_left
 ·
  rw [if_neg c3] at H
  have c3b0 : (t311 == 0) = false := beq_eq_false_iff_ne.mpr c3
  have c3b1 : (t311 != 0) = true := bne_iff_ne.mpr c3
  obtain rfl := Option.some.inj H
  go_enter Try.func51, Try.ntmps51
  go_wp2_with (first | ((with_reducible refine gate_dst (N := 1) rfl ?_); refine bx 1 (#[.int .u32 a0_0, .int .i64 a0_1]) 75 ?_; intro gb309 hg w9 hbox hb; have n0_ := Aside0.mk (below_step zB hb); have n1_ := Aside0.mk (hbox); have n2_ := Aside0.mk ((zG hg : w.heap.size ≤ gb309)); have n3_ := Aside0.mk ((zG hg : w.heap.size ≤ gb309)); clear HB; have HB := n0_; have BK309 := n1_; have GW309 := n2_; have GE309 := n3_; clear n0_ n1_ n2_ n3_; clear hb hbox hg; have hcz10_0 : w9.cell? ⟨gb309, 0, none⟩ = some (.int .u32 a0_0) := zT BK309 0; have hcz10_1 : w9.cell? ⟨gb309, 1, none⟩ = some (.int .i64 a0_1) := zT BK309 1; have hfz10_0 := blk_frozen BK309.out 0; have hfz10_1 := blk_frozen BK309.out 1) | ((with_reducible refine gate_callee (f := 65) rfl ?_); refine goesL_ (some 8) rfl rfl Try.func65 (by kernel_rfl) rfl #[.int .i64 a0_1] rfl zM ?_; (with_reducible refine (addr_Mask.calls a0_1 t310 t311 _ A2.out).mono ?_); rintro e w' ⟨rfl, ⟨nd, rfl⟩⟩; refine ⟨_, rfl, ?_⟩))
  go_ret
  exact ⟨zE, zB⟩
 rw [if_pos c3] at H
 have c3b0 : (t311 == 0) = true := beq_iff_eq.mpr c3
 have c3b1 : (t311 != 0) = false := bne_eq_false_iff_eq.mpr c3
 clear c3
 by_cases c4 : (Go.bits .andNot .u32 a0_0 t310) = 0
 ·
  rw [if_pos c4] at H
  have c4b0 : ((Go.bits .andNot .u32 a0_0 t310) == 0) = true := beq_iff_eq.mpr c4
  have c4b1 : ((Go.bits .andNot .u32 a0_0 t310) != 0) = false := bne_eq_false_iff_eq.mpr c4
  clear c4
  obtain rfl := Option.some.inj H
  go_enter Try.func51, Try.ntmps51
  go_wp2_with (first | ((with_reducible refine gate_dst (N := 1) rfl ?_); refine bx 1 (#[.int .u32 a0_0, .int .i64 a0_1]) 75 ?_; intro gb309 hg w5 hbox hb; have n0_ := Aside0.mk (below_step zB hb); have n1_ := Aside0.mk (hbox); have n2_ := Aside0.mk ((zG hg : w.heap.size ≤ gb309)); have n3_ := Aside0.mk ((zG hg : w.heap.size ≤ gb309)); clear HB; have HB := n0_; have BK309 := n1_; have GW309 := n2_; have GE309 := n3_; clear n0_ n1_ n2_ n3_; clear hb hbox hg; have hcz6_0 : w5.cell? ⟨gb309, 0, none⟩ = some (.int .u32 a0_0) := zT BK309 0; have hcz6_1 : w5.cell? ⟨gb309, 1, none⟩ = some (.int .i64 a0_1) := zT BK309 1; have hfz6_0 := blk_frozen BK309.out 0; have hfz6_1 := blk_frozen BK309.out 1) | ((with_reducible refine gate_callee (f := 65) rfl ?_); refine goesL_ (some 8) rfl rfl Try.func65 (by kernel_rfl) rfl #[.int .i64 a0_1] rfl zM ?_; (with_reducible refine (addr_Mask.calls a0_1 t310 t311 _ A2.out).mono ?_); rintro e w' ⟨rfl, ⟨nd, rfl⟩⟩; refine ⟨_, rfl, ?_⟩))
  go_ret
  exact ⟨zE, zB⟩
 rw [if_neg c4] at H
 have c4b0 : ((Go.bits .andNot .u32 a0_0 t310) == 0) = false := beq_eq_false_iff_ne.mpr c4
 have c4b1 : ((Go.bits .andNot .u32 a0_0 t310) != 0) = true := bne_iff_ne.mpr c4
 obtain rfl := Option.some.inj H
 go_enter Try.func51, Try.ntmps51
 go_wp2_with (first | ((with_reducible refine gate_dst (N := 1) rfl ?_); refine bx 1 (#[.int .u32 a0_0, .int .i64 a0_1]) 75 ?_; intro gb309 hg w7 hbox hb; have n0_ := Aside0.mk (below_step zB hb); have n1_ := Aside0.mk (hbox); have n2_ := Aside0.mk ((zG hg : w.heap.size ≤ gb309)); have n3_ := Aside0.mk ((zG hg : w.heap.size ≤ gb309)); clear HB; have HB := n0_; have BK309 := n1_; have GW309 := n2_; have GE309 := n3_; clear n0_ n1_ n2_ n3_; clear hb hbox hg; have hcz8_0 : w7.cell? ⟨gb309, 0, none⟩ = some (.int .u32 a0_0) := zT BK309 0; have hcz8_1 : w7.cell? ⟨gb309, 1, none⟩ = some (.int .i64 a0_1) := zT BK309 1; have hfz8_0 := blk_frozen BK309.out 0; have hfz8_1 := blk_frozen BK309.out 1) | ((with_reducible refine gate_callee (f := 65) rfl ?_); refine goesL_ (some 8) rfl rfl Try.func65 (by kernel_rfl) rfl #[.int .i64 a0_1] rfl zM ?_; (with_reducible refine (addr_Mask.calls a0_1 t310 t311 _ A2.out).mono ?_); rintro e w' ⟨rfl, ⟨nd, rfl⟩⟩; refine ⟨_, rfl, ?_⟩))
 go_ret
 exact ⟨zE, zB⟩
/-! ### path_Check_1: function 52 -/
def path_Check_1.f (a0 : Int) : Option (Bool) := if a0 < 1 then (some true) else (some (decide (a0 > 65535)))
set_option maxHeartbeats 8000000 in
set_option maxRecDepth 100000 in
theorem path_Check_1.calls (a0 : Int) (r : Bool) (w : World) (h : path_Check_1.f a0 = some r) :
 Calls Try.prog 52 #[.int .i64 a0] w fun e w' => e = .returned (.bool r) ∧ Drawn0 w w' := by
 have H : (if a0 < 1 then (some true) else (some (decide (a0 > 65535)))) = some r := h
 clear h
 by_cases c2 : a0 < 1
 ·
  rw [if_pos c2] at H
  have c2b0 : decide (a0 < 1) = true := decide_eq_true c2
  clear c2
  obtain rfl := Option.some.inj H
  go_enter Try.func52, Try.ntmps52
  go_wp2
  go_ret
  exact ⟨zR, by repeat (first | exact Drawn0.refl _ | apply Drawn0.step)⟩
 rw [if_neg c2] at H
 have c2b0 : decide (a0 < 1) = false := decide_eq_false c2
 clear c2
 obtain rfl := Option.some.inj H
 go_enter Try.func52, Try.ntmps52
 go_wp2
 go_ret
 exact ⟨zR, by repeat (first | exact Drawn0.refl _ | apply Drawn0.step)⟩
/-! ### g13_: function 66 -/
def g13_.l0 : Nat → List Int → Int → Int → Option (Int)
  | 0, _, _, _ => none
  | k + 1, x0, x7, x8 => if x8 < x7 then (if 0 ≤ x8 then (if x8 < (x0.length : Int) then ((path_Check_1.f (rd x0 x8)).bind fun t315 => (if t315 = true then (some x8) else (g13_.l0 k x0 x7 (wrap64 (x8 + 1))))) else (none)) else (none)) else (some (-1))
def g13_.f (k : Nat) (l0 : List Int)  : Option (Int) := g13_.l0 k l0 (l0.length : Int) 0
theorem g13_.mono_l : ∀ k, (∀ y0 y1 y2, LeO (g13_.l0 k y0 y1 y2) (g13_.l0 (k + 1) y0 y1 y2))
  | 0 => fun _ _ _ r h => by simp [g13_.l0] at h
  | k + 1 => by
    have ih0 := g13_.mono_l k
    · intro y0 y1 y2
      unfold g13_.l0
      repeat' (with_reducible first | exact ih0 _ _ _ | exact LeO.refl _ | exact LeO.none _ | refine LeO.ite ?_ ?_ | refine LeO.bind ?_ (fun _ => ?_))
theorem g13_.mono : ∀ a0 k, LeO (g13_.f k a0) (g13_.f (k + 1) a0) := by
  intro a0 k
  have ih0 := g13_.mono_l k
  unfold g13_.f
  repeat' (with_reducible first | exact ih0 _ _ _ | exact LeO.refl _ | exact LeO.none _ | refine LeO.ite ?_ ?_ | refine LeO.bind ?_ (fun _ => ?_))
set_option maxHeartbeats 8000000 in
set_option maxRecDepth 100000 in
theorem g13_.calls (k : Nat) (A0 : Option Addr) (c0 : Nat) (l0 : List Int)  (r : Int) (w : World) (hr0 : Kd.C (Kd.int .i64) w A0 l0.length l0) (hc0 : l0.length ≤ c0) (h : g13_.f k l0 = some r) :
 Calls Try.prog 66 #[.slice A0 l0.length c0, .func (.func 52) #[] #[]] w fun e w' => e = .returned (.int .i64 r) ∧ Drawn0 w w' := by
 have hu3 := Try.underlying3
 have HR0 := Aside0.mk hr0
 have HC0 := Aside0.mk hc0
 clear hr0 hc0
 have H : (g13_.l0 k l0 (l0.length : Int) 0) = some r := h
 clear h
 have H' := Aside0.mk H
 clear H
 go_enter Try.func66, Try.ntmps66
 go_wp2
 go_loopg [8] k (fun kq v8 w' => ∃ (x8_1 : Int), v8 = .int .i64 x8_1 ∧ Aside0 (g13_.l0 kq l0 (l0.length : Int) x8_1 = some r) ∧ Aside0 (kq ≤ k) ∧ Drawn0 w w')
 case atStart => exact ⟨(0), zR, H', ⟨Nat.le_refl _⟩, by repeat (first | exact Drawn0.refl _ | apply Drawn0.step)⟩
 clear H'
 try clear p2
 obtain ⟨x8_1, rfl, HA, HK1, ⟨m1, rfl⟩⟩ := hrel
 rcases gk with _ | k1
 · exact absurd HA.out (by simp [g13_.l0])
 have H := HA.out
 clear HA
 simp only [g13_.l0] at H
 by_cases c3 : x8_1 < (l0.length : Int)
 rotate_left
 ·
  rw [if_neg c3] at H
  have c3b0 : decide (x8_1 < (l0.length : Int)) = false := decide_eq_false c3
  clear c3
  obtain rfl := Option.some.inj H
  go_wp2
  go_ret
  exact ⟨zR, by repeat (first | exact Drawn0.refl _ | apply Drawn0.step)⟩
 rw [if_pos c3] at H
 have c3b0 : decide (x8_1 < (l0.length : Int)) = true := decide_eq_true c3
 clear c3
 by_cases c4 : 0 ≤ x8_1
 rotate_left
 · rw [if_neg c4] at H; exact absurd H (by simp)
 rw [if_pos c4] at H
 have c4b0 : decide (0 ≤ x8_1) = true := decide_eq_true c4
 clear c4
 by_cases c5 : x8_1 < (l0.length : Int)
 rotate_left
 · rw [if_neg c5] at H; exact absurd H (by simp)
 rw [if_pos c5] at H
 have c5b0 : decide (x8_1 < (l0.length : Int)) = true := decide_eq_true c5
 clear c5
 replace H := Option.bind_eq_some_iff.mp H
 obtain ⟨t315, A60, H⟩ := H
 replace H : (if t315 = true then (some x8_1) else (g13_.l0 k1 l0 (l0.length : Int) (wrap64 (x8_1 + 1)))) = some r := H
 have A6 := Aside0.mk A60
 clear A60
 by_cases c7 : t315 = true
 ·
  subst c7
  have H1 : (some x8_1) = some r := by rw [if_pos rfl] at H; exact H
  clear H
  have H := H1
  clear H1
  obtain rfl := Option.some.inj H
  have p314 : 0 ≤ (x8_1 : Int) := od
  have q314 : x8_1 < (l0.length : Int) := od
  obtain ⟨ad314, e314, hx314_0⟩ := Kd.at_int HR0.out x8_1 p314 q314
  cases e314
  replace p314 := eq_true p314
  replace q314 := eq_true q314
  go_wp2_with (first | (go_at_call 52; (with_reducible refine (path_Check_1.calls (rd l0 x8_1) true _ A6.out).mono ?_); rintro e w' ⟨rfl, ⟨nd, rfl⟩⟩))
  go_ret
  exact ⟨zR, by repeat (first | exact Drawn0.refl _ | apply Drawn0.step)⟩
 replace c7 := Bool.eq_false_iff.mpr c7
 subst c7
 have H1 : (g13_.l0 k1 l0 (l0.length : Int) (wrap64 (x8_1 + 1))) = some r := by rw [if_neg (show ¬ (false = true) by decide)] at H; exact H
 clear H
 have H := H1
 clear H1
 have H' := Aside0.mk H
 clear H
 have p314 : 0 ≤ (x8_1 : Int) := od
 have q314 : x8_1 < (l0.length : Int) := od
 obtain ⟨ad314, e314, hx314_0⟩ := Kd.at_int HR0.out x8_1 p314 q314
 cases e314
 replace p314 := eq_true p314
 replace q314 := eq_true q314
 go_wp2_with (first | (go_at_call 52; (with_reducible refine (path_Check_1.calls (rd l0 x8_1) false _ A6.out).mono ?_); rintro e w' ⟨rfl, ⟨nd, rfl⟩⟩))
 go_roundg k1
 case measure => have := HK1.out; omega
 case rel => exact ⟨(wrap64 (x8_1 + 1)), zR, H', ⟨by have := HK1.out; omega⟩, by repeat (first | exact Drawn0.refl _ | apply Drawn0.step)⟩
/-! ### g11_: function 53 -/
def g11_.f (k : Nat) (l0 : List Int)  : Option (Bool) := (g13_.f k l0).bind fun t316 => (some (decide (t316 ≥ 0)))
theorem g11_.mono : ∀ a0 k, LeO (g11_.f k a0) (g11_.f (k + 1) a0) := by
  intro a0 k
  unfold g11_.f
  repeat' (with_reducible first | exact g13_.mono _ _ | exact LeO.refl _ | exact LeO.none _ | refine LeO.ite ?_ ?_ | refine LeO.bind ?_ (fun _ => ?_))
set_option maxHeartbeats 8000000 in
set_option maxRecDepth 100000 in
theorem g11_.calls (k : Nat) (A0 : Option Addr) (c0 : Nat) (l0 : List Int)  (r : Bool) (w : World) (hr0 : Kd.C (Kd.int .i64) w A0 l0.length l0) (hc0 : l0.length ≤ c0) (h : g11_.f k l0 = some r) :
 Calls Try.prog 53 #[.slice A0 l0.length c0, .func (.func 52) #[] #[]] w fun e w' => e = .returned (.bool r) ∧ Drawn0 w w' := by
 have HR0 := Aside0.mk hr0
 have HC0 := Aside0.mk hc0
 clear hr0 hc0
 have H : ((g13_.f k l0).bind fun t316 => (some (decide (t316 ≥ 0)))) = some r := h
 clear h
 replace H := Option.bind_eq_some_iff.mp H
 obtain ⟨t316, A30, H⟩ := H
 replace H : (some (decide (t316 ≥ 0))) = some r := H
 have A3 := Aside0.mk A30
 clear A30
 obtain rfl := Option.some.inj H
 go_enter Try.func53, Try.ntmps53
 go_wp2_with (first | ((with_reducible refine gate_callee (f := 66) rfl ?_); refine goesL_ (some 7) rfl rfl Try.func66 (by kernel_rfl) rfl #[.slice A0 l0.length c0, .func (.func 52) #[] #[]] rfl zM ?_; (with_reducible refine (g13_.calls k _ _ l0  t316 _ ?side1 ?side2 A3.out).mono ?_); (case side1 => repeat (first | exact HR0.out | (with_reducible refine Kd.C_alloc ?_ _) | (with_reducible refine Kd.C_drewN ?_ _) | (with_reducible refine Kd.C_drew ?_))); (case side2 => exact HC0.out); rintro e w' ⟨rfl, ⟨nd, rfl⟩⟩; refine ⟨_, rfl, ?_⟩))
 go_ret
 exact ⟨zR, by repeat (first | exact Drawn0.refl _ | apply Drawn0.step)⟩
end Go.Proofs.Ytplcdbhklepkgaa.BS
