-- Made by gen.py, a program of this session's, over the kit's print.
import Derived.Test.YtplcdbhklepkgaaVValleyShort
import Derived.Test.YtplcdbhklepkgaaVValleyBSx0
import Derived.Test.YtplcdbhklepkgaaVValleyBSx3
namespace Go.Proofs.Ytplcdbhklepkgaa.BS
open Go.RowKit Go.Proofs.YtplcdbhklepkgaaW.PrintWords Go.Proofs.YtplcdbhklepkgaaW.PrintLast Go.Proofs.YtplcdbhklepkgaaW.PrintMore Go.Proofs.Ytplcdbhklepkgaa.GenWords
attribute [local go_sem] max2_int min2_int max_two min_two max_three min_three max_four min_four   -- for this text's walks alone
set_option linter.unusedVariables false
set_option linter.unusedSimpArgs false

/-! ### g12_: function 33 -/
def g12_.f (k : Nat) (l0 : List (S71)) (a1_0 : Int) (a1_1 : Int) (a1_2 : Int) (a1_3 : Int) (a1_4 : Int) : Option (Bool) := (g4_.f k l0 a1_0 a1_1 a1_2 a1_3 a1_4).bind fun t139 => (some (decide (t139 ≥ 0)))
theorem g12_.mono : ∀ a0 a1 a2 a3 a4 a5 k, LeO (g12_.f k a0 a1 a2 a3 a4 a5) (g12_.f (k + 1) a0 a1 a2 a3 a4 a5) := by
  intro a0 a1 a2 a3 a4 a5 k
  unfold g12_.f
  repeat' (with_reducible first | exact g4_.mono _ _ _ _ _ _ _ | exact LeO.refl _ | exact LeO.none _ | refine LeO.ite ?_ ?_ | refine LeO.bind ?_ (fun _ => ?_))
set_option maxHeartbeats 8000000 in
set_option maxRecDepth 100000 in
theorem g12_.calls (k : Nat) (A0 : Option Addr) (c0 : Nat) (l0 : List (S71)) (gc1_0 : Nat) (a1_0 : Int) (a1_1 : Int) (a1_2 : Int) (a1_3 : Int) (a1_4 : Int) (r : Bool) (w : World) (hr0 : Kd.C k71 w A0 l0.length l0) (hc0 : l0.length ≤ c0) (hcap1_0 : w.heap[gc1_0]? = some (.cells #[.int .i64 a1_0, .int .i64 a1_1, .int .i64 a1_2, .int .i64 a1_3, .int .i64 a1_4] 71 (0, 0))) (h : g12_.f k l0 a1_0 a1_1 a1_2 a1_3 a1_4 = some r) :
 Calls Try.prog 33 #[.slice A0 l0.length c0, .func (.func 38) #[] #[.pointer (some ⟨gc1_0, 0, none⟩)]] w fun e w' => e = .returned (.bool r) ∧ Below w.heap.size w w' := by
 have HR0 := Aside0.mk hr0
 have HC0 := Aside0.mk hc0
 clear hr0 hc0
 have HCP1_0 := Aside0.mk hcap1_0
 clear hcap1_0
 have HB := Aside0.mk (Below.refl w.heap.size w)
 have H : ((g4_.f k l0 a1_0 a1_1 a1_2 a1_3 a1_4).bind fun t139 => (some (decide (t139 ≥ 0)))) = some r := h
 clear h
 replace H := Option.bind_eq_some_iff.mp H
 obtain ⟨t139, A30, H⟩ := H
 replace H : (some (decide (t139 ≥ 0))) = some r := H
 have A3 := Aside0.mk A30
 clear A30
 obtain rfl := Option.some.inj H
 go_enter Try.func33, Try.ntmps33
 go_wp2_with (first | ((with_reducible refine gate_callee (f := 44) rfl ?_); refine goesL_ (some 7) rfl rfl Try.func44 (by kernel_rfl) rfl #[.slice A0 l0.length c0, .func (.func 38) #[] #[.pointer (some ⟨gc1_0, 0, none⟩)]] rfl zM ?_; (with_reducible refine (g4_.calls k _ _ l0 gc1_0 a1_0 a1_1 a1_2 a1_3 a1_4 t139 _ ?side1 ?side2 ?side3 A3.out).mono ?_); (case side1 => repeat (first | exact HR0.out | (with_reducible refine Kd.C_alloc ?_ _) | (with_reducible refine Kd.C_drewN ?_ _) | (with_reducible refine Kd.C_drew ?_))); (case side2 => exact HC0.out); (case side3 => exact blk_below HCP1_0.out zB); rintro e w4 ⟨rfl, hb⟩; refine ⟨_, rfl, ?_⟩; have n0_ := Aside0.mk (below_step zB hb); clear HB; have HB := n0_; clear n0_; (try clear hb); (try clear hb2); (try clear hk); (try clear hi)))
 go_ret
 exact ⟨zE, zB⟩
/-! ### best_Check: function 27 -/
mutual
def best_Check.j0 : Nat → Bool → Int → List (S71) → Option (Int)
  | 0, _, _, _ => none
  | k + 1, x5, x141000, x141001 => if x5 = true then (some 10) else (if (x141001.length : Int) > 64 then (some 2) else (best_Check.l0 k x141001 (x141001.length : Int) 0 x141000 x141001))
def best_Check.l0 : Nat → List (S71) → Int → Int → Int → List (S71) → Option (Int)
  | 0, _, _, _, _, _ => none
  | k + 1, x20, x21, x22, x141000, x141001 => if x22 < x21 then (if 0 ≤ x22 then (if x22 < (x20.length : Int) then (if (mn ((rd_T71 x20 x22).f0) ((rd_T71 x20 x22).f1)) < 0 then (best_Check.j2 k x22 x20 x21 x22 true x141000 x141001 ((rd_T71 x20 x22).f0) ((rd_T71 x20 x22).f1) ((rd_T71 x20 x22).f2) ((rd_T71 x20 x22).f3) ((rd_T71 x20 x22).f4)) else (if (mx ((rd_T71 x20 x22).f0) ((rd_T71 x20 x22).f1)) ≥ x141000 then (best_Check.j2 k x22 x20 x21 x22 true x141000 x141001 ((rd_T71 x20 x22).f0) ((rd_T71 x20 x22).f1) ((rd_T71 x20 x22).f2) ((rd_T71 x20 x22).f3) ((rd_T71 x20 x22).f4)) else (if ((rd_T71 x20 x22).f2) < 1 then (best_Check.j2 k x22 x20 x21 x22 true x141000 x141001 ((rd_T71 x20 x22).f0) ((rd_T71 x20 x22).f1) ((rd_T71 x20 x22).f2) ((rd_T71 x20 x22).f3) ((rd_T71 x20 x22).f4)) else (if ((rd_T71 x20 x22).f2) > 3 then (best_Check.j2 k x22 x20 x21 x22 true x141000 x141001 ((rd_T71 x20 x22).f0) ((rd_T71 x20 x22).f1) ((rd_T71 x20 x22).f2) ((rd_T71 x20 x22).f3) ((rd_T71 x20 x22).f4)) else (if (mn ((rd_T71 x20 x22).f3) ((rd_T71 x20 x22).f4)) < 0 then (best_Check.j2 k x22 x20 x21 x22 true x141000 x141001 ((rd_T71 x20 x22).f0) ((rd_T71 x20 x22).f1) ((rd_T71 x20 x22).f2) ((rd_T71 x20 x22).f3) ((rd_T71 x20 x22).f4)) else (best_Check.j2 k x22 x20 x21 x22 (decide ((mx ((rd_T71 x20 x22).f3) ((rd_T71 x20 x22).f4)) > 1000)) x141000 x141001 ((rd_T71 x20 x22).f0) ((rd_T71 x20 x22).f1) ((rd_T71 x20 x22).f2) ((rd_T71 x20 x22).f3) ((rd_T71 x20 x22).f4))))))) else (none)) else (none)) else (some 0)
def best_Check.j2 : Nat → Int → List (S71) → Int → Int → Bool → Int → List (S71) → Int → Int → Int → Int → Int → Option (Int)
  | 0, _, _, _, _, _, _, _, _, _, _, _, _ => none
  | k + 1, x3, x20, x21, x22, x27, x141000, x141001, x143000, x143001, x143002, x143003, x143004 => if x27 = true then (some 10) else (if x143000 = x143001 then (some 1) else (if 0 ≤ x3 then (if x3 ≤ (x141001.length : Int) then ((g12_.f k (x141001.take (x3 : Int).toNat) x143000 x143001 x143002 x143003 x143004).bind fun t147 => (if t147 = true then (some 6) else (best_Check.l0 k x20 x21 (wrap64 (x22 + 1)) x141000 x141001))) else (none)) else (none)))
end
def best_Check.f (k : Nat) (a0_0 : Int) (l0_1 : List (S71)) : Option (Int) := if a0_0 < 1 then (best_Check.j0 k true a0_0 l0_1) else (best_Check.j0 k (decide (a0_0 > 16)) a0_0 l0_1)
theorem best_Check.mono_l : ∀ k, (∀ y0 y1 y2, LeO (best_Check.j0 k y0 y1 y2) (best_Check.j0 (k + 1) y0 y1 y2)) ∧ (∀ y0 y1 y2 y3 y4, LeO (best_Check.l0 k y0 y1 y2 y3 y4) (best_Check.l0 (k + 1) y0 y1 y2 y3 y4)) ∧ (∀ y0 y1 y2 y3 y4 y5 y6 y7 y8 y9 y10 y11, LeO (best_Check.j2 k y0 y1 y2 y3 y4 y5 y6 y7 y8 y9 y10 y11) (best_Check.j2 (k + 1) y0 y1 y2 y3 y4 y5 y6 y7 y8 y9 y10 y11))
  | 0 => ⟨fun _ _ _ r h => by simp [best_Check.j0] at h, fun _ _ _ _ _ r h => by simp [best_Check.l0] at h, fun _ _ _ _ _ _ _ _ _ _ _ _ r h => by simp [best_Check.j2] at h⟩
  | k + 1 => by
    obtain ⟨ih0, ih1, ih2⟩ := best_Check.mono_l k
    refine ⟨?_, ?_, ?_⟩
    · intro y0 y1 y2
      unfold best_Check.j0
      repeat' (with_reducible first | exact ih0 _ _ _ | exact ih1 _ _ _ _ _ | exact ih2 _ _ _ _ _ _ _ _ _ _ _ _ | exact g12_.mono _ _ _ _ _ _ _ | exact LeO.refl _ | exact LeO.none _ | refine LeO.ite ?_ ?_ | refine LeO.bind ?_ (fun _ => ?_))
    · intro y0 y1 y2 y3 y4
      unfold best_Check.l0
      repeat' (with_reducible first | exact ih0 _ _ _ | exact ih1 _ _ _ _ _ | exact ih2 _ _ _ _ _ _ _ _ _ _ _ _ | exact g12_.mono _ _ _ _ _ _ _ | exact LeO.refl _ | exact LeO.none _ | refine LeO.ite ?_ ?_ | refine LeO.bind ?_ (fun _ => ?_))
    · intro y0 y1 y2 y3 y4 y5 y6 y7 y8 y9 y10 y11
      unfold best_Check.j2
      repeat' (with_reducible first | exact ih0 _ _ _ | exact ih1 _ _ _ _ _ | exact ih2 _ _ _ _ _ _ _ _ _ _ _ _ | exact g12_.mono _ _ _ _ _ _ _ | exact LeO.refl _ | exact LeO.none _ | refine LeO.ite ?_ ?_ | refine LeO.bind ?_ (fun _ => ?_))
theorem best_Check.mono : ∀ a0 a1 k, LeO (best_Check.f k a0 a1) (best_Check.f (k + 1) a0 a1) := by
  intro a0 a1 k
  obtain ⟨ih0, ih1, ih2⟩ := best_Check.mono_l k
  unfold best_Check.f
  repeat' (with_reducible first | exact ih0 _ _ _ | exact ih1 _ _ _ _ _ | exact ih2 _ _ _ _ _ _ _ _ _ _ _ _ | exact g12_.mono _ _ _ _ _ _ _ | exact LeO.refl _ | exact LeO.none _ | refine LeO.ite ?_ ?_ | refine LeO.bind ?_ (fun _ => ?_))
set_option maxHeartbeats 8000000 in
set_option maxRecDepth 100000 in
theorem best_Check.calls (k : Nat) (a0_0 : Int) (A0_1 : Option Addr) (c0_1 : Nat) (l0_1 : List (S71)) (r : Int) (w : World) (hr0_1 : Kd.C k71 w A0_1 l0_1.length l0_1) (hc0_1 : l0_1.length ≤ c0_1) (h : best_Check.f k a0_0 l0_1 = some r) :
 Calls Try.prog 27 #[.agg #[.int .i64 a0_0, .slice A0_1 l0_1.length c0_1]] w fun e w' => e = .returned (.int .i64 r) ∧ Below w.heap.size w w' := by
 have hu42 := Try.underlying42
 have hu3 := Try.underlying3
 have hu40 := Try.underlying40
 have hu71 := Try.underlying71
 have HR0_1 := Aside0.mk hr0_1
 have HC0_1 := Aside0.mk hc0_1
 clear hr0_1 hc0_1
 have HB := Aside0.mk (Below.refl w.heap.size w)
 have H : (if a0_0 < 1 then (best_Check.j0 k true a0_0 l0_1) else (best_Check.j0 k (decide (a0_0 > 16)) a0_0 l0_1)) = some r := h
 clear h
 have HC2 := Aside0.mk H
 clear H
 go_enter Try.func27, Try.ntmps27
 go_upto_region 1 with (first | ((with_reducible refine gate_dst (N := 1) rfl ?_); (try (refine gate_guard (by rfl) ?_; dsimp only)); refine bx 1 (#[.int .i64 a0_0, .slice A0_1 l0_1.length c0_1]) 42 ?_; intro gb140 hg w3 hbox hb; have n0_ := Aside0.mk (below_step zB hb); have n1_ := Aside0.mk (hbox); have n2_ := Aside0.mk ((zG hg : w.heap.size ≤ gb140)); have n3_ := Aside0.mk ((zG hg : w.heap.size ≤ gb140)); clear HB; have HB := n0_; have BK140 := n1_; have GW140 := n2_; have GE140 := n3_; clear n0_ n1_ n2_ n3_; clear hb hbox hg))
 (try simp only [Act.put, List.setIfInBounds_toArray, List.set_cons_zero, List.set_cons_succ])
 go_cut [5] (fun v5 wc => ∃ (kq : Nat) (x5_1 : Bool), v5 = .bool x5_1 ∧ Aside0 (best_Check.j0 kq x5_1 a0_0 l0_1 = some r) ∧ Aside0 (kq ≤ k) ∧ Aside0 (wc.heap[gb140]? = some (.cells #[.int .i64 a0_0, (.slice A0_1 l0_1.length c0_1)] 42 (0, 0))) ∧ Aside0 (Below w.heap.size w wc))
 case first =>
  have H := HC2.out
  clear HC2
  by_cases c4 : a0_0 < 1
  ·
   rw [if_pos c4] at H
   have c4b0 : decide (a0_0 < 1) = true := decide_eq_true c4
   clear c4
   (first | rw [c4b0] | (simp only [i64_w, i32_w]; rw [c4b0]) | skip)
   have H' := Aside0.mk H
   clear H
   have hcz5_0 : w3.cell? ⟨gb140, 0, none⟩ = some (.int .i64 a0_0) := zT BK140 0
   have hcz5_1 : w3.cell? ⟨gb140, 1, none⟩ = some (.slice A0_1 l0_1.length c0_1) := zT BK140 1
   have hfz5_0 := blk_frozen BK140.out 0
   have hfz5_1 := blk_frozen BK140.out 1
   go_wp2
   go_meet
   case rel => exact ⟨_, (true), zR, H', ⟨by first | omega | exact Nat.le_refl _⟩, ⟨zK BK140⟩, ⟨zB⟩⟩
  rw [if_neg c4] at H
  have c4b0 : decide (a0_0 < 1) = false := decide_eq_false c4
  clear c4
  (first | rw [c4b0] | (simp only [i64_w, i32_w]; rw [c4b0]) | skip)
  have H' := Aside0.mk H
  clear H
  have hcz6_0 : w3.cell? ⟨gb140, 0, none⟩ = some (.int .i64 a0_0) := zT BK140 0
  have hcz6_1 : w3.cell? ⟨gb140, 1, none⟩ = some (.slice A0_1 l0_1.length c0_1) := zT BK140 1
  have hfz6_0 := blk_frozen BK140.out 0
  have hfz6_1 := blk_frozen BK140.out 1
  go_wp2
  go_meet
  case rel => exact ⟨_, (decide (a0_0 > 16)), zR, H', ⟨by first | omega | exact Nat.le_refl _⟩, ⟨zK BK140⟩, ⟨zB⟩⟩
 clear HC2
 try clear c2
 try clear p2
 try clear c4
 try clear c4b0
 try clear hcz5_0
 try clear hcz5_1
 try clear hcz6_0
 try clear hcz6_1
 try clear hfz5_0
 try clear hfz5_1
 try clear hfz6_0
 try clear hfz6_1
 obtain ⟨kq, x5_1, rfl, HA, HJ1, BK140, HB⟩ := hcut
 rcases kq with _ | kj1
 · exact absurd HA.out (by simp [best_Check.j0])
 have H := HA.out
 clear HA
 simp only [best_Check.j0] at H
 by_cases c7 : x5_1 = true
 ·
  subst c7
  have H1 : (some 10) = some r := by rw [if_pos rfl] at H; exact H
  clear H
  have H := H1
  clear H1
  obtain rfl := Option.some.inj H
  go_wp2
  go_ret
  exact ⟨zE, zB⟩
 replace c7 := Bool.eq_false_iff.mpr c7
 subst c7
 have H1 : (if (l0_1.length : Int) > 64 then (some 2) else (best_Check.l0 kj1 l0_1 (l0_1.length : Int) 0 a0_0 l0_1)) = some r := by rw [if_neg (show ¬ (false = true) by decide)] at H; exact H
 clear H
 have H := H1
 clear H1
 by_cases c8 : (l0_1.length : Int) > 64
 ·
  rw [if_pos c8] at H
  have c8b0 : decide (64 < (l0_1.length : Int)) = true := decide_eq_true c8
  have c8b1 : decide (64 < l0_1.length) = true := decide_eq_true (by omega)
  clear c8
  obtain rfl := Option.some.inj H
  have hcz9_0 : wc.cell? ⟨gb140, 0, none⟩ = some (.int .i64 a0_0) := zT BK140 0
  have hcz9_1 : wc.cell? ⟨gb140, 1, none⟩ = some (.slice A0_1 l0_1.length c0_1) := zT BK140 1
  have hfz9_0 := blk_frozen BK140.out 0
  have hfz9_1 := blk_frozen BK140.out 1
  go_wp2
  go_ret
  exact ⟨zE, zB⟩
 rw [if_neg c8] at H
 have c8b0 : decide (64 < (l0_1.length : Int)) = false := decide_eq_false c8
 have c8b1 : decide (64 < l0_1.length) = false := decide_eq_false (by omega)
 clear c8
 have H' := Aside0.mk H
 clear H
 have hcz10_0 : wc.cell? ⟨gb140, 0, none⟩ = some (.int .i64 a0_0) := zT BK140 0
 have hcz10_1 : wc.cell? ⟨gb140, 1, none⟩ = some (.slice A0_1 l0_1.length c0_1) := zT BK140 1
 have hfz10_0 := blk_frozen BK140.out 0
 have hfz10_1 := blk_frozen BK140.out 1
 go_wp2
 go_loopg [22] kj1 (fun kq v22 w' => ∃ (x22_2 : Int), v22 = .int .i64 x22_2 ∧ Aside0 (best_Check.l0 kq l0_1 (l0_1.length : Int) x22_2 a0_0 l0_1 = some r) ∧ Aside0 (kq ≤ kj1) ∧ Aside0 (w'.heap[gb140]? = some (.cells #[.int .i64 a0_0, (.slice A0_1 l0_1.length c0_1)] 42 (0, 0))) ∧ Aside0 (Below w.heap.size w w'))
 case atStart => exact ⟨(0), zR, H', ⟨Nat.le_refl _⟩, ⟨zK BK140⟩, ⟨zB⟩⟩
 clear H'
 try clear c2
 try clear p2
 try clear c4
 try clear c4b0
 try clear c7
 try clear c8
 try clear c8b0
 try clear c8b1
 try clear hcz10_0
 try clear hcz10_1
 try clear hcz5_0
 try clear hcz5_1
 try clear hcz6_0
 try clear hcz6_1
 try clear hcz9_0
 try clear hcz9_1
 try clear hfz10_0
 try clear hfz10_1
 try clear hfz5_0
 try clear hfz5_1
 try clear hfz6_0
 try clear hfz6_1
 try clear hfz9_0
 try clear hfz9_1
 try clear p2
 obtain ⟨x22_2, rfl, HA, HK2, BK140, HB⟩ := hrel
 rcases gk with _ | k2
 · exact absurd HA.out (by simp [best_Check.l0])
 have H := HA.out
 clear HA
 simp only [best_Check.l0] at H
 by_cases c11 : x22_2 < (l0_1.length : Int)
 rotate_left
 ·
  rw [if_neg c11] at H
  have c11b0 : decide (x22_2 < (l0_1.length : Int)) = false := decide_eq_false c11
  clear c11
  obtain rfl := Option.some.inj H
  go_wp2
  go_ret
  exact ⟨zE, zB⟩
 rw [if_pos c11] at H
 have c11b0 : decide (x22_2 < (l0_1.length : Int)) = true := decide_eq_true c11
 clear c11
 by_cases c12 : 0 ≤ x22_2
 rotate_left
 · rw [if_neg c12] at H; exact absurd H (by simp)
 rw [if_pos c12] at H
 have c12b0 : decide (0 ≤ x22_2) = true := decide_eq_true c12
 clear c12
 by_cases c13 : x22_2 < (l0_1.length : Int)
 rotate_left
 · rw [if_neg c13] at H; exact absurd H (by simp)
 rw [if_pos c13] at H
 have c13b0 : decide (x22_2 < (l0_1.length : Int)) = true := decide_eq_true c13
 clear c13
 have HC14 := Aside0.mk H
 clear H
 have p141 : 0 ≤ (x22_2 : Int) := od
 have q141 : x22_2 < (l0_1.length : Int) := od
 obtain ⟨ad141, e141, hx141_0, hx141_1, hx141_2, hx141_3, hx141_4⟩ := at_T71 HR0_1.out x22_2 p141 q141
 cases e141
 replace hx141_0 := zL HB hx141_0
 replace hx141_1 := zL HB hx141_1
 replace hx141_2 := zL HB hx141_2
 replace hx141_3 := zL HB hx141_3
 replace hx141_4 := zL HB hx141_4
 replace p141 := eq_true p141
 replace q141 := eq_true q141
 go_upto_region 8 with (first | ((with_reducible refine gate_dst (N := 4) rfl ?_); (try (refine gate_guard (by rfl) ?_; dsimp only)); refine bx 4 (#[.int .i64 0, .int .i64 0, .int .i64 0, .int .i64 0, .int .i64 0]) 71 ?_; intro gb142 hg w15 hbox hb; have n0_ := Aside0.mk (blk_below (g := gb140) (o := .cells #[.int .i64 a0_0, .slice (some ad141) l0_1.length c0_1] 42 (0, 0)) (zK BK140) hb); have n1_ := Aside0.mk (below_step zB hb); have n2_ := Aside0.mk (hbox); have n3_ := Aside0.mk ((zG hg : w.heap.size ≤ gb142)); have n4_ := Aside0.mk ((zG hg : w.heap.size ≤ gb142)); have n5_ := Aside0.mk ((by rw [hg]; exact Nat.ne_of_lt (blk_lt (g := gb140) (o := .cells #[.int .i64 a0_0, .slice (some ad141) l0_1.length c0_1] 42 (0, 0)) (zK BK140)) : gb140 ≠ gb142)); have n6_ := Aside0.mk ((by rw [hg]; exact Nat.ne_of_gt (blk_lt (g := gb140) (o := .cells #[.int .i64 a0_0, .slice (some ad141) l0_1.length c0_1] 42 (0, 0)) (zK BK140)) : gb142 ≠ gb140)); clear BK140; clear HB; have BK140 := n0_; have HB := n1_; have BK142 := n2_; have GW142 := n3_; have GE142 := n4_; have NB140_142 := n5_; have NB142_140 := n6_; clear n0_ n1_ n2_ n3_ n4_ n5_ n6_; clear hb hbox hg; have hnb16 := NB142_140.out; have hnc16 := NB140_142.out; have hcz17_0 : w15.cell? ⟨gb142, 0, none⟩ = some (.int .i64 0) := zT BK142 0; have hcz17_1 : w15.cell? ⟨gb142, 1, none⟩ = some (.int .i64 0) := zT BK142 1; have hcz17_2 : w15.cell? ⟨gb142, 2, none⟩ = some (.int .i64 0) := zT BK142 2; have hcz17_3 : w15.cell? ⟨gb142, 3, none⟩ = some (.int .i64 0) := zT BK142 3; have hcz17_4 : w15.cell? ⟨gb142, 4, none⟩ = some (.int .i64 0) := zT BK142 4; have hfz17_0 := blk_frozen BK142.out 0; have hfz17_1 := blk_frozen BK142.out 1; have hfz17_2 := blk_frozen BK142.out 2; have hfz17_3 := blk_frozen BK142.out 3; have hfz17_4 := blk_frozen BK142.out 4))
 (try simp only [Act.put, List.setIfInBounds_toArray, List.set_cons_zero, List.set_cons_succ])
 go_cut [27] (fun v27 wc => ∃ (kq : Nat) (x27_13 : Bool), v27 = .bool x27_13 ∧ Aside0 (best_Check.j2 kq x22_2 l0_1 (l0_1.length : Int) x22_2 x27_13 a0_0 l0_1 ((rd_T71 l0_1 x22_2).f0) ((rd_T71 l0_1 x22_2).f1) ((rd_T71 l0_1 x22_2).f2) ((rd_T71 l0_1 x22_2).f3) ((rd_T71 l0_1 x22_2).f4) = some r) ∧ Aside0 (kq ≤ k2) ∧ Aside0 (wc.heap[gb140]? = some (.cells #[.int .i64 a0_0, (.slice (some ad141) l0_1.length c0_1)] 42 (0, 0))) ∧ Aside0 (wc.heap[gb142]? = some (.cells #[.int .i64 ((rd_T71 l0_1 x22_2).f0), .int .i64 ((rd_T71 l0_1 x22_2).f1), .int .i64 ((rd_T71 l0_1 x22_2).f2), .int .i64 ((rd_T71 l0_1 x22_2).f3), .int .i64 ((rd_T71 l0_1 x22_2).f4)] 71 (0, 0))) ∧ Aside0 (Below w.heap.size w wc))
 case first =>
  have H := HC14.out
  clear HC14
  obtain ⟨ji18, hji18⟩ : ∃ j_ : Int, (mn ((rd_T71 l0_1 x22_2).f0) ((rd_T71 l0_1 x22_2).f1)) = j_ := ⟨_, rfl⟩
  replace H : (if (ji18) < 0 then (best_Check.j2 k2 x22_2 l0_1 (l0_1.length : Int) x22_2 true a0_0 l0_1 ((rd_T71 l0_1 x22_2).f0) ((rd_T71 l0_1 x22_2).f1) ((rd_T71 l0_1 x22_2).f2) ((rd_T71 l0_1 x22_2).f3) ((rd_T71 l0_1 x22_2).f4)) else (if (mx ((rd_T71 l0_1 x22_2).f0) ((rd_T71 l0_1 x22_2).f1)) ≥ a0_0 then (best_Check.j2 k2 x22_2 l0_1 (l0_1.length : Int) x22_2 true a0_0 l0_1 ((rd_T71 l0_1 x22_2).f0) ((rd_T71 l0_1 x22_2).f1) ((rd_T71 l0_1 x22_2).f2) ((rd_T71 l0_1 x22_2).f3) ((rd_T71 l0_1 x22_2).f4)) else (if ((rd_T71 l0_1 x22_2).f2) < 1 then (best_Check.j2 k2 x22_2 l0_1 (l0_1.length : Int) x22_2 true a0_0 l0_1 ((rd_T71 l0_1 x22_2).f0) ((rd_T71 l0_1 x22_2).f1) ((rd_T71 l0_1 x22_2).f2) ((rd_T71 l0_1 x22_2).f3) ((rd_T71 l0_1 x22_2).f4)) else (if ((rd_T71 l0_1 x22_2).f2) > 3 then (best_Check.j2 k2 x22_2 l0_1 (l0_1.length : Int) x22_2 true a0_0 l0_1 ((rd_T71 l0_1 x22_2).f0) ((rd_T71 l0_1 x22_2).f1) ((rd_T71 l0_1 x22_2).f2) ((rd_T71 l0_1 x22_2).f3) ((rd_T71 l0_1 x22_2).f4)) else (if (mn ((rd_T71 l0_1 x22_2).f3) ((rd_T71 l0_1 x22_2).f4)) < 0 then (best_Check.j2 k2 x22_2 l0_1 (l0_1.length : Int) x22_2 true a0_0 l0_1 ((rd_T71 l0_1 x22_2).f0) ((rd_T71 l0_1 x22_2).f1) ((rd_T71 l0_1 x22_2).f2) ((rd_T71 l0_1 x22_2).f3) ((rd_T71 l0_1 x22_2).f4)) else (best_Check.j2 k2 x22_2 l0_1 (l0_1.length : Int) x22_2 (decide ((mx ((rd_T71 l0_1 x22_2).f3) ((rd_T71 l0_1 x22_2).f4)) > 1000)) a0_0 l0_1 ((rd_T71 l0_1 x22_2).f0) ((rd_T71 l0_1 x22_2).f1) ((rd_T71 l0_1 x22_2).f2) ((rd_T71 l0_1 x22_2).f3) ((rd_T71 l0_1 x22_2).f4))))))) = some r := by first | (rw [hji18] at H; exact H) | (simp only [hji18] at H ⊢; exact H)
  have hji18_ : (if ((rd_T71 l0_1 x22_2).f1) < ((rd_T71 l0_1 x22_2).f0) then ((rd_T71 l0_1 x22_2).f1) else ((rd_T71 l0_1 x22_2).f0)) = ji18 := hji18
  by_cases c19 : (ji18) < 0
  ·
   rw [if_pos c19] at H
   have c19b0 : decide ((ji18) < 0) = true := decide_eq_true c19
   clear c19
   (first | rw [c19b0] | (simp only [i64_w, i32_w]; rw [c19b0]) | skip)
   have H' := Aside0.mk H
   clear H
   have hnb20 := NB142_140.out
   have hnc20 := NB140_142.out
   have hcz21_0 : w15.cell? ⟨gb142, 0, none⟩ = some (.int .i64 0) := zT BK142 0
   have hcz21_1 : w15.cell? ⟨gb142, 1, none⟩ = some (.int .i64 0) := zT BK142 1
   have hcz21_2 : w15.cell? ⟨gb142, 2, none⟩ = some (.int .i64 0) := zT BK142 2
   have hcz21_3 : w15.cell? ⟨gb142, 3, none⟩ = some (.int .i64 0) := zT BK142 3
   have hcz21_4 : w15.cell? ⟨gb142, 4, none⟩ = some (.int .i64 0) := zT BK142 4
   have hfz21_0 := blk_frozen BK142.out 0
   have hfz21_1 := blk_frozen BK142.out 1
   have hfz21_2 := blk_frozen BK142.out 2
   have hfz21_3 := blk_frozen BK142.out 3
   have hfz21_4 := blk_frozen BK142.out 4
   go_wp2
   go_meet
   case rel => exact ⟨_, (true), zR, H', ⟨by have := HJ1.out; have := HK2.out; first | omega | exact Nat.le_refl _⟩, ⟨by (with_reducible repeat (first | refine blk_drewN ?_ _ | refine blk_drew ?_ | refine blk_alloc ?_ _)); refine blk_far ?_ NB140_142.out _; (with_reducible repeat (first | refine blk_drewN ?_ _ | refine blk_drew ?_ | refine blk_alloc ?_ _)); refine blk_far ?_ NB140_142.out _; (with_reducible repeat (first | refine blk_drewN ?_ _ | refine blk_drew ?_ | refine blk_alloc ?_ _)); refine blk_far ?_ NB140_142.out _; (with_reducible repeat (first | refine blk_drewN ?_ _ | refine blk_drew ?_ | refine blk_alloc ?_ _)); refine blk_far ?_ NB140_142.out _; (with_reducible repeat (first | refine blk_drewN ?_ _ | refine blk_drew ?_ | refine blk_alloc ?_ _)); refine blk_far ?_ NB140_142.out _; (with_reducible repeat (first | refine blk_drewN ?_ _ | refine blk_drew ?_ | refine blk_alloc ?_ _)); exact BK140.out⟩, ⟨by (with_reducible repeat (first | refine blk_drewN ?_ _ | refine blk_drew ?_ | refine blk_alloc ?_ _)); refine blk_put (cs := #[.int .i64 ((rd_T71 l0_1 x22_2).f0), .int .i64 ((rd_T71 l0_1 x22_2).f1), .int .i64 ((rd_T71 l0_1 x22_2).f2), .int .i64 ((rd_T71 l0_1 x22_2).f3), .int .i64 0]) ?_ 4 _ rfl; (with_reducible repeat (first | refine blk_drewN ?_ _ | refine blk_drew ?_ | refine blk_alloc ?_ _)); refine blk_put (cs := #[.int .i64 ((rd_T71 l0_1 x22_2).f0), .int .i64 ((rd_T71 l0_1 x22_2).f1), .int .i64 ((rd_T71 l0_1 x22_2).f2), .int .i64 0, .int .i64 0]) ?_ 3 _ rfl; (with_reducible repeat (first | refine blk_drewN ?_ _ | refine blk_drew ?_ | refine blk_alloc ?_ _)); refine blk_put (cs := #[.int .i64 ((rd_T71 l0_1 x22_2).f0), .int .i64 ((rd_T71 l0_1 x22_2).f1), .int .i64 0, .int .i64 0, .int .i64 0]) ?_ 2 _ rfl; (with_reducible repeat (first | refine blk_drewN ?_ _ | refine blk_drew ?_ | refine blk_alloc ?_ _)); refine blk_put (cs := #[.int .i64 ((rd_T71 l0_1 x22_2).f0), .int .i64 0, .int .i64 0, .int .i64 0, .int .i64 0]) ?_ 1 _ rfl; (with_reducible repeat (first | refine blk_drewN ?_ _ | refine blk_drew ?_ | refine blk_alloc ?_ _)); refine blk_put (cs := #[.int .i64 0, .int .i64 0, .int .i64 0, .int .i64 0, .int .i64 0]) ?_ 0 _ rfl; (with_reducible repeat (first | refine blk_drewN ?_ _ | refine blk_drew ?_ | refine blk_alloc ?_ _)); exact BK142.out⟩, ⟨zB⟩⟩
  rw [if_neg c19] at H
  have c19b0 : decide ((ji18) < 0) = false := decide_eq_false c19
  clear c19
  (first | rw [c19b0] | (simp only [i64_w, i32_w]; rw [c19b0]) | skip)
  obtain ⟨ji22, hji22⟩ : ∃ j_ : Int, (mx ((rd_T71 l0_1 x22_2).f0) ((rd_T71 l0_1 x22_2).f1)) = j_ := ⟨_, rfl⟩
  replace H : (if (ji22) ≥ a0_0 then (best_Check.j2 k2 x22_2 l0_1 (l0_1.length : Int) x22_2 true a0_0 l0_1 ((rd_T71 l0_1 x22_2).f0) ((rd_T71 l0_1 x22_2).f1) ((rd_T71 l0_1 x22_2).f2) ((rd_T71 l0_1 x22_2).f3) ((rd_T71 l0_1 x22_2).f4)) else (if ((rd_T71 l0_1 x22_2).f2) < 1 then (best_Check.j2 k2 x22_2 l0_1 (l0_1.length : Int) x22_2 true a0_0 l0_1 ((rd_T71 l0_1 x22_2).f0) ((rd_T71 l0_1 x22_2).f1) ((rd_T71 l0_1 x22_2).f2) ((rd_T71 l0_1 x22_2).f3) ((rd_T71 l0_1 x22_2).f4)) else (if ((rd_T71 l0_1 x22_2).f2) > 3 then (best_Check.j2 k2 x22_2 l0_1 (l0_1.length : Int) x22_2 true a0_0 l0_1 ((rd_T71 l0_1 x22_2).f0) ((rd_T71 l0_1 x22_2).f1) ((rd_T71 l0_1 x22_2).f2) ((rd_T71 l0_1 x22_2).f3) ((rd_T71 l0_1 x22_2).f4)) else (if (mn ((rd_T71 l0_1 x22_2).f3) ((rd_T71 l0_1 x22_2).f4)) < 0 then (best_Check.j2 k2 x22_2 l0_1 (l0_1.length : Int) x22_2 true a0_0 l0_1 ((rd_T71 l0_1 x22_2).f0) ((rd_T71 l0_1 x22_2).f1) ((rd_T71 l0_1 x22_2).f2) ((rd_T71 l0_1 x22_2).f3) ((rd_T71 l0_1 x22_2).f4)) else (best_Check.j2 k2 x22_2 l0_1 (l0_1.length : Int) x22_2 (decide ((mx ((rd_T71 l0_1 x22_2).f3) ((rd_T71 l0_1 x22_2).f4)) > 1000)) a0_0 l0_1 ((rd_T71 l0_1 x22_2).f0) ((rd_T71 l0_1 x22_2).f1) ((rd_T71 l0_1 x22_2).f2) ((rd_T71 l0_1 x22_2).f3) ((rd_T71 l0_1 x22_2).f4)))))) = some r := by first | (rw [hji22] at H; exact H) | (simp only [hji22] at H ⊢; exact H)
  have hji22_ : (if ((rd_T71 l0_1 x22_2).f0) < ((rd_T71 l0_1 x22_2).f1) then ((rd_T71 l0_1 x22_2).f1) else ((rd_T71 l0_1 x22_2).f0)) = ji22 := hji22
  by_cases c23 : (ji22) ≥ a0_0
  ·
   rw [if_pos c23] at H
   have c23b0 : decide (a0_0 ≤ (ji22)) = true := decide_eq_true c23
   clear c23
   have H' := Aside0.mk H
   clear H
   have hnb24 := NB142_140.out
   have hnc24 := NB140_142.out
   have hcz25_0 : w15.cell? ⟨gb142, 0, none⟩ = some (.int .i64 0) := zT BK142 0
   have hcz25_1 : w15.cell? ⟨gb142, 1, none⟩ = some (.int .i64 0) := zT BK142 1
   have hcz25_2 : w15.cell? ⟨gb142, 2, none⟩ = some (.int .i64 0) := zT BK142 2
   have hcz25_3 : w15.cell? ⟨gb142, 3, none⟩ = some (.int .i64 0) := zT BK142 3
   have hcz25_4 : w15.cell? ⟨gb142, 4, none⟩ = some (.int .i64 0) := zT BK142 4
   have hfz25_0 := blk_frozen BK142.out 0
   have hfz25_1 := blk_frozen BK142.out 1
   have hfz25_2 := blk_frozen BK142.out 2
   have hfz25_3 := blk_frozen BK142.out 3
   have hfz25_4 := blk_frozen BK142.out 4
   have hcz26_0 : w15.cell? ⟨gb140, 0, none⟩ = some (.int .i64 a0_0) := zT BK140 0
   have hcz26_1 : w15.cell? ⟨gb140, 1, none⟩ = some (.slice (some ad141) l0_1.length c0_1) := zT BK140 1
   have hfz26_0 := blk_frozen BK140.out 0
   have hfz26_1 := blk_frozen BK140.out 1
   go_wp2
   go_meet
   case rel => exact ⟨_, (true), zR, H', ⟨by have := HJ1.out; have := HK2.out; first | omega | exact Nat.le_refl _⟩, ⟨by (with_reducible repeat (first | refine blk_drewN ?_ _ | refine blk_drew ?_ | refine blk_alloc ?_ _)); refine blk_far ?_ NB140_142.out _; (with_reducible repeat (first | refine blk_drewN ?_ _ | refine blk_drew ?_ | refine blk_alloc ?_ _)); refine blk_far ?_ NB140_142.out _; (with_reducible repeat (first | refine blk_drewN ?_ _ | refine blk_drew ?_ | refine blk_alloc ?_ _)); refine blk_far ?_ NB140_142.out _; (with_reducible repeat (first | refine blk_drewN ?_ _ | refine blk_drew ?_ | refine blk_alloc ?_ _)); refine blk_far ?_ NB140_142.out _; (with_reducible repeat (first | refine blk_drewN ?_ _ | refine blk_drew ?_ | refine blk_alloc ?_ _)); refine blk_far ?_ NB140_142.out _; (with_reducible repeat (first | refine blk_drewN ?_ _ | refine blk_drew ?_ | refine blk_alloc ?_ _)); exact BK140.out⟩, ⟨by (with_reducible repeat (first | refine blk_drewN ?_ _ | refine blk_drew ?_ | refine blk_alloc ?_ _)); refine blk_put (cs := #[.int .i64 ((rd_T71 l0_1 x22_2).f0), .int .i64 ((rd_T71 l0_1 x22_2).f1), .int .i64 ((rd_T71 l0_1 x22_2).f2), .int .i64 ((rd_T71 l0_1 x22_2).f3), .int .i64 0]) ?_ 4 _ rfl; (with_reducible repeat (first | refine blk_drewN ?_ _ | refine blk_drew ?_ | refine blk_alloc ?_ _)); refine blk_put (cs := #[.int .i64 ((rd_T71 l0_1 x22_2).f0), .int .i64 ((rd_T71 l0_1 x22_2).f1), .int .i64 ((rd_T71 l0_1 x22_2).f2), .int .i64 0, .int .i64 0]) ?_ 3 _ rfl; (with_reducible repeat (first | refine blk_drewN ?_ _ | refine blk_drew ?_ | refine blk_alloc ?_ _)); refine blk_put (cs := #[.int .i64 ((rd_T71 l0_1 x22_2).f0), .int .i64 ((rd_T71 l0_1 x22_2).f1), .int .i64 0, .int .i64 0, .int .i64 0]) ?_ 2 _ rfl; (with_reducible repeat (first | refine blk_drewN ?_ _ | refine blk_drew ?_ | refine blk_alloc ?_ _)); refine blk_put (cs := #[.int .i64 ((rd_T71 l0_1 x22_2).f0), .int .i64 0, .int .i64 0, .int .i64 0, .int .i64 0]) ?_ 1 _ rfl; (with_reducible repeat (first | refine blk_drewN ?_ _ | refine blk_drew ?_ | refine blk_alloc ?_ _)); refine blk_put (cs := #[.int .i64 0, .int .i64 0, .int .i64 0, .int .i64 0, .int .i64 0]) ?_ 0 _ rfl; (with_reducible repeat (first | refine blk_drewN ?_ _ | refine blk_drew ?_ | refine blk_alloc ?_ _)); exact BK142.out⟩, ⟨zB⟩⟩
  rw [if_neg c23] at H
  have c23b0 : decide (a0_0 ≤ (ji22)) = false := decide_eq_false c23
  clear c23
  by_cases c27 : ((rd_T71 l0_1 x22_2).f2) < 1
  ·
   rw [if_pos c27] at H
   have c27b0 : decide (((rd_T71 l0_1 x22_2).f2) < 1) = true := decide_eq_true c27
   clear c27
   have H' := Aside0.mk H
   clear H
   have hnb28 := NB142_140.out
   have hnc28 := NB140_142.out
   have hcz29_0 : w15.cell? ⟨gb142, 0, none⟩ = some (.int .i64 0) := zT BK142 0
   have hcz29_1 : w15.cell? ⟨gb142, 1, none⟩ = some (.int .i64 0) := zT BK142 1
   have hcz29_2 : w15.cell? ⟨gb142, 2, none⟩ = some (.int .i64 0) := zT BK142 2
   have hcz29_3 : w15.cell? ⟨gb142, 3, none⟩ = some (.int .i64 0) := zT BK142 3
   have hcz29_4 : w15.cell? ⟨gb142, 4, none⟩ = some (.int .i64 0) := zT BK142 4
   have hfz29_0 := blk_frozen BK142.out 0
   have hfz29_1 := blk_frozen BK142.out 1
   have hfz29_2 := blk_frozen BK142.out 2
   have hfz29_3 := blk_frozen BK142.out 3
   have hfz29_4 := blk_frozen BK142.out 4
   have hcz30_0 : w15.cell? ⟨gb140, 0, none⟩ = some (.int .i64 a0_0) := zT BK140 0
   have hcz30_1 : w15.cell? ⟨gb140, 1, none⟩ = some (.slice (some ad141) l0_1.length c0_1) := zT BK140 1
   have hfz30_0 := blk_frozen BK140.out 0
   have hfz30_1 := blk_frozen BK140.out 1
   go_wp2
   go_meet
   case rel => exact ⟨_, (true), zR, H', ⟨by have := HJ1.out; have := HK2.out; first | omega | exact Nat.le_refl _⟩, ⟨by (with_reducible repeat (first | refine blk_drewN ?_ _ | refine blk_drew ?_ | refine blk_alloc ?_ _)); refine blk_far ?_ NB140_142.out _; (with_reducible repeat (first | refine blk_drewN ?_ _ | refine blk_drew ?_ | refine blk_alloc ?_ _)); refine blk_far ?_ NB140_142.out _; (with_reducible repeat (first | refine blk_drewN ?_ _ | refine blk_drew ?_ | refine blk_alloc ?_ _)); refine blk_far ?_ NB140_142.out _; (with_reducible repeat (first | refine blk_drewN ?_ _ | refine blk_drew ?_ | refine blk_alloc ?_ _)); refine blk_far ?_ NB140_142.out _; (with_reducible repeat (first | refine blk_drewN ?_ _ | refine blk_drew ?_ | refine blk_alloc ?_ _)); refine blk_far ?_ NB140_142.out _; (with_reducible repeat (first | refine blk_drewN ?_ _ | refine blk_drew ?_ | refine blk_alloc ?_ _)); exact BK140.out⟩, ⟨by (with_reducible repeat (first | refine blk_drewN ?_ _ | refine blk_drew ?_ | refine blk_alloc ?_ _)); refine blk_put (cs := #[.int .i64 ((rd_T71 l0_1 x22_2).f0), .int .i64 ((rd_T71 l0_1 x22_2).f1), .int .i64 ((rd_T71 l0_1 x22_2).f2), .int .i64 ((rd_T71 l0_1 x22_2).f3), .int .i64 0]) ?_ 4 _ rfl; (with_reducible repeat (first | refine blk_drewN ?_ _ | refine blk_drew ?_ | refine blk_alloc ?_ _)); refine blk_put (cs := #[.int .i64 ((rd_T71 l0_1 x22_2).f0), .int .i64 ((rd_T71 l0_1 x22_2).f1), .int .i64 ((rd_T71 l0_1 x22_2).f2), .int .i64 0, .int .i64 0]) ?_ 3 _ rfl; (with_reducible repeat (first | refine blk_drewN ?_ _ | refine blk_drew ?_ | refine blk_alloc ?_ _)); refine blk_put (cs := #[.int .i64 ((rd_T71 l0_1 x22_2).f0), .int .i64 ((rd_T71 l0_1 x22_2).f1), .int .i64 0, .int .i64 0, .int .i64 0]) ?_ 2 _ rfl; (with_reducible repeat (first | refine blk_drewN ?_ _ | refine blk_drew ?_ | refine blk_alloc ?_ _)); refine blk_put (cs := #[.int .i64 ((rd_T71 l0_1 x22_2).f0), .int .i64 0, .int .i64 0, .int .i64 0, .int .i64 0]) ?_ 1 _ rfl; (with_reducible repeat (first | refine blk_drewN ?_ _ | refine blk_drew ?_ | refine blk_alloc ?_ _)); refine blk_put (cs := #[.int .i64 0, .int .i64 0, .int .i64 0, .int .i64 0, .int .i64 0]) ?_ 0 _ rfl; (with_reducible repeat (first | refine blk_drewN ?_ _ | refine blk_drew ?_ | refine blk_alloc ?_ _)); exact BK142.out⟩, ⟨zB⟩⟩
  rw [if_neg c27] at H
  have c27b0 : decide (((rd_T71 l0_1 x22_2).f2) < 1) = false := decide_eq_false c27
  clear c27
  by_cases c31 : ((rd_T71 l0_1 x22_2).f2) > 3
  ·
   rw [if_pos c31] at H
   have c31b0 : decide (3 < ((rd_T71 l0_1 x22_2).f2)) = true := decide_eq_true c31
   clear c31
   have H' := Aside0.mk H
   clear H
   have hnb32 := NB142_140.out
   have hnc32 := NB140_142.out
   have hcz33_0 : w15.cell? ⟨gb142, 0, none⟩ = some (.int .i64 0) := zT BK142 0
   have hcz33_1 : w15.cell? ⟨gb142, 1, none⟩ = some (.int .i64 0) := zT BK142 1
   have hcz33_2 : w15.cell? ⟨gb142, 2, none⟩ = some (.int .i64 0) := zT BK142 2
   have hcz33_3 : w15.cell? ⟨gb142, 3, none⟩ = some (.int .i64 0) := zT BK142 3
   have hcz33_4 : w15.cell? ⟨gb142, 4, none⟩ = some (.int .i64 0) := zT BK142 4
   have hfz33_0 := blk_frozen BK142.out 0
   have hfz33_1 := blk_frozen BK142.out 1
   have hfz33_2 := blk_frozen BK142.out 2
   have hfz33_3 := blk_frozen BK142.out 3
   have hfz33_4 := blk_frozen BK142.out 4
   have hcz34_0 : w15.cell? ⟨gb140, 0, none⟩ = some (.int .i64 a0_0) := zT BK140 0
   have hcz34_1 : w15.cell? ⟨gb140, 1, none⟩ = some (.slice (some ad141) l0_1.length c0_1) := zT BK140 1
   have hfz34_0 := blk_frozen BK140.out 0
   have hfz34_1 := blk_frozen BK140.out 1
   go_wp2
   go_meet
   case rel => exact ⟨_, (true), zR, H', ⟨by have := HJ1.out; have := HK2.out; first | omega | exact Nat.le_refl _⟩, ⟨by (with_reducible repeat (first | refine blk_drewN ?_ _ | refine blk_drew ?_ | refine blk_alloc ?_ _)); refine blk_far ?_ NB140_142.out _; (with_reducible repeat (first | refine blk_drewN ?_ _ | refine blk_drew ?_ | refine blk_alloc ?_ _)); refine blk_far ?_ NB140_142.out _; (with_reducible repeat (first | refine blk_drewN ?_ _ | refine blk_drew ?_ | refine blk_alloc ?_ _)); refine blk_far ?_ NB140_142.out _; (with_reducible repeat (first | refine blk_drewN ?_ _ | refine blk_drew ?_ | refine blk_alloc ?_ _)); refine blk_far ?_ NB140_142.out _; (with_reducible repeat (first | refine blk_drewN ?_ _ | refine blk_drew ?_ | refine blk_alloc ?_ _)); refine blk_far ?_ NB140_142.out _; (with_reducible repeat (first | refine blk_drewN ?_ _ | refine blk_drew ?_ | refine blk_alloc ?_ _)); exact BK140.out⟩, ⟨by (with_reducible repeat (first | refine blk_drewN ?_ _ | refine blk_drew ?_ | refine blk_alloc ?_ _)); refine blk_put (cs := #[.int .i64 ((rd_T71 l0_1 x22_2).f0), .int .i64 ((rd_T71 l0_1 x22_2).f1), .int .i64 ((rd_T71 l0_1 x22_2).f2), .int .i64 ((rd_T71 l0_1 x22_2).f3), .int .i64 0]) ?_ 4 _ rfl; (with_reducible repeat (first | refine blk_drewN ?_ _ | refine blk_drew ?_ | refine blk_alloc ?_ _)); refine blk_put (cs := #[.int .i64 ((rd_T71 l0_1 x22_2).f0), .int .i64 ((rd_T71 l0_1 x22_2).f1), .int .i64 ((rd_T71 l0_1 x22_2).f2), .int .i64 0, .int .i64 0]) ?_ 3 _ rfl; (with_reducible repeat (first | refine blk_drewN ?_ _ | refine blk_drew ?_ | refine blk_alloc ?_ _)); refine blk_put (cs := #[.int .i64 ((rd_T71 l0_1 x22_2).f0), .int .i64 ((rd_T71 l0_1 x22_2).f1), .int .i64 0, .int .i64 0, .int .i64 0]) ?_ 2 _ rfl; (with_reducible repeat (first | refine blk_drewN ?_ _ | refine blk_drew ?_ | refine blk_alloc ?_ _)); refine blk_put (cs := #[.int .i64 ((rd_T71 l0_1 x22_2).f0), .int .i64 0, .int .i64 0, .int .i64 0, .int .i64 0]) ?_ 1 _ rfl; (with_reducible repeat (first | refine blk_drewN ?_ _ | refine blk_drew ?_ | refine blk_alloc ?_ _)); refine blk_put (cs := #[.int .i64 0, .int .i64 0, .int .i64 0, .int .i64 0, .int .i64 0]) ?_ 0 _ rfl; (with_reducible repeat (first | refine blk_drewN ?_ _ | refine blk_drew ?_ | refine blk_alloc ?_ _)); exact BK142.out⟩, ⟨zB⟩⟩
  rw [if_neg c31] at H
  have c31b0 : decide (3 < ((rd_T71 l0_1 x22_2).f2)) = false := decide_eq_false c31
  clear c31
  obtain ⟨ji35, hji35⟩ : ∃ j_ : Int, (mn ((rd_T71 l0_1 x22_2).f3) ((rd_T71 l0_1 x22_2).f4)) = j_ := ⟨_, rfl⟩
  replace H : (if (ji35) < 0 then (best_Check.j2 k2 x22_2 l0_1 (l0_1.length : Int) x22_2 true a0_0 l0_1 ((rd_T71 l0_1 x22_2).f0) ((rd_T71 l0_1 x22_2).f1) ((rd_T71 l0_1 x22_2).f2) ((rd_T71 l0_1 x22_2).f3) ((rd_T71 l0_1 x22_2).f4)) else (best_Check.j2 k2 x22_2 l0_1 (l0_1.length : Int) x22_2 (decide ((mx ((rd_T71 l0_1 x22_2).f3) ((rd_T71 l0_1 x22_2).f4)) > 1000)) a0_0 l0_1 ((rd_T71 l0_1 x22_2).f0) ((rd_T71 l0_1 x22_2).f1) ((rd_T71 l0_1 x22_2).f2) ((rd_T71 l0_1 x22_2).f3) ((rd_T71 l0_1 x22_2).f4))) = some r := by first | (rw [hji35] at H; exact H) | (simp only [hji35] at H ⊢; exact H)
  have hji35_ : (if ((rd_T71 l0_1 x22_2).f4) < ((rd_T71 l0_1 x22_2).f3) then ((rd_T71 l0_1 x22_2).f4) else ((rd_T71 l0_1 x22_2).f3)) = ji35 := hji35
  by_cases c36 : (ji35) < 0
  ·
   rw [if_pos c36] at H
   have c36b0 : decide ((ji35) < 0) = true := decide_eq_true c36
   clear c36
   have H' := Aside0.mk H
   clear H
   have hnb37 := NB142_140.out
   have hnc37 := NB140_142.out
   have hcz38_0 : w15.cell? ⟨gb142, 0, none⟩ = some (.int .i64 0) := zT BK142 0
   have hcz38_1 : w15.cell? ⟨gb142, 1, none⟩ = some (.int .i64 0) := zT BK142 1
   have hcz38_2 : w15.cell? ⟨gb142, 2, none⟩ = some (.int .i64 0) := zT BK142 2
   have hcz38_3 : w15.cell? ⟨gb142, 3, none⟩ = some (.int .i64 0) := zT BK142 3
   have hcz38_4 : w15.cell? ⟨gb142, 4, none⟩ = some (.int .i64 0) := zT BK142 4
   have hfz38_0 := blk_frozen BK142.out 0
   have hfz38_1 := blk_frozen BK142.out 1
   have hfz38_2 := blk_frozen BK142.out 2
   have hfz38_3 := blk_frozen BK142.out 3
   have hfz38_4 := blk_frozen BK142.out 4
   have hcz39_0 : w15.cell? ⟨gb140, 0, none⟩ = some (.int .i64 a0_0) := zT BK140 0
   have hcz39_1 : w15.cell? ⟨gb140, 1, none⟩ = some (.slice (some ad141) l0_1.length c0_1) := zT BK140 1
   have hfz39_0 := blk_frozen BK140.out 0
   have hfz39_1 := blk_frozen BK140.out 1
   go_wp2
   go_meet
   case rel => exact ⟨_, (true), zR, H', ⟨by have := HJ1.out; have := HK2.out; first | omega | exact Nat.le_refl _⟩, ⟨by (with_reducible repeat (first | refine blk_drewN ?_ _ | refine blk_drew ?_ | refine blk_alloc ?_ _)); refine blk_far ?_ NB140_142.out _; (with_reducible repeat (first | refine blk_drewN ?_ _ | refine blk_drew ?_ | refine blk_alloc ?_ _)); refine blk_far ?_ NB140_142.out _; (with_reducible repeat (first | refine blk_drewN ?_ _ | refine blk_drew ?_ | refine blk_alloc ?_ _)); refine blk_far ?_ NB140_142.out _; (with_reducible repeat (first | refine blk_drewN ?_ _ | refine blk_drew ?_ | refine blk_alloc ?_ _)); refine blk_far ?_ NB140_142.out _; (with_reducible repeat (first | refine blk_drewN ?_ _ | refine blk_drew ?_ | refine blk_alloc ?_ _)); refine blk_far ?_ NB140_142.out _; (with_reducible repeat (first | refine blk_drewN ?_ _ | refine blk_drew ?_ | refine blk_alloc ?_ _)); exact BK140.out⟩, ⟨by (with_reducible repeat (first | refine blk_drewN ?_ _ | refine blk_drew ?_ | refine blk_alloc ?_ _)); refine blk_put (cs := #[.int .i64 ((rd_T71 l0_1 x22_2).f0), .int .i64 ((rd_T71 l0_1 x22_2).f1), .int .i64 ((rd_T71 l0_1 x22_2).f2), .int .i64 ((rd_T71 l0_1 x22_2).f3), .int .i64 0]) ?_ 4 _ rfl; (with_reducible repeat (first | refine blk_drewN ?_ _ | refine blk_drew ?_ | refine blk_alloc ?_ _)); refine blk_put (cs := #[.int .i64 ((rd_T71 l0_1 x22_2).f0), .int .i64 ((rd_T71 l0_1 x22_2).f1), .int .i64 ((rd_T71 l0_1 x22_2).f2), .int .i64 0, .int .i64 0]) ?_ 3 _ rfl; (with_reducible repeat (first | refine blk_drewN ?_ _ | refine blk_drew ?_ | refine blk_alloc ?_ _)); refine blk_put (cs := #[.int .i64 ((rd_T71 l0_1 x22_2).f0), .int .i64 ((rd_T71 l0_1 x22_2).f1), .int .i64 0, .int .i64 0, .int .i64 0]) ?_ 2 _ rfl; (with_reducible repeat (first | refine blk_drewN ?_ _ | refine blk_drew ?_ | refine blk_alloc ?_ _)); refine blk_put (cs := #[.int .i64 ((rd_T71 l0_1 x22_2).f0), .int .i64 0, .int .i64 0, .int .i64 0, .int .i64 0]) ?_ 1 _ rfl; (with_reducible repeat (first | refine blk_drewN ?_ _ | refine blk_drew ?_ | refine blk_alloc ?_ _)); refine blk_put (cs := #[.int .i64 0, .int .i64 0, .int .i64 0, .int .i64 0, .int .i64 0]) ?_ 0 _ rfl; (with_reducible repeat (first | refine blk_drewN ?_ _ | refine blk_drew ?_ | refine blk_alloc ?_ _)); exact BK142.out⟩, ⟨zB⟩⟩
  rw [if_neg c36] at H
  have c36b0 : decide ((ji35) < 0) = false := decide_eq_false c36
  clear c36
  obtain ⟨ji40, hji40⟩ : ∃ j_ : Int, (mx ((rd_T71 l0_1 x22_2).f3) ((rd_T71 l0_1 x22_2).f4)) = j_ := ⟨_, rfl⟩
  replace H : (best_Check.j2 k2 x22_2 l0_1 (l0_1.length : Int) x22_2 (decide ((ji40) > 1000)) a0_0 l0_1 ((rd_T71 l0_1 x22_2).f0) ((rd_T71 l0_1 x22_2).f1) ((rd_T71 l0_1 x22_2).f2) ((rd_T71 l0_1 x22_2).f3) ((rd_T71 l0_1 x22_2).f4)) = some r := by first | (rw [hji40] at H; exact H) | (simp only [hji40] at H ⊢; exact H)
  have hji40_ : (if ((rd_T71 l0_1 x22_2).f3) < ((rd_T71 l0_1 x22_2).f4) then ((rd_T71 l0_1 x22_2).f4) else ((rd_T71 l0_1 x22_2).f3)) = ji40 := hji40
  have H' := Aside0.mk H
  clear H
  have hnb41 := NB142_140.out
  have hnc41 := NB140_142.out
  have hcz42_0 : w15.cell? ⟨gb142, 0, none⟩ = some (.int .i64 0) := zT BK142 0
  have hcz42_1 : w15.cell? ⟨gb142, 1, none⟩ = some (.int .i64 0) := zT BK142 1
  have hcz42_2 : w15.cell? ⟨gb142, 2, none⟩ = some (.int .i64 0) := zT BK142 2
  have hcz42_3 : w15.cell? ⟨gb142, 3, none⟩ = some (.int .i64 0) := zT BK142 3
  have hcz42_4 : w15.cell? ⟨gb142, 4, none⟩ = some (.int .i64 0) := zT BK142 4
  have hfz42_0 := blk_frozen BK142.out 0
  have hfz42_1 := blk_frozen BK142.out 1
  have hfz42_2 := blk_frozen BK142.out 2
  have hfz42_3 := blk_frozen BK142.out 3
  have hfz42_4 := blk_frozen BK142.out 4
  have hcz43_0 : w15.cell? ⟨gb140, 0, none⟩ = some (.int .i64 a0_0) := zT BK140 0
  have hcz43_1 : w15.cell? ⟨gb140, 1, none⟩ = some (.slice (some ad141) l0_1.length c0_1) := zT BK140 1
  have hfz43_0 := blk_frozen BK140.out 0
  have hfz43_1 := blk_frozen BK140.out 1
  go_wp2
  go_meet
  case rel => exact ⟨_, (decide ((ji40) > 1000)), (by first | rfl | (simp; done) | (simp only [← hji40] <;> (first | rfl | simp)) | (simp [*]; done)), H', ⟨by have := HJ1.out; have := HK2.out; first | omega | exact Nat.le_refl _⟩, ⟨by (with_reducible repeat (first | refine blk_drewN ?_ _ | refine blk_drew ?_ | refine blk_alloc ?_ _)); refine blk_far ?_ NB140_142.out _; (with_reducible repeat (first | refine blk_drewN ?_ _ | refine blk_drew ?_ | refine blk_alloc ?_ _)); refine blk_far ?_ NB140_142.out _; (with_reducible repeat (first | refine blk_drewN ?_ _ | refine blk_drew ?_ | refine blk_alloc ?_ _)); refine blk_far ?_ NB140_142.out _; (with_reducible repeat (first | refine blk_drewN ?_ _ | refine blk_drew ?_ | refine blk_alloc ?_ _)); refine blk_far ?_ NB140_142.out _; (with_reducible repeat (first | refine blk_drewN ?_ _ | refine blk_drew ?_ | refine blk_alloc ?_ _)); refine blk_far ?_ NB140_142.out _; (with_reducible repeat (first | refine blk_drewN ?_ _ | refine blk_drew ?_ | refine blk_alloc ?_ _)); exact BK140.out⟩, ⟨by (with_reducible repeat (first | refine blk_drewN ?_ _ | refine blk_drew ?_ | refine blk_alloc ?_ _)); refine blk_put (cs := #[.int .i64 ((rd_T71 l0_1 x22_2).f0), .int .i64 ((rd_T71 l0_1 x22_2).f1), .int .i64 ((rd_T71 l0_1 x22_2).f2), .int .i64 ((rd_T71 l0_1 x22_2).f3), .int .i64 0]) ?_ 4 _ rfl; (with_reducible repeat (first | refine blk_drewN ?_ _ | refine blk_drew ?_ | refine blk_alloc ?_ _)); refine blk_put (cs := #[.int .i64 ((rd_T71 l0_1 x22_2).f0), .int .i64 ((rd_T71 l0_1 x22_2).f1), .int .i64 ((rd_T71 l0_1 x22_2).f2), .int .i64 0, .int .i64 0]) ?_ 3 _ rfl; (with_reducible repeat (first | refine blk_drewN ?_ _ | refine blk_drew ?_ | refine blk_alloc ?_ _)); refine blk_put (cs := #[.int .i64 ((rd_T71 l0_1 x22_2).f0), .int .i64 ((rd_T71 l0_1 x22_2).f1), .int .i64 0, .int .i64 0, .int .i64 0]) ?_ 2 _ rfl; (with_reducible repeat (first | refine blk_drewN ?_ _ | refine blk_drew ?_ | refine blk_alloc ?_ _)); refine blk_put (cs := #[.int .i64 ((rd_T71 l0_1 x22_2).f0), .int .i64 0, .int .i64 0, .int .i64 0, .int .i64 0]) ?_ 1 _ rfl; (with_reducible repeat (first | refine blk_drewN ?_ _ | refine blk_drew ?_ | refine blk_alloc ?_ _)); refine blk_put (cs := #[.int .i64 0, .int .i64 0, .int .i64 0, .int .i64 0, .int .i64 0]) ?_ 0 _ rfl; (with_reducible repeat (first | refine blk_drewN ?_ _ | refine blk_drew ?_ | refine blk_alloc ?_ _)); exact BK142.out⟩, ⟨zB⟩⟩
 clear HC14
 try clear c1
 try clear p1
 try clear q1
 try clear hx1
 try clear c2
 try clear p2
 try clear c3
 try clear c4
 try clear c4b0
 try clear c7
 try clear c8
 try clear c8b0
 try clear c8b1
 try clear c11
 try clear c11b0
 try clear c12
 try clear c12b0
 try clear c13
 try clear c13b0
 try clear p14
 try clear q14
 try clear hx14
 try clear c16
 try clear c19
 try clear c19b0
 try clear c20
 try clear c23
 try clear c23b0
 try clear c24
 try clear c27
 try clear c27b0
 try clear c28
 try clear c31
 try clear c31b0
 try clear c32
 try clear c36
 try clear c36b0
 try clear c37
 try clear c41
 try clear hcz10_0
 try clear hcz10_1
 try clear hcz17_0
 try clear hcz17_1
 try clear hcz17_2
 try clear hcz17_3
 try clear hcz17_4
 try clear hcz21_0
 try clear hcz21_1
 try clear hcz21_2
 try clear hcz21_3
 try clear hcz21_4
 try clear hcz25_0
 try clear hcz25_1
 try clear hcz25_2
 try clear hcz25_3
 try clear hcz25_4
 try clear hcz26_0
 try clear hcz26_1
 try clear hcz29_0
 try clear hcz29_1
 try clear hcz29_2
 try clear hcz29_3
 try clear hcz29_4
 try clear hcz30_0
 try clear hcz30_1
 try clear hcz33_0
 try clear hcz33_1
 try clear hcz33_2
 try clear hcz33_3
 try clear hcz33_4
 try clear hcz34_0
 try clear hcz34_1
 try clear hcz38_0
 try clear hcz38_1
 try clear hcz38_2
 try clear hcz38_3
 try clear hcz38_4
 try clear hcz39_0
 try clear hcz39_1
 try clear hcz42_0
 try clear hcz42_1
 try clear hcz42_2
 try clear hcz42_3
 try clear hcz42_4
 try clear hcz43_0
 try clear hcz43_1
 try clear hcz5_0
 try clear hcz5_1
 try clear hcz6_0
 try clear hcz6_1
 try clear hcz9_0
 try clear hcz9_1
 try clear hfz10_0
 try clear hfz10_1
 try clear hfz17_0
 try clear hfz17_1
 try clear hfz17_2
 try clear hfz17_3
 try clear hfz17_4
 try clear hfz21_0
 try clear hfz21_1
 try clear hfz21_2
 try clear hfz21_3
 try clear hfz21_4
 try clear hfz25_0
 try clear hfz25_1
 try clear hfz25_2
 try clear hfz25_3
 try clear hfz25_4
 try clear hfz26_0
 try clear hfz26_1
 try clear hfz29_0
 try clear hfz29_1
 try clear hfz29_2
 try clear hfz29_3
 try clear hfz29_4
 try clear hfz30_0
 try clear hfz30_1
 try clear hfz33_0
 try clear hfz33_1
 try clear hfz33_2
 try clear hfz33_3
 try clear hfz33_4
 try clear hfz34_0
 try clear hfz34_1
 try clear hfz38_0
 try clear hfz38_1
 try clear hfz38_2
 try clear hfz38_3
 try clear hfz38_4
 try clear hfz39_0
 try clear hfz39_1
 try clear hfz42_0
 try clear hfz42_1
 try clear hfz42_2
 try clear hfz42_3
 try clear hfz42_4
 try clear hfz43_0
 try clear hfz43_1
 try clear hfz5_0
 try clear hfz5_1
 try clear hfz6_0
 try clear hfz6_1
 try clear hfz9_0
 try clear hfz9_1
 try clear hx141_0
 try clear hx141_1
 try clear hx141_2
 try clear hx141_3
 try clear hx141_4
 try clear p141
 try clear p2
 try clear q141
 obtain ⟨kq, x27_13, rfl, HA, HJ13, BK140, BK142, HB⟩ := hcut
 rcases kq with _ | kj13
 · exact absurd HA.out (by simp [best_Check.j2])
 have H := HA.out
 clear HA
 simp only [best_Check.j2] at H
 by_cases c44 : x27_13 = true
 ·
  subst c44
  have H1 : (some 10) = some r := by rw [if_pos rfl] at H; exact H
  clear H
  have H := H1
  clear H1
  obtain rfl := Option.some.inj H
  go_wp2
  go_ret
  exact ⟨zE, zB⟩
 replace c44 := Bool.eq_false_iff.mpr c44
 subst c44
 have H1 : (if ((rd_T71 l0_1 x22_2).f0) = ((rd_T71 l0_1 x22_2).f1) then (some 1) else (if 0 ≤ x22_2 then (if x22_2 ≤ (l0_1.length : Int) then ((g12_.f kj13 (l0_1.take (x22_2 : Int).toNat) ((rd_T71 l0_1 x22_2).f0) ((rd_T71 l0_1 x22_2).f1) ((rd_T71 l0_1 x22_2).f2) ((rd_T71 l0_1 x22_2).f3) ((rd_T71 l0_1 x22_2).f4)).bind fun t147 => (if t147 = true then (some 6) else (best_Check.l0 kj13 l0_1 (l0_1.length : Int) (wrap64 (x22_2 + 1)) a0_0 l0_1))) else (none)) else (none))) = some r := by rw [if_neg (show ¬ (false = true) by decide)] at H; exact H
 clear H
 have H := H1
 clear H1
 by_cases c45 : ((rd_T71 l0_1 x22_2).f0) = ((rd_T71 l0_1 x22_2).f1)
 ·
  rw [if_pos c45] at H
  have c45b0 : (((rd_T71 l0_1 x22_2).f0) == ((rd_T71 l0_1 x22_2).f1)) = true := beq_iff_eq.mpr c45
  have c45b1 : (((rd_T71 l0_1 x22_2).f0) != ((rd_T71 l0_1 x22_2).f1)) = false := bne_eq_false_iff_eq.mpr c45
  clear c45
  obtain rfl := Option.some.inj H
  have hnb46 := NB142_140.out
  have hnc46 := NB140_142.out
  have hcz47_0 : wc.cell? ⟨gb142, 0, none⟩ = some (.int .i64 ((rd_T71 l0_1 x22_2).f0)) := zT BK142 0
  have hcz47_1 : wc.cell? ⟨gb142, 1, none⟩ = some (.int .i64 ((rd_T71 l0_1 x22_2).f1)) := zT BK142 1
  have hcz47_2 : wc.cell? ⟨gb142, 2, none⟩ = some (.int .i64 ((rd_T71 l0_1 x22_2).f2)) := zT BK142 2
  have hcz47_3 : wc.cell? ⟨gb142, 3, none⟩ = some (.int .i64 ((rd_T71 l0_1 x22_2).f3)) := zT BK142 3
  have hcz47_4 : wc.cell? ⟨gb142, 4, none⟩ = some (.int .i64 ((rd_T71 l0_1 x22_2).f4)) := zT BK142 4
  have hfz47_0 := blk_frozen BK142.out 0
  have hfz47_1 := blk_frozen BK142.out 1
  have hfz47_2 := blk_frozen BK142.out 2
  have hfz47_3 := blk_frozen BK142.out 3
  have hfz47_4 := blk_frozen BK142.out 4
  go_wp2
  go_ret
  exact ⟨zE, zB⟩
 rw [if_neg c45] at H
 have c45b0 : (((rd_T71 l0_1 x22_2).f0) == ((rd_T71 l0_1 x22_2).f1)) = false := beq_eq_false_iff_ne.mpr c45
 have c45b1 : (((rd_T71 l0_1 x22_2).f0) != ((rd_T71 l0_1 x22_2).f1)) = true := bne_iff_ne.mpr c45
 by_cases c48 : 0 ≤ x22_2
 rotate_left
 · rw [if_neg c48] at H; exact absurd H (by simp)
 rw [if_pos c48] at H
 have c48b0 := eq_true c48
 have c48b1 : decide (0 ≤ x22_2) = true := decide_eq_true c48
 clear c48
 by_cases c49 : x22_2 ≤ (l0_1.length : Int)
 rotate_left
 · rw [if_neg c49] at H; exact absurd H (by simp)
 rw [if_pos c49] at H
 have c49b0 := eq_true c49
 have c49b1 : decide (x22_2 ≤ (l0_1.length : Int)) = true := decide_eq_true c49
 clear c49
 obtain ⟨y143, hy143⟩ : ∃ y_ : List (S71), y_ = (l0_1.take (x22_2 : Int).toNat) := ⟨_, rfl⟩
 replace H : ((g12_.f kj13 y143 ((rd_T71 l0_1 x22_2).f0) ((rd_T71 l0_1 x22_2).f1) ((rd_T71 l0_1 x22_2).f2) ((rd_T71 l0_1 x22_2).f3) ((rd_T71 l0_1 x22_2).f4)).bind fun t147 => (if t147 = true then (some 6) else (best_Check.l0 kj13 l0_1 (l0_1.length : Int) (wrap64 (x22_2 + 1)) a0_0 l0_1))) = some r := by first | (rw [hy143]; with_reducible exact H) | (have H2_ := (Option.bind_some _ _).symm.trans H; rw [hy143]; with_reducible exact H2_) | (have H2_ := (Option.bind_some _ _).symm.trans H; with_reducible exact H2_) | with_reducible exact H | (rw [hy143]; exact H) | exact H
 have Ny143 := Aside0.mk hy143
 clear hy143
 replace H := Option.bind_eq_some_iff.mp H
 obtain ⟨t147, A500, H⟩ := H
 replace H : (if t147 = true then (some 6) else (best_Check.l0 kj13 l0_1 (l0_1.length : Int) (wrap64 (x22_2 + 1)) a0_0 l0_1)) = some r := H
 have A50 := Aside0.mk A500
 clear A500
 by_cases c51 : t147 = true
 ·
  subst c51
  have H1 : (some 6) = some r := by rw [if_pos rfl] at H; exact H
  clear H
  have H := H1
  clear H1
  obtain rfl := Option.some.inj H
  have hnb52 := NB142_140.out
  have hnc52 := NB140_142.out
  have hcz53_0 : wc.cell? ⟨gb142, 0, none⟩ = some (.int .i64 ((rd_T71 l0_1 x22_2).f0)) := zT BK142 0
  have hcz53_1 : wc.cell? ⟨gb142, 1, none⟩ = some (.int .i64 ((rd_T71 l0_1 x22_2).f1)) := zT BK142 1
  have hcz53_2 : wc.cell? ⟨gb142, 2, none⟩ = some (.int .i64 ((rd_T71 l0_1 x22_2).f2)) := zT BK142 2
  have hcz53_3 : wc.cell? ⟨gb142, 3, none⟩ = some (.int .i64 ((rd_T71 l0_1 x22_2).f3)) := zT BK142 3
  have hcz53_4 : wc.cell? ⟨gb142, 4, none⟩ = some (.int .i64 ((rd_T71 l0_1 x22_2).f4)) := zT BK142 4
  have hfz53_0 := blk_frozen BK142.out 0
  have hfz53_1 := blk_frozen BK142.out 1
  have hfz53_2 := blk_frozen BK142.out 2
  have hfz53_3 := blk_frozen BK142.out 3
  have hfz53_4 := blk_frozen BK142.out 4
  have hcz54_0 : wc.cell? ⟨gb140, 0, none⟩ = some (.int .i64 a0_0) := zT BK140 0
  have hcz54_1 : wc.cell? ⟨gb140, 1, none⟩ = some (.slice (some ad141) l0_1.length c0_1) := zT BK140 1
  have hfz54_0 := blk_frozen BK140.out 0
  have hfz54_1 := blk_frozen BK140.out 1
  have q55 : (x22_2 : Int) ≤ ((l0_1.length : Int) : Int) := od
  obtain ⟨i055, hi055, _, hsz55, _⟩ := info_parts info71
  have hroom55 : l0_1.length ≤ c0_1 := HC0_1.out
  have hC55 : Kd.C k71 _ (some ad141) l0_1.length l0_1 := HR0_1.out
  have hcut55 := cut_to (P := Try.prog) 40 71 .i64 Try.underlying40 hi055 (some ad141) l0_1.length c0_1 x22_2 (od) q55 hroom55
  have hr55 := Kd.C_take (m := (x22_2 : Int).toNat) hC55 (by omega)
  have hy55 : y143.length = (x22_2 : Int).toNat := (by rw [Ny143.out, List.length_take]; omega)
  rw [← Ny143.out] at hr55
  rw [← hy55] at hcut55
  have HR146 := Aside0.mk hr55
  have HC146 := Aside0.mk (show y143.length ≤ c0_1 from by omega)
  clear hr55 hC55 hroom55 hi055 hsz55
  have KY55 := Aside0.mk hy55
  clear hy55
  replace q55 := eq_true q55
  go_wp2_with (first | ((with_reducible refine gate_callee (f := 33) rfl ?_); refine goesL_ (some 82) rfl rfl Try.func33 (by kernel_rfl) rfl #[.slice (some ad141) y143.length c0_1, .func (.func 38) #[] #[.pointer (some ⟨gb142, 0, none⟩)]] rfl zM ?_; (with_reducible refine (g12_.calls kj13 _ _ y143 gb142 ((rd_T71 l0_1 x22_2).f0) ((rd_T71 l0_1 x22_2).f1) ((rd_T71 l0_1 x22_2).f2) ((rd_T71 l0_1 x22_2).f3) ((rd_T71 l0_1 x22_2).f4) true _ ?side1 ?side2 ?side3 A50.out).mono ?_); (case side1 => exact zC HR146 HB); (case side2 => exact HC146.out); (case side3 => exact (zK BK142)); rintro e w56 ⟨rfl, hb⟩; refine ⟨_, rfl, ?_⟩; have n0_ := Aside0.mk (blk_below (g := gb140) (o := .cells #[.int .i64 a0_0, .slice (some ad141) l0_1.length c0_1] 42 (0, 0)) (zK BK140) hb); have n1_ := Aside0.mk (blk_below (g := gb142) (o := .cells #[.int .i64 ((rd_T71 l0_1 x22_2).f0), .int .i64 ((rd_T71 l0_1 x22_2).f1), .int .i64 ((rd_T71 l0_1 x22_2).f2), .int .i64 ((rd_T71 l0_1 x22_2).f3), .int .i64 ((rd_T71 l0_1 x22_2).f4)] 71 (0, 0)) (zK BK142) hb); have n2_ := Aside0.mk (below_step zB hb); clear BK140; clear BK142; clear HB; have BK140 := n0_; have BK142 := n1_; have HB := n2_; clear n0_ n1_ n2_; (try clear hb); (try clear hb2); (try clear hk); (try clear hi)))
  go_ret
  exact ⟨zE, zB⟩
 replace c51 := Bool.eq_false_iff.mpr c51
 subst c51
 have H1 : (best_Check.l0 kj13 l0_1 (l0_1.length : Int) (wrap64 (x22_2 + 1)) a0_0 l0_1) = some r := by rw [if_neg (show ¬ (false = true) by decide)] at H; exact H
 clear H
 have H := H1
 clear H1
 have H' := Aside0.mk H
 clear H
 have hnb57 := NB142_140.out
 have hnc57 := NB140_142.out
 have hcz58_0 : wc.cell? ⟨gb142, 0, none⟩ = some (.int .i64 ((rd_T71 l0_1 x22_2).f0)) := zT BK142 0
 have hcz58_1 : wc.cell? ⟨gb142, 1, none⟩ = some (.int .i64 ((rd_T71 l0_1 x22_2).f1)) := zT BK142 1
 have hcz58_2 : wc.cell? ⟨gb142, 2, none⟩ = some (.int .i64 ((rd_T71 l0_1 x22_2).f2)) := zT BK142 2
 have hcz58_3 : wc.cell? ⟨gb142, 3, none⟩ = some (.int .i64 ((rd_T71 l0_1 x22_2).f3)) := zT BK142 3
 have hcz58_4 : wc.cell? ⟨gb142, 4, none⟩ = some (.int .i64 ((rd_T71 l0_1 x22_2).f4)) := zT BK142 4
 have hfz58_0 := blk_frozen BK142.out 0
 have hfz58_1 := blk_frozen BK142.out 1
 have hfz58_2 := blk_frozen BK142.out 2
 have hfz58_3 := blk_frozen BK142.out 3
 have hfz58_4 := blk_frozen BK142.out 4
 have hcz59_0 : wc.cell? ⟨gb140, 0, none⟩ = some (.int .i64 a0_0) := zT BK140 0
 have hcz59_1 : wc.cell? ⟨gb140, 1, none⟩ = some (.slice (some ad141) l0_1.length c0_1) := zT BK140 1
 have hfz59_0 := blk_frozen BK140.out 0
 have hfz59_1 := blk_frozen BK140.out 1
 have q60 : (x22_2 : Int) ≤ ((l0_1.length : Int) : Int) := od
 obtain ⟨i060, hi060, _, hsz60, _⟩ := info_parts info71
 have hroom60 : l0_1.length ≤ c0_1 := HC0_1.out
 have hC60 : Kd.C k71 _ (some ad141) l0_1.length l0_1 := HR0_1.out
 have hcut60 := cut_to (P := Try.prog) 40 71 .i64 Try.underlying40 hi060 (some ad141) l0_1.length c0_1 x22_2 (od) q60 hroom60
 have hr60 := Kd.C_take (m := (x22_2 : Int).toNat) hC60 (by omega)
 have hy60 : y143.length = (x22_2 : Int).toNat := (by rw [Ny143.out, List.length_take]; omega)
 rw [← Ny143.out] at hr60
 rw [← hy60] at hcut60
 have HR146 := Aside0.mk hr60
 have HC146 := Aside0.mk (show y143.length ≤ c0_1 from by omega)
 clear hr60 hC60 hroom60 hi060 hsz60
 have KY60 := Aside0.mk hy60
 clear hy60
 replace q60 := eq_true q60
 go_wp2_with (first | ((with_reducible refine gate_callee (f := 33) rfl ?_); refine goesL_ (some 82) rfl rfl Try.func33 (by kernel_rfl) rfl #[.slice (some ad141) y143.length c0_1, .func (.func 38) #[] #[.pointer (some ⟨gb142, 0, none⟩)]] rfl zM ?_; (with_reducible refine (g12_.calls kj13 _ _ y143 gb142 ((rd_T71 l0_1 x22_2).f0) ((rd_T71 l0_1 x22_2).f1) ((rd_T71 l0_1 x22_2).f2) ((rd_T71 l0_1 x22_2).f3) ((rd_T71 l0_1 x22_2).f4) false _ ?side1 ?side2 ?side3 A50.out).mono ?_); (case side1 => exact zC HR146 HB); (case side2 => exact HC146.out); (case side3 => exact (zK BK142)); rintro e w61 ⟨rfl, hb⟩; refine ⟨_, rfl, ?_⟩; have n0_ := Aside0.mk (blk_below (g := gb140) (o := .cells #[.int .i64 a0_0, .slice (some ad141) l0_1.length c0_1] 42 (0, 0)) (zK BK140) hb); have n1_ := Aside0.mk (blk_below (g := gb142) (o := .cells #[.int .i64 ((rd_T71 l0_1 x22_2).f0), .int .i64 ((rd_T71 l0_1 x22_2).f1), .int .i64 ((rd_T71 l0_1 x22_2).f2), .int .i64 ((rd_T71 l0_1 x22_2).f3), .int .i64 ((rd_T71 l0_1 x22_2).f4)] 71 (0, 0)) (zK BK142) hb); have n2_ := Aside0.mk (below_step zB hb); clear BK140; clear BK142; clear HB; have BK140 := n0_; have BK142 := n1_; have HB := n2_; clear n0_ n1_ n2_; (try clear hb); (try clear hb2); (try clear hk); (try clear hi)))
 go_roundg kj13
 case measure => have := HJ1.out; have := HK2.out; have := HJ13.out; omega
 case rel => exact ⟨(wrap64 (x22_2 + 1)), zR, H', ⟨by have := HJ1.out; have := HK2.out; have := HJ13.out; omega⟩, ⟨zK BK140⟩, ⟨zB⟩⟩
/-! ### g35_: function 50 -/
def g35_.f  (a1 : Int) : Option (List Int) := if a1 < 0 then (none) else (if (wrap64 (a1)) > 0 then (if 0 ≤ (wrap64 (a1)) then (if ([] : List Int).length + (wrap64 (a1) : Int).toNat < 17592186044416 then ((some (([] : List Int) ++ List.replicate (wrap64 (a1) : Int).toNat 0 : List Int)).bind fun y172 => (if 0 ≤ (y172.length : Int) then (some (y172.take (0 : Int).toNat)) else (none))) else (none)) else (none)) else (some ([] : List Int)))
set_option maxHeartbeats 8000000 in
set_option maxRecDepth 100000 in
theorem g35_.calls  (a1 : Int) (r : List Int) (w : World) (h : g35_.f a1 = some r) :
 Calls Try.prog 50 #[.slice none 0 0, .int .i64 a1] w fun e w' => ∃ v0_ : Value, e = .returned (v0_) ∧ Kd.R (Kd.int .i64) 3 w' w.heap.size (fun _ => True) v0_ r ∧ Below w.heap.size w w' := by
 have HB := Aside0.mk (Below.refl w.heap.size w)
 have H : (if a1 < 0 then (none) else (if (wrap64 (a1)) > 0 then (if 0 ≤ (wrap64 (a1)) then (if ([] : List Int).length + (wrap64 (a1) : Int).toNat < 17592186044416 then ((some (([] : List Int) ++ List.replicate (wrap64 (a1) : Int).toNat 0 : List Int)).bind fun y172 => (if 0 ≤ (y172.length : Int) then (some (y172.take (0 : Int).toNat)) else (none))) else (none)) else (none)) else (some ([] : List Int)))) = some r := h
 clear h
 by_cases c3 : a1 < 0
 · rw [if_pos c3] at H; exact absurd H (by simp)
 rw [if_neg c3] at H
 have c3b0 : decide (a1 < 0) = false := decide_eq_false c3
 clear c3
 by_cases c4 : (wrap64 (a1)) > 0
 rotate_left
 ·
  rw [if_neg c4] at H
  have c4b0 : decide (0 < (wrap64 (a1))) = false := decide_eq_false c4
  clear c4
  obtain rfl := Option.some.inj H
  go_enter Try.func50, Try.ntmps50
  go_wp2
  go_ret
  exact ⟨_, zE, by first | exact Kd.R_nil _ _ _ _ _ | exact Kd.N_nil _ _ _ _ _ | exact Kd.V_nil _ _ _ _ _ | exact Kd.Q_nil _ _ _ _ _ | exact Kd.S_nil _ _ _ _ _, zB⟩
 rw [if_pos c4] at H
 have c4b0 : decide (0 < (wrap64 (a1))) = true := decide_eq_true c4
 clear c4
 obtain ⟨ji5, hji5⟩ : ∃ j_ : Int, (wrap64 (a1)) = j_ := ⟨_, rfl⟩
 replace H : (if 0 ≤ (ji5) then (if ([] : List Int).length + (ji5 : Int).toNat < 17592186044416 then ((some (([] : List Int) ++ List.replicate (ji5 : Int).toNat 0 : List Int)).bind fun y172 => (if 0 ≤ (y172.length : Int) then (some (y172.take (0 : Int).toNat)) else (none))) else (none)) else (none)) = some r := by first | (rw [hji5] at H; exact H) | (simp only [hji5] at H ⊢; exact H)
 (try rw [hji5] at c4b0)
 have hji5w : (IntKind.i64.wrap (a1)) = ji5 := (i64_w _).trans hji5
 by_cases c6 : 0 ≤ (ji5)
 rotate_left
 · rw [if_neg c6] at H; exact absurd H (by simp)
 rw [if_pos c6] at H
 have c6b0 := eq_true c6
 have c6b1 : decide (0 ≤ (ji5)) = true := decide_eq_true c6
 clear c6
 by_cases c7 : ([] : List Int).length + (ji5 : Int).toNat < 17592186044416
 rotate_left
 · rw [if_neg c7] at H; exact absurd H (by simp)
 rw [if_pos c7] at H
 have LMc7 := Aside0.mk c7
 clear c7
 obtain ⟨y172, hy172⟩ : ∃ y_ : List Int, y_ = (([] : List Int) ++ List.replicate (ji5 : Int).toNat 0) := ⟨_, rfl⟩
 replace H : (if 0 ≤ (y172.length : Int) then (some (y172.take (0 : Int).toNat)) else (none)) = some r := by first | (rw [hy172]; with_reducible exact H) | (have H2_ := (Option.bind_some _ _).symm.trans H; rw [hy172]; with_reducible exact H2_) | (have H2_ := (Option.bind_some _ _).symm.trans H; with_reducible exact H2_) | with_reducible exact H | (rw [hy172]; exact H) | exact H
 have Ny172 := Aside0.mk hy172
 clear hy172
 by_cases c8 : 0 ≤ (y172.length : Int)
 rotate_left
 · rw [if_neg c8] at H; exact absurd H (by simp)
 rw [if_pos c8] at H
 have c8b0 := eq_true c8
 have c8b1 : decide (0 ≤ (y172.length : Int)) = true := decide_eq_true c8
 clear c8
 obtain ⟨y175, hy175⟩ : ∃ y_ : List Int, y_ = (y172.take (0 : Int).toNat) := ⟨_, rfl⟩
 replace H : (some y175) = some r := by first | (rw [hy175]; with_reducible exact H) | (have H2_ := (Option.bind_some _ _).symm.trans H; rw [hy175]; with_reducible exact H2_) | (have H2_ := (Option.bind_some _ _).symm.trans H; with_reducible exact H2_) | with_reducible exact H | (rw [hy175]; exact H) | exact H
 have Ny175 := Aside0.mk hy175
 clear hy175
 obtain rfl := Option.some.inj H
 go_enter Try.func50, Try.ntmps50
 go_wp2_with (first | (at_builtin; refine Kd.R_append_zeros (Kd.int .i64) (w0 := w) w.heap.size rfl (.tmp 20) (.tmp 21) 33 3 3 (.int .i64 0) 8 rfl Try.underlying33 Try.underlying3 info3 rfl (by decide) (by omega) (.slice none 0 0) ([] : List Int) 0 (ji5 : Int) (fun _ => True) rfl rfl rfl ?aF ?aO (od) ?aB ?aS ?aL ?_; (case aB => exact zB); (case aF => exact (fun _ _ => trivial)); (case aO => exact ((Kd.R_nil _ _ _ _ (fun _ => True)))); (case aS => exact (below_size zB)); (case aL => have := LMc7.out; omega); intro v173 w9 ho hb hg hat; rw [← Ny172.out] at ho; have n0_ := Aside0.mk (hb); have n1_ := Aside0.mk (ho); clear HB; have HB := n0_; have HO174 := n1_; clear n0_ n1_; clear ho hb hg hat; obtain ⟨Ao10, co10, eo10⟩ := Kd.R_slice HO174.out; subst eo10; have q11 : (0 : Int) ≤ ((y172.length : Int) : Int) := od; obtain ⟨i011, hi011, _, hsz11, _⟩ := info_parts info3; have hcut11 := cut_to (P := Try.prog) 33 3 .i64 Try.underlying33 hi011 Ao10 y172.length co10 0 (by omega) q11 (Kd.R_reads' HO174.out).2.1; have hr11 := Kd.R_take (m := (0 : Int).toNat) HO174.out (by omega); have hy11 : y175.length = (0 : Int).toNat := (by rw [Ny175.out, List.length_take]; omega); rw [← Ny175.out] at hr11; rw [← hy11] at hr11 hcut11; clear hy11 hi011 hsz11 HO174; have HO177 := Aside0.mk hr11; clear hr11; replace q11 := eq_true q11))
 go_ret
 exact ⟨_, by first | rfl | (simp [errW_none, errW_some] <;> rfl) | (simp only [← hji5]; first | rfl | (simp [errW_none, errW_some] <;> rfl)) | (simp [*, errW_none, errW_some] <;> rfl), by (with_reducible repeat (first | apply Kd.R_alloc | apply Kd.R_drewN | apply Kd.R_drew)); exact HO177.out, zB⟩
end Go.Proofs.Ytplcdbhklepkgaa.BS
