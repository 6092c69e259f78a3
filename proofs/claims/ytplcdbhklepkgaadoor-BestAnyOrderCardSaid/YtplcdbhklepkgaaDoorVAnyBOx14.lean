-- Made by gen.py, a program of this session's, over the kit's print.
import Derived.Test.YtplcdbhklepkgaaDoorVAnyShort
import Derived.Test.YtplcdbhklepkgaaDoorVAnyBOx0
import Derived.Test.YtplcdbhklepkgaaDoorVAnyBOx13
namespace Go.Proofs.YtplcdbhklepkgaaDoor.BO
open Go.RowKit Go.Proofs.YtplcdbhklepkgaaDoorW.PrintWords Go.Proofs.YtplcdbhklepkgaaDoorW.PrintLast Go.Proofs.YtplcdbhklepkgaaDoorW.PrintMore Go.Proofs.YtplcdbhklepkgaaDoor.GenWords
attribute [local go_sem] max2_int min2_int max_two min_two max_three min_three max_four min_four   -- for this text's walks alone
set_option linter.unusedVariables false
set_option linter.unusedSimpArgs false

/-! ### g1_: function 8 -/
def g1_.l0 : Nat → List Int → List (S31) → Int → Int → Option ((List (S31)))
  | 0, _, _, _, _ => none
  | k + 1, x1, x5, x11, x12 => if x12 < x11 then (if x12 < (x1.length : Int) then (if 0 ≤ x12 then (if (IntKind.u64.wrap (wrap64 ((x5.length : Int) - x12))) = 0 then (none) else (if 0 ≤ (wrap64 (x12 + (wrap64 (Int.tmod (IntKind.u64.wrap (rd x1 x12)) (IntKind.u64.wrap (wrap64 ((x5.length : Int) - x12))))))) then (if (wrap64 (x12 + (wrap64 (Int.tmod (IntKind.u64.wrap (rd x1 x12)) (IntKind.u64.wrap (wrap64 ((x5.length : Int) - x12))))))) < (x5.length : Int) then (if x12 < (x5.length : Int) then (g1_.l0 k x1 ((x5.set (x12 : Int).toNat (⟨(⟨(rd_T31 x5 (wrap64 (x12 + (wrap64 (Int.tmod (IntKind.u64.wrap (rd x1 x12)) (IntKind.u64.wrap (wrap64 ((x5.length : Int) - x12)))))))).f0.f0, (rd_T31 x5 (wrap64 (x12 + (wrap64 (Int.tmod (IntKind.u64.wrap (rd x1 x12)) (IntKind.u64.wrap (wrap64 ((x5.length : Int) - x12)))))))).f0.f1⟩ : S29), (rd_T31 x5 (wrap64 (x12 + (wrap64 (Int.tmod (IntKind.u64.wrap (rd x1 x12)) (IntKind.u64.wrap (wrap64 ((x5.length : Int) - x12)))))))).f1, (rd_T31 x5 (wrap64 (x12 + (wrap64 (Int.tmod (IntKind.u64.wrap (rd x1 x12)) (IntKind.u64.wrap (wrap64 ((x5.length : Int) - x12)))))))).f2, (rd_T31 x5 (wrap64 (x12 + (wrap64 (Int.tmod (IntKind.u64.wrap (rd x1 x12)) (IntKind.u64.wrap (wrap64 ((x5.length : Int) - x12)))))))).f3, (rd_T31 x5 (wrap64 (x12 + (wrap64 (Int.tmod (IntKind.u64.wrap (rd x1 x12)) (IntKind.u64.wrap (wrap64 ((x5.length : Int) - x12)))))))).f4⟩ : S31)).set ((wrap64 (x12 + (wrap64 (Int.tmod (IntKind.u64.wrap (rd x1 x12)) (IntKind.u64.wrap (wrap64 ((x5.length : Int) - x12))))))) : Int).toNat (⟨(⟨(rd_T31 x5 x12).f0.f0, (rd_T31 x5 x12).f0.f1⟩ : S29), (rd_T31 x5 x12).f1, (rd_T31 x5 x12).f2, (rd_T31 x5 x12).f3, (rd_T31 x5 x12).f4⟩ : S31)) x11 (wrap64 (x12 + 1))) else (none)) else (none)) else (none))) else (none)) else (g1_.l0 k x1 x5 x11 (wrap64 (x12 + 1)))) else (some x5)
def g1_.f (k : Nat) (l0 : List (S31)) (l1 : List Int) : Option ((List (S31))) := (g27_.f l0).bind fun t689 => (g1_.l0 k l1 t689 (t689.length : Int) 0)
theorem g1_.mono_l : ∀ k, (∀ y0 y1 y2 y3, LeO (g1_.l0 k y0 y1 y2 y3) (g1_.l0 (k + 1) y0 y1 y2 y3))
  | 0 => fun _ _ _ _ r h => by simp [g1_.l0] at h
  | k + 1 => by
    have ih0 := g1_.mono_l k
    · intro y0 y1 y2 y3
      unfold g1_.l0
      repeat' (with_reducible first | exact ih0 _ _ _ _ | exact LeO.refl _ | exact LeO.none _ | refine LeO.ite ?_ ?_ | refine LeO.bind ?_ (fun _ => ?_))
theorem g1_.mono : ∀ a0 a1 k, LeO (g1_.f k a0 a1) (g1_.f (k + 1) a0 a1) := by
  intro a0 a1 k
  have ih0 := g1_.mono_l k
  unfold g1_.f
  repeat' (with_reducible first | exact ih0 _ _ _ _ | exact LeO.refl _ | exact LeO.none _ | refine LeO.ite ?_ ?_ | refine LeO.bind ?_ (fun _ => ?_))
def g1_.T7 : Bool × List (List Nat × List Nat) := (true, [([], []), ([], []), ([], []), ([], []), ([], []), ([], []), ([4, 5], [4, 5]), ([6], [6]), ([], []), ([], []), ([8, 9], [8, 9]), ([10], [10]), ([0, 1, 0, 1, 4, 5, 6, 7, 11], [0, 1]), ([12, 7, 0, 1, 4, 5, 6, 7, 11], [7, 12]), ([2, 3, 0, 1, 2, 3, 4, 5, 6, 7, 8, 9, 10, 11, 12, 13], [2, 3]), ([14, 11, 13, 0, 1, 2, 3, 4, 5, 6, 7, 8, 9, 10, 11, 12, 13], [11, 14])])
def g1_.B7 : List Nat := [0, 0, 0, 0, 0, 0, 48, 112, 0, 0, 768, 1792, 4083, 8179, 16383, 32767]
theorem g1_.tab7 : rtab .any (opsOf Tryd.f8 7) = g1_.T7 := by kernel_rfl
theorem g1_.bits7 : waitsOk g1_.T7.2 g1_.B7 = true := by kernel_rfl
theorem g1_.sgW {W : World} {g o : Nat} {a0 a1 a2 a3 a4 a5 : Value} : ((((((W.setCell ⟨g, o, none⟩ a0).setCell ⟨g, o + 1, none⟩ a1).setCell ⟨g, o + 2, none⟩ a2).setCell ⟨g, o + 3, none⟩ a3).setCell ⟨g, o + 4, none⟩ a4).setCell ⟨g, o + 5, none⟩ a5) = World.setCells W g o [a0, a1, a2, a3, a4, a5] := by simp only [World.setCells, Nat.add_assoc, Nat.reduceAdd]
theorem g1_.sgB {B g : Nat} {w0 : World} (hg : B ≤ g) : ∀ (vs : List Value) (o : Nat) {W : World}, Below B w0 W → Below B w0 (World.setCells W g o vs)
  | [], _, _, h => h
  | v :: vs, o, _, h => by rw [World.setCells]; exact g1_.sgB hg vs (o + 1) (h.setCell hg _)
set_option maxHeartbeats 8000000 in
set_option maxRecDepth 100000 in
theorem g1_.calls (k : Nat) (P0_ : Nat → Prop) (A0 : Option Addr) (c0 : Nat) (l0 : List (S31)) (A1 : Option Addr) (c1 : Nat) (l1 : List Int) (r : List (S31)) (w : World) (hs0 : Kd.V k31 31 w w.heap.size (fun k_ => P0_ k_) (.slice A0 l0.length c0) l0) (hr1 : Kd.C (Kd.int .i64) w A1 l1.length l1) (hc1 : l1.length ≤ c1) (h : g1_.f k l0 l1 = some r) :
 Calls Tryd.prog 8 #[.slice A0 l0.length c0, .slice A1 l1.length c1] w fun e w' => ∃ v0_ : Value, e = .returned (v0_) ∧ Kd.N k31 31 w' w.heap.size (fun k_ => (P0_ k_ ∨ w.heap.size ≤ k_)) v0_ r ∧ Below w.heap.size w w' := by
 have hu3 := Tryd.underlying3
 have hu31 := Tryd.underlying31
 have HO0 := Aside0.mk (show Kd.V k31 31 w w.heap.size (fun k_ => (P0_ k_ ∨ w.heap.size ≤ k_)) (.slice A0 l0.length c0) l0 from Kd.V_mono hs0 (fun k_ hk => .inl hk))
 have HR1 := Aside0.mk hr1
 have HC1 := Aside0.mk hc1
 clear hr1 hc1
 have HB := Aside0.mk (Below.refl w.heap.size w)
 have H : ((g27_.f l0).bind fun t689 => (g1_.l0 k l1 t689 (t689.length : Int) 0)) = some r := h
 clear h
 replace H := Option.bind_eq_some_iff.mp H
 obtain ⟨t689, A30, H⟩ := H
 replace H : (g1_.l0 k l1 t689 (t689.length : Int) 0) = some r := H
 have A3 := Aside0.mk A30
 clear A30
 have H' := Aside0.mk H
 clear H
 go_enter Tryd.func8, Tryd.ntmps8
 go_wp2_with (first | ((with_reducible refine gate_callee (f := 20) rfl ?_); refine goesL_ (some 9) rfl rfl Tryd.func20 (by kernel_rfl) rfl #[.slice A0 l0.length c0] rfl zM ?_; (with_reducible refine (g27_.calls (fun k_ => (P0_ k_ ∨ w.heap.size ≤ k_)) _ _ l0 t689 _ ?side1 A3.out).mono ?_); (case side1 => exact HO0.out); rintro e w4 ⟨v690, rfl, ho0, hb⟩; refine ⟨_, rfl, ?_⟩; have n0_ := Aside0.mk (Kd.V_elder' (by (with_reducible repeat (first | apply Kd.V_alloc | apply Kd.V_drewN | apply Kd.V_drew)); exact HO0.out) (Kd.N_base ho0) hb); have n1_ := Aside0.mk (Kd.N_lower (Kd.N_mono (ok' := fun k_ => (P0_ k_ ∨ w.heap.size ≤ k_)) ho0 (fun k_ hk_ => Or.elim hk_ (fun hs_ => hs_) (fun hn_ => (.inr (Nat.le_trans (below_size zB) hn_))))) (below_size zB)); have n2_ := Aside0.mk (below_step zB hb); clear HO0; clear HB; have HO0 := n0_; have HO691 := n1_; have HB := n2_; clear n0_ n1_ n2_; (try clear hb); (try clear hb2); (try clear hk); (try clear hi); (try clear ho0); obtain ⟨Ao5, co5, eo5⟩ := Kd.N_slice HO691.out; subst eo5))
 go_loopg [12] k (fun kq v12 w' => ∃ (x5_1 : List (S31)) (x12_1 : Int), v12 = .int .i64 x12_1 ∧ Aside0 (g1_.l0 kq l1 x5_1 (t689.length : Int) x12_1 = some r) ∧ Aside0 (kq ≤ k) ∧ Aside0 (Kd.N k31 31 w' w.heap.size (fun k_ => (P0_ k_ ∨ w.heap.size ≤ k_)) (.slice Ao5 t689.length co5) x5_1) ∧ Aside0 (Below w.heap.size w w'))
 case atStart => exact ⟨(t689), (0), zR, H', ⟨Nat.le_refl _⟩, ⟨by (with_reducible repeat (first | apply Kd.N_alloc | apply Kd.N_drewN | apply Kd.N_drew)); exact HO691.out⟩, ⟨zB⟩⟩
 clear H'
 try clear c1
 try clear c2
 try clear p2
 obtain ⟨x5_1, x12_1, rfl, HA, HK1, HO_5, HB⟩ := hrel
 have hl5_1 := (Kd.N_reads' HO_5.out).1
 rw [hl5_1] at HO_5
 (try simp only [hl5_1])
 rcases gk with _ | k1
 · exact absurd HA.out (by simp [g1_.l0])
 have H := HA.out
 clear HA
 simp only [g1_.l0] at H
 by_cases c6 : x12_1 < (t689.length : Int)
 rotate_left
 ·
  rw [if_neg c6] at H
  have c6b0 : decide (x12_1 < (t689.length : Int)) = false := decide_eq_false c6
  have c6b0h := c6b0
  (try simp only [hl5_1] at c6b0h)
  clear c6
  obtain rfl := Option.some.inj H
  go_wp2
  go_ret
  exact ⟨_, zE, by (with_reducible repeat (first | apply Kd.N_alloc | apply Kd.N_drewN | apply Kd.N_drew)); exact HO_5.out, zB⟩
 rw [if_pos c6] at H
 have c6b0 : decide (x12_1 < (t689.length : Int)) = true := decide_eq_true c6
 have c6b0h := c6b0
 (try simp only [hl5_1] at c6b0h)
 clear c6
 by_cases c7 : x12_1 < (l1.length : Int)
 rotate_left
 ·
  rw [if_neg c7] at H
  have c7b0 : decide (x12_1 < (l1.length : Int)) = false := decide_eq_false c7
  have c7b0h := c7b0
  (try simp only [hl5_1] at c7b0h)
  clear c7
  have H' := Aside0.mk H
  clear H
  go_wp2
  (try simp only [← hl5_1])
  go_roundg k1
  case measure => have := HK1.out; omega
  case rel => exact ⟨(x5_1), (wrap64 (x12_1 + 1)), zR, H', ⟨by have := HK1.out; omega⟩, ⟨by (try simp only [hl5_1]); (with_reducible repeat (first | apply Kd.N_alloc | apply Kd.N_drewN | apply Kd.N_drew)); exact HO_5.out⟩, ⟨zB⟩⟩
 rw [if_pos c7] at H
 have c7b0 : decide (x12_1 < (l1.length : Int)) = true := decide_eq_true c7
 have c7b0h := c7b0
 (try simp only [hl5_1] at c7b0h)
 clear c7
 by_cases c8 : 0 ≤ x12_1
 rotate_left
 · rw [if_neg c8] at H; exact absurd H (by simp)
 rw [if_pos c8] at H
 have c8b0 : decide (0 ≤ x12_1) = true := decide_eq_true c8
 clear c8
 by_cases c9 : (IntKind.u64.wrap (wrap64 ((x5_1.length : Int) - x12_1))) = 0
 · rw [if_pos c9] at H; exact absurd H (by simp)
 rw [if_neg c9] at H
 have c9b0 : ((IntKind.u64.wrap (wrap64 ((x5_1.length : Int) - x12_1))) == 0) = false := beq_eq_false_iff_ne.mpr c9
 have c9b0h := c9b0
 (try simp only [hl5_1] at c9b0h)
 have c9b1 : ((IntKind.u64.wrap (wrap64 ((x5_1.length : Int) - x12_1))) != 0) = true := bne_iff_ne.mpr c9
 have c9b1h := c9b1
 (try simp only [hl5_1] at c9b1h)
 obtain ⟨ji10, hji10⟩ : ∃ j_ : Int, (wrap64 (x12_1 + (wrap64 (Int.tmod (IntKind.u64.wrap (rd l1 x12_1)) (IntKind.u64.wrap (wrap64 ((x5_1.length : Int) - x12_1))))))) = j_ := ⟨_, rfl⟩
 replace H : (if 0 ≤ (ji10) then (if (ji10) < (x5_1.length : Int) then (if x12_1 < (x5_1.length : Int) then (g1_.l0 k1 l1 ((x5_1.set (x12_1 : Int).toNat (⟨(⟨(rd_T31 x5_1 (ji10)).f0.f0, (rd_T31 x5_1 (ji10)).f0.f1⟩ : S29), (rd_T31 x5_1 (ji10)).f1, (rd_T31 x5_1 (ji10)).f2, (rd_T31 x5_1 (ji10)).f3, (rd_T31 x5_1 (ji10)).f4⟩ : S31)).set ((ji10) : Int).toNat (⟨(⟨(rd_T31 x5_1 x12_1).f0.f0, (rd_T31 x5_1 x12_1).f0.f1⟩ : S29), (rd_T31 x5_1 x12_1).f1, (rd_T31 x5_1 x12_1).f2, (rd_T31 x5_1 x12_1).f3, (rd_T31 x5_1 x12_1).f4⟩ : S31)) (t689.length : Int) (wrap64 (x12_1 + 1))) else (none)) else (none)) else (none)) = some r := by first | (rw [hji10] at H; exact H) | (simp only [hji10] at H ⊢; exact H)
 have hji10w : (IntKind.i64.wrap (x12_1 + (wrap64 (Int.tmod (IntKind.u64.wrap (rd l1 x12_1)) (IntKind.u64.wrap (wrap64 ((x5_1.length : Int) - x12_1))))))) = ji10 := (i64_w _).trans hji10
 by_cases c11 : 0 ≤ (ji10)
 rotate_left
 · rw [if_neg c11] at H; exact absurd H (by simp)
 rw [if_pos c11] at H
 have c11b0 : decide (0 ≤ (ji10)) = true := decide_eq_true c11
 clear c11
 by_cases c12 : (ji10) < (x5_1.length : Int)
 rotate_left
 · rw [if_neg c12] at H; exact absurd H (by simp)
 rw [if_pos c12] at H
 have c12b0 : decide ((ji10) < (x5_1.length : Int)) = true := decide_eq_true c12
 have c12b0h := c12b0
 (try simp only [hl5_1] at c12b0h)
 clear c12
 by_cases c13 : x12_1 < (x5_1.length : Int)
 rotate_left
 · rw [if_neg c13] at H; exact absurd H (by simp)
 rw [if_pos c13] at H
 have c13b0 : decide (x12_1 < (x5_1.length : Int)) = true := decide_eq_true c13
 have c13b0h := c13b0
 (try simp only [hl5_1] at c13b0h)
 clear c13
 obtain ⟨y695, hy695⟩ : ∃ y_ : List (S31), y_ = (x5_1.set (x12_1 : Int).toNat (⟨(⟨(rd_T31 x5_1 (ji10)).f0.f0, (rd_T31 x5_1 (ji10)).f0.f1⟩ : S29), (rd_T31 x5_1 (ji10)).f1, (rd_T31 x5_1 (ji10)).f2, (rd_T31 x5_1 (ji10)).f3, (rd_T31 x5_1 (ji10)).f4⟩ : S31)) := ⟨_, rfl⟩
 replace H : (g1_.l0 k1 l1 (y695.set ((ji10) : Int).toNat (⟨(⟨(rd_T31 x5_1 x12_1).f0.f0, (rd_T31 x5_1 x12_1).f0.f1⟩ : S29), (rd_T31 x5_1 x12_1).f1, (rd_T31 x5_1 x12_1).f2, (rd_T31 x5_1 x12_1).f3, (rd_T31 x5_1 x12_1).f4⟩ : S31)) (t689.length : Int) (wrap64 (x12_1 + 1))) = some r := by first | (rw [hy695]; with_reducible exact H) | (have H2_ := (Option.bind_some _ _).symm.trans H; rw [hy695]; with_reducible exact H2_) | (have H2_ := (Option.bind_some _ _).symm.trans H; with_reducible exact H2_) | with_reducible exact H | (rw [hy695]; exact H) | exact H
 have Ny695 := Aside0.mk hy695
 clear hy695
 obtain ⟨y696, hy696⟩ : ∃ y_ : List (S31), y_ = (y695.set ((ji10) : Int).toNat (⟨(⟨(rd_T31 x5_1 x12_1).f0.f0, (rd_T31 x5_1 x12_1).f0.f1⟩ : S29), (rd_T31 x5_1 x12_1).f1, (rd_T31 x5_1 x12_1).f2, (rd_T31 x5_1 x12_1).f3, (rd_T31 x5_1 x12_1).f4⟩ : S31)) := ⟨_, rfl⟩
 replace H : (g1_.l0 k1 l1 y696 (t689.length : Int) (wrap64 (x12_1 + 1))) = some r := by first | (rw [hy696]; with_reducible exact H) | (have H2_ := (Option.bind_some _ _).symm.trans H; rw [hy696]; with_reducible exact H2_) | (have H2_ := (Option.bind_some _ _).symm.trans H; with_reducible exact H2_) | with_reducible exact H | (rw [hy696]; exact H) | exact H
 have Ny696 := Aside0.mk hy696
 clear hy696
 have H' := Aside0.mk H
 clear H
 have p692 : 0 ≤ (x12_1 : Int) := od
 have q692 : x12_1 < (l1.length : Int) := od
 obtain ⟨ad692, e692, hx692_0⟩ := Kd.at_int HR1.out x12_1 p692 q692
 cases e692
 replace hx692_0 := zL HB hx692_0
 replace p692 := eq_true p692
 replace q692 := eq_true q692
 try go_wp2
 have n0_ := Aside0.mk (Kd.N_drew HO_5.out)
 have n1_ := Aside0.mk (below_drew1 HB.out)
 clear HO_5
 clear HB
 have HO_5 := n0_
 have HB := n1_
 clear n0_ n1_
 have p693 : 0 ≤ ((ji10) : Int) := od
 have q693 : (ji10) < (x5_1.length : Int) := od
 obtain ⟨ad693, A693_2, c693_2, A693_5, c693_5, e693, hx693_0, hx693_1, hx693_2, hx693_3, hx693_4, hx693_5, hl693_2, hi693_2, hl693_5, hi693_5⟩ := at_T31 (Kd.N_reads' HO_5.out).2.2 (ji10) p693 q693
 cases e693
 obtain ⟨ce693, hce693, hMe693, hcc693⟩ := Kd.N_get HO_5.out z31 (ji10) p693 (by first | exact q693 | exact od | (have e_ := (Kd.N_reads' HO_5.out).1; omega))
 obtain ⟨ua693_2, uc693_2, ua693_5, uc693_5, rfl, ul693_2, ge693_2, ul693_5, ge693_5⟩ := k31_openF hMe693
 have hv693_2 := hcc693 2 _ rfl
 rw [add_field _ _ 2 (by omega)] at hv693_2
 replace hv693_2 := Option.some.inj (hv693_2.symm.trans hx693_2)
 injection hv693_2 with hva_ hvn_ hvc_
 rw [hva_] at ge693_2
 rw [hvc_] at ul693_2
 have HL693_2 := Aside0.mk (show Kd.V (Kd.int .i64) 3 _ w.heap.size _ _ ((rd_T31 x5_1 (ji10)).f1) from Kd.V_mk ul693_2 ge693_2)
 clear hva_ hvn_ hvc_ ge693_2 ul693_2
 have hv693_5 := hcc693 5 _ rfl
 rw [add_field _ _ 5 (by omega)] at hv693_5
 replace hv693_5 := Option.some.inj (hv693_5.symm.trans hx693_5)
 injection hv693_5 with hva_ hvn_ hvc_
 rw [hva_] at ge693_5
 rw [hvc_] at ul693_5
 have HL693_5 := Aside0.mk (show Kd.V (Kd.int .i64) 3 _ w.heap.size _ _ ((rd_T31 x5_1 (ji10)).f4) from Kd.V_mk ul693_5 ge693_5)
 clear hva_ hvn_ hvc_ ge693_5 ul693_5
 clear hcc693 hce693
 have HR693_2 := Aside0.mk hi693_2
 have HC693_2 := Aside0.mk hl693_2
 clear hi693_2 hl693_2
 have HR693_5 := Aside0.mk hi693_5
 have HC693_5 := Aside0.mk hl693_5
 clear hi693_5 hl693_5
 replace p693 := eq_true p693
 replace q693 := eq_true q693
 have p694 : 0 ≤ (x12_1 : Int) := od
 have q694 : x12_1 < (x5_1.length : Int) := od
 obtain ⟨ad694, A694_2, c694_2, A694_5, c694_5, e694, hx694_0, hx694_1, hx694_2, hx694_3, hx694_4, hx694_5, hl694_2, hi694_2, hl694_5, hi694_5⟩ := at_T31 (Kd.N_reads' HO_5.out).2.2 x12_1 p694 q694
 obtain rfl : ad693 = ad694 := (by injection e694)
 obtain ⟨ce694, hce694, hMe694, hcc694⟩ := Kd.N_get HO_5.out z31 x12_1 p694 (by first | exact q694 | exact od | (have e_ := (Kd.N_reads' HO_5.out).1; omega))
 obtain ⟨ua694_2, uc694_2, ua694_5, uc694_5, rfl, ul694_2, ge694_2, ul694_5, ge694_5⟩ := k31_openF hMe694
 have hv694_2 := hcc694 2 _ rfl
 rw [add_field _ _ 2 (by omega)] at hv694_2
 replace hv694_2 := Option.some.inj (hv694_2.symm.trans hx694_2)
 injection hv694_2 with hva_ hvn_ hvc_
 rw [hva_] at ge694_2
 rw [hvc_] at ul694_2
 have HL694_2 := Aside0.mk (show Kd.V (Kd.int .i64) 3 _ w.heap.size _ _ ((rd_T31 x5_1 x12_1).f1) from Kd.V_mk ul694_2 ge694_2)
 clear hva_ hvn_ hvc_ ge694_2 ul694_2
 have hv694_5 := hcc694 5 _ rfl
 rw [add_field _ _ 5 (by omega)] at hv694_5
 replace hv694_5 := Option.some.inj (hv694_5.symm.trans hx694_5)
 injection hv694_5 with hva_ hvn_ hvc_
 rw [hva_] at ge694_5
 rw [hvc_] at ul694_5
 have HL694_5 := Aside0.mk (show Kd.V (Kd.int .i64) 3 _ w.heap.size _ _ ((rd_T31 x5_1 x12_1).f4) from Kd.V_mk ul694_5 ge694_5)
 clear hva_ hvn_ hvc_ ge694_5 ul694_5
 clear hcc694 hce694
 have HR694_2 := Aside0.mk hi694_2
 have HC694_2 := Aside0.mk hl694_2
 clear hi694_2 hl694_2
 have HR694_5 := Aside0.mk hi694_5
 have HC694_5 := Aside0.mk hl694_5
 clear hi694_5 hl694_5
 replace p694 := eq_true p694
 replace q694 := eq_true q694
 have p14 : 0 ≤ (x12_1 : Int) := od
 have q14 : (x12_1 : Int) < ((x5_1.length : Int) : Int) := od
 obtain ⟨go14, co14, eo14, gb14, gl14, cl14, HG14⟩ := Kd.N_form HO_5.out (by omega)
 (first | cases eo14 | (injection eo14 with ea_ en_ ec_; (first | subst ea_ | (injection ea_ with ea_; subst ea_)); subst ec_; clear en_))
 have GB14 := Aside0.mk gb14
 have GG14 := Aside0.mk HG14
 clear gb14 gl14 HG14
 (first | simp only [add_plain] at hx693_0 | skip)
 (first | simp only [add_plain] at hx693_1 | skip)
 (first | simp only [add_plain] at hx693_2 | skip)
 (first | simp only [add_plain] at hx693_3 | skip)
 (first | simp only [add_plain] at hx693_4 | skip)
 (first | simp only [add_plain] at hx693_5 | skip)
 (first | simp only [add_plain] at hx694_0 | skip)
 (first | simp only [add_plain] at hx694_1 | skip)
 (first | simp only [add_plain] at hx694_2 | skip)
 (first | simp only [add_plain] at hx694_3 | skip)
 (first | simp only [add_plain] at hx694_4 | skip)
 (first | simp only [add_plain] at hx694_5 | skip)
 obtain ⟨ce14, hcl14, hM14, hcc14, hfr14⟩ := Kd.N_elem HO_5.out z31 (x12_1 : Int) p14 q14
 obtain ⟨ua14_2, uc14_2, ua14_5, uc14_5, rfl, ul14_2, ge14_2, ul14_5, ge14_5⟩ := k31_openF hM14
 have hx14_0 : World.cell? _ ⟨go14, (x12_1 : Int).toNat * 6, none⟩ = some (.int .u32 ((rd_T31 x5_1 x12_1).f0.f0)) := hcc14 0 _ rfl
 have hx14_1 : World.cell? _ ⟨go14, (x12_1 : Int).toNat * 6 + 1, none⟩ = some (.int .i64 ((rd_T31 x5_1 x12_1).f0.f1)) := hcc14 1 _ rfl
 have hx14_2 : World.cell? _ ⟨go14, (x12_1 : Int).toNat * 6 + 2, none⟩ = some (.slice ua14_2 ((rd_T31 x5_1 x12_1).f1).length uc14_2) := hcc14 2 _ rfl
 have hx14_3 : World.cell? _ ⟨go14, (x12_1 : Int).toNat * 6 + 3, none⟩ = some (.int .i64 ((rd_T31 x5_1 x12_1).f2)) := hcc14 3 _ rfl
 have hx14_4 : World.cell? _ ⟨go14, (x12_1 : Int).toNat * 6 + 4, none⟩ = some (.int .i64 ((rd_T31 x5_1 x12_1).f3)) := hcc14 4 _ rfl
 have hx14_5 : World.cell? _ ⟨go14, (x12_1 : Int).toNat * 6 + 5, none⟩ = some (.slice ua14_5 ((rd_T31 x5_1 x12_1).f4).length uc14_5) := hcc14 5 _ rfl
 have hf14_0 : World.frozen? _ ⟨go14, (x12_1 : Int).toNat * 6, none⟩ = false := hfr14 0
 have hf14_1 : World.frozen? _ ⟨go14, (x12_1 : Int).toNat * 6 + 1, none⟩ = false := hfr14 1
 have hf14_2 : World.frozen? _ ⟨go14, (x12_1 : Int).toNat * 6 + 2, none⟩ = false := hfr14 2
 have hf14_3 : World.frozen? _ ⟨go14, (x12_1 : Int).toNat * 6 + 3, none⟩ = false := hfr14 3
 have hf14_4 : World.frozen? _ ⟨go14, (x12_1 : Int).toNat * 6 + 4, none⟩ = false := hfr14 4
 have hf14_5 : World.frozen? _ ⟨go14, (x12_1 : Int).toNat * 6 + 5, none⟩ = false := hfr14 5
 clear hcl14 hcc14 hfr14 hM14
 replace p14 := eq_true p14
 replace q14 := eq_true q14
 have HX17 := Aside0.mk (show Kd.N k31 31 _ w.heap.size (fun k_ => (P0_ k_ ∨ w.heap.size ≤ k_)) (.slice (some ⟨go14, 0, none⟩) x5_1.length co5) x5_1 from (Kd.N_mono (HO_5.out) (fun k_ hk => hk)))
 obtain ⟨ce17, hcl17, hM17, hcc17, hfr17⟩ := Kd.N_elem HX17.out z31 (x12_1 : Int) (od) (by have h_ : (x12_1 : Int) < ((x5_1.length : Int) : Int) := od; first | exact h_ | (have e_ := (Kd.N_reads' HO_5.out).1; omega) | simpa using h_)
 obtain ⟨ua17_2, uc17_2, ua17_5, uc17_5, rfl, ul17_2, ge17_2, ul17_5, ge17_5⟩ := k31_openF hM17
 have HP17 := (Kd.N_seg HX17.out (x12_1 : Int) (od) (by have h_ : (x12_1 : Int) < ((x5_1.length : Int) : Int) := od; first | exact h_ | (have e_ := (Kd.N_reads' HO_5.out).1; omega) | simpa using h_) (seg := [.int .u32 ((rd_T31 x5_1 (ji10)).f0.f0), .int .i64 ((rd_T31 x5_1 (ji10)).f0.f1), .slice A693_2 ((rd_T31 x5_1 (ji10)).f1).length c693_2, .int .i64 ((rd_T31 x5_1 (ji10)).f2), .int .i64 ((rd_T31 x5_1 (ji10)).f3), .slice A693_5 ((rd_T31 x5_1 (ji10)).f4).length c693_5]) (j := 0) hcl17 hcc17 (show 6 ≤ 6 from by decide) (x' := (⟨(⟨(rd_T31 x5_1 (ji10)).f0.f0, (rd_T31 x5_1 (ji10)).f0.f1⟩ : S29), (rd_T31 x5_1 (ji10)).f1, (rd_T31 x5_1 (ji10)).f2, (rd_T31 x5_1 (ji10)).f3, (rd_T31 x5_1 (ji10)).f4⟩ : S31)) (k31_mkF _ _ (⟨(⟨(rd_T31 x5_1 (ji10)).f0.f0, (rd_T31 x5_1 (ji10)).f0.f1⟩ : S29), (rd_T31 x5_1 (ji10)).f1, (rd_T31 x5_1 (ji10)).f2, (rd_T31 x5_1 (ji10)).f3, (rd_T31 x5_1 (ji10)).f4⟩ : S31) (Kd.V_reads' (Kd.V_mono (ok' := (fun k_ => ((fun k_ => (P0_ k_ ∨ w.heap.size ≤ k_))) k_ ∧ k_ ≠ go14)) (HL693_2.out) (fun k_ hk => ⟨hk.1, fun e_ => (hk.2) (by rw [e_]; rfl)⟩))).2.1 (Kd.V_F (Kd.V_mono (ok' := (fun k_ => ((fun k_ => (P0_ k_ ∨ w.heap.size ≤ k_))) k_ ∧ k_ ≠ go14)) (HL693_2.out) (fun k_ hk => ⟨hk.1, fun e_ => (hk.2) (by rw [e_]; rfl)⟩))) (Kd.V_reads' (Kd.V_mono (ok' := (fun k_ => ((fun k_ => (P0_ k_ ∨ w.heap.size ≤ k_))) k_ ∧ k_ ≠ go14)) (HL693_5.out) (fun k_ hk => ⟨hk.1, fun e_ => (hk.2) (by rw [e_]; rfl)⟩))).2.1 (Kd.V_F (Kd.V_mono (ok' := (fun k_ => ((fun k_ => (P0_ k_ ∨ w.heap.size ≤ k_))) k_ ∧ k_ ≠ go14)) (HL693_5.out) (fun k_ hk => ⟨hk.1, fun e_ => (hk.2) (by rw [e_]; rfl)⟩)))) (fun _ hk => hk)).1
 rw [← Ny695.out] at HP17
 rw [show (x12_1 : Int).toNat * k31.sz + 0 = (x12_1 : Int).toNat * 6 from rfl] at HP17
 have HQ17 := Aside0.mk HP17
 clear hcl17 hcc17 hfr17 hM17 HP17
 have p15 : 0 ≤ ((ji10) : Int) := od
 have q15 : ((ji10) : Int) < ((x5_1.length : Int) : Int) := od
 obtain ⟨ce15, hcl15, hM15, hcc15, hfr15⟩ := Kd.N_elem HQ17.out z31 ((ji10) : Int) p15 q15
 obtain ⟨ua15_2, uc15_2, ua15_5, uc15_5, rfl, ul15_2, ge15_2, ul15_5, ge15_5⟩ := k31_openF hM15
 have hx15_0 : World.cell? _ ⟨go14, ((ji10) : Int).toNat * 6, none⟩ = some (.int .u32 ((rd_T31 y695 (ji10)).f0.f0)) := hcc15 0 _ rfl
 have hx15_1 : World.cell? _ ⟨go14, ((ji10) : Int).toNat * 6 + 1, none⟩ = some (.int .i64 ((rd_T31 y695 (ji10)).f0.f1)) := hcc15 1 _ rfl
 have hx15_2 : World.cell? _ ⟨go14, ((ji10) : Int).toNat * 6 + 2, none⟩ = some (.slice ua15_2 ((rd_T31 y695 (ji10)).f1).length uc15_2) := hcc15 2 _ rfl
 have hx15_3 : World.cell? _ ⟨go14, ((ji10) : Int).toNat * 6 + 3, none⟩ = some (.int .i64 ((rd_T31 y695 (ji10)).f2)) := hcc15 3 _ rfl
 have hx15_4 : World.cell? _ ⟨go14, ((ji10) : Int).toNat * 6 + 4, none⟩ = some (.int .i64 ((rd_T31 y695 (ji10)).f3)) := hcc15 4 _ rfl
 have hx15_5 : World.cell? _ ⟨go14, ((ji10) : Int).toNat * 6 + 5, none⟩ = some (.slice ua15_5 ((rd_T31 y695 (ji10)).f4).length uc15_5) := hcc15 5 _ rfl
 have hf15_0 : World.frozen? _ ⟨go14, ((ji10) : Int).toNat * 6, none⟩ = false := hfr15 0
 have hf15_1 : World.frozen? _ ⟨go14, ((ji10) : Int).toNat * 6 + 1, none⟩ = false := hfr15 1
 have hf15_2 : World.frozen? _ ⟨go14, ((ji10) : Int).toNat * 6 + 2, none⟩ = false := hfr15 2
 have hf15_3 : World.frozen? _ ⟨go14, ((ji10) : Int).toNat * 6 + 3, none⟩ = false := hfr15 3
 have hf15_4 : World.frozen? _ ⟨go14, ((ji10) : Int).toNat * 6 + 4, none⟩ = false := hfr15 4
 have hf15_5 : World.frozen? _ ⟨go14, ((ji10) : Int).toNat * 6 + 5, none⟩ = false := hfr15 5
 clear hcl15 hcc15 hfr15 hM15
 replace p15 := eq_true p15
 replace q15 := eq_true q15
 have HX18 := Aside0.mk (show Kd.N k31 31 _ w.heap.size (fun k_ => (P0_ k_ ∨ w.heap.size ≤ k_)) (.slice (some ⟨go14, 0, none⟩) x5_1.length co5) y695 from (Kd.N_mono (HQ17.out) (fun k_ hk => hk)))
 obtain ⟨ce18, hcl18, hM18, hcc18, hfr18⟩ := Kd.N_elem HX18.out z31 ((ji10) : Int) (od) (by have h_ : ((ji10) : Int) < ((x5_1.length : Int) : Int) := od; first | exact h_ | (have e_ := (Kd.N_reads' HO_5.out).1; omega) | simpa using h_)
 obtain ⟨ua18_2, uc18_2, ua18_5, uc18_5, rfl, ul18_2, ge18_2, ul18_5, ge18_5⟩ := k31_openF hM18
 have HP18 := (Kd.N_seg HX18.out ((ji10) : Int) (od) (by have h_ : ((ji10) : Int) < ((x5_1.length : Int) : Int) := od; first | exact h_ | (have e_ := (Kd.N_reads' HO_5.out).1; omega) | simpa using h_) (seg := [.int .u32 ((rd_T31 x5_1 x12_1).f0.f0), .int .i64 ((rd_T31 x5_1 x12_1).f0.f1), .slice A694_2 ((rd_T31 x5_1 x12_1).f1).length c694_2, .int .i64 ((rd_T31 x5_1 x12_1).f2), .int .i64 ((rd_T31 x5_1 x12_1).f3), .slice A694_5 ((rd_T31 x5_1 x12_1).f4).length c694_5]) (j := 0) hcl18 hcc18 (show 6 ≤ 6 from by decide) (x' := (⟨(⟨(rd_T31 x5_1 x12_1).f0.f0, (rd_T31 x5_1 x12_1).f0.f1⟩ : S29), (rd_T31 x5_1 x12_1).f1, (rd_T31 x5_1 x12_1).f2, (rd_T31 x5_1 x12_1).f3, (rd_T31 x5_1 x12_1).f4⟩ : S31)) (k31_mkF _ _ (⟨(⟨(rd_T31 x5_1 x12_1).f0.f0, (rd_T31 x5_1 x12_1).f0.f1⟩ : S29), (rd_T31 x5_1 x12_1).f1, (rd_T31 x5_1 x12_1).f2, (rd_T31 x5_1 x12_1).f3, (rd_T31 x5_1 x12_1).f4⟩ : S31) (Kd.V_reads' (Kd.V_far (p := ⟨go14, (x12_1 : Int).toNat * 6 + 5, none⟩) (Kd.V_far (p := ⟨go14, (x12_1 : Int).toNat * 6 + 4, none⟩) (Kd.V_far (p := ⟨go14, (x12_1 : Int).toNat * 6 + 3, none⟩) (Kd.V_far (p := ⟨go14, (x12_1 : Int).toNat * 6 + 2, none⟩) (Kd.V_far (p := ⟨go14, (x12_1 : Int).toNat * 6 + 1, none⟩) (Kd.V_far (p := ⟨go14, (x12_1 : Int).toNat * 6, none⟩) (Kd.V_mono (ok' := (fun k_ => ((fun k_ => (P0_ k_ ∨ w.heap.size ≤ k_))) k_ ∧ k_ ≠ go14)) (HL694_2.out) (fun k_ hk => ⟨hk.1, fun e_ => (hk.2) (by rw [e_]; rfl)⟩)) (fun _ hk => hk.2) (.int .u32 ((rd_T31 x5_1 (ji10)).f0.f0))) (fun _ hk => hk.2) (.int .i64 ((rd_T31 x5_1 (ji10)).f0.f1))) (fun _ hk => hk.2) (.slice A693_2 ((rd_T31 x5_1 (ji10)).f1).length c693_2)) (fun _ hk => hk.2) (.int .i64 ((rd_T31 x5_1 (ji10)).f2))) (fun _ hk => hk.2) (.int .i64 ((rd_T31 x5_1 (ji10)).f3))) (fun _ hk => hk.2) (.slice A693_5 ((rd_T31 x5_1 (ji10)).f4).length c693_5))).2.1 (Kd.V_F (Kd.V_far (p := ⟨go14, (x12_1 : Int).toNat * 6 + 5, none⟩) (Kd.V_far (p := ⟨go14, (x12_1 : Int).toNat * 6 + 4, none⟩) (Kd.V_far (p := ⟨go14, (x12_1 : Int).toNat * 6 + 3, none⟩) (Kd.V_far (p := ⟨go14, (x12_1 : Int).toNat * 6 + 2, none⟩) (Kd.V_far (p := ⟨go14, (x12_1 : Int).toNat * 6 + 1, none⟩) (Kd.V_far (p := ⟨go14, (x12_1 : Int).toNat * 6, none⟩) (Kd.V_mono (ok' := (fun k_ => ((fun k_ => (P0_ k_ ∨ w.heap.size ≤ k_))) k_ ∧ k_ ≠ go14)) (HL694_2.out) (fun k_ hk => ⟨hk.1, fun e_ => (hk.2) (by rw [e_]; rfl)⟩)) (fun _ hk => hk.2) (.int .u32 ((rd_T31 x5_1 (ji10)).f0.f0))) (fun _ hk => hk.2) (.int .i64 ((rd_T31 x5_1 (ji10)).f0.f1))) (fun _ hk => hk.2) (.slice A693_2 ((rd_T31 x5_1 (ji10)).f1).length c693_2)) (fun _ hk => hk.2) (.int .i64 ((rd_T31 x5_1 (ji10)).f2))) (fun _ hk => hk.2) (.int .i64 ((rd_T31 x5_1 (ji10)).f3))) (fun _ hk => hk.2) (.slice A693_5 ((rd_T31 x5_1 (ji10)).f4).length c693_5))) (Kd.V_reads' (Kd.V_far (p := ⟨go14, (x12_1 : Int).toNat * 6 + 5, none⟩) (Kd.V_far (p := ⟨go14, (x12_1 : Int).toNat * 6 + 4, none⟩) (Kd.V_far (p := ⟨go14, (x12_1 : Int).toNat * 6 + 3, none⟩) (Kd.V_far (p := ⟨go14, (x12_1 : Int).toNat * 6 + 2, none⟩) (Kd.V_far (p := ⟨go14, (x12_1 : Int).toNat * 6 + 1, none⟩) (Kd.V_far (p := ⟨go14, (x12_1 : Int).toNat * 6, none⟩) (Kd.V_mono (ok' := (fun k_ => ((fun k_ => (P0_ k_ ∨ w.heap.size ≤ k_))) k_ ∧ k_ ≠ go14)) (HL694_5.out) (fun k_ hk => ⟨hk.1, fun e_ => (hk.2) (by rw [e_]; rfl)⟩)) (fun _ hk => hk.2) (.int .u32 ((rd_T31 x5_1 (ji10)).f0.f0))) (fun _ hk => hk.2) (.int .i64 ((rd_T31 x5_1 (ji10)).f0.f1))) (fun _ hk => hk.2) (.slice A693_2 ((rd_T31 x5_1 (ji10)).f1).length c693_2)) (fun _ hk => hk.2) (.int .i64 ((rd_T31 x5_1 (ji10)).f2))) (fun _ hk => hk.2) (.int .i64 ((rd_T31 x5_1 (ji10)).f3))) (fun _ hk => hk.2) (.slice A693_5 ((rd_T31 x5_1 (ji10)).f4).length c693_5))).2.1 (Kd.V_F (Kd.V_far (p := ⟨go14, (x12_1 : Int).toNat * 6 + 5, none⟩) (Kd.V_far (p := ⟨go14, (x12_1 : Int).toNat * 6 + 4, none⟩) (Kd.V_far (p := ⟨go14, (x12_1 : Int).toNat * 6 + 3, none⟩) (Kd.V_far (p := ⟨go14, (x12_1 : Int).toNat * 6 + 2, none⟩) (Kd.V_far (p := ⟨go14, (x12_1 : Int).toNat * 6 + 1, none⟩) (Kd.V_far (p := ⟨go14, (x12_1 : Int).toNat * 6, none⟩) (Kd.V_mono (ok' := (fun k_ => ((fun k_ => (P0_ k_ ∨ w.heap.size ≤ k_))) k_ ∧ k_ ≠ go14)) (HL694_5.out) (fun k_ hk => ⟨hk.1, fun e_ => (hk.2) (by rw [e_]; rfl)⟩)) (fun _ hk => hk.2) (.int .u32 ((rd_T31 x5_1 (ji10)).f0.f0))) (fun _ hk => hk.2) (.int .i64 ((rd_T31 x5_1 (ji10)).f0.f1))) (fun _ hk => hk.2) (.slice A693_2 ((rd_T31 x5_1 (ji10)).f1).length c693_2)) (fun _ hk => hk.2) (.int .i64 ((rd_T31 x5_1 (ji10)).f2))) (fun _ hk => hk.2) (.int .i64 ((rd_T31 x5_1 (ji10)).f3))) (fun _ hk => hk.2) (.slice A693_5 ((rd_T31 x5_1 (ji10)).f4).length c693_5)))) (fun _ hk => hk)).1
 rw [← Ny696.out] at HP18
 rw [show (ji10 : Int).toNat * k31.sz + 0 = (ji10 : Int).toNat * 6 from rfl] at HP18
 have HQ18 := Aside0.mk HP18
 clear hcl18 hcc18 hfr18 hM18 HP18
 refine start_ (n := 16) (S := fun w' => w'.cell? ⟨go14, (((ji10)).toNat * 6), none⟩ = some (.int .u32 ((rd_T31 x5_1 (ji10)).f0.f0)) ∧ w'.cell? ⟨go14, (((ji10)).toNat * 6) + 1, none⟩ = some (.int .i64 ((rd_T31 x5_1 (ji10)).f0.f1)) ∧ w'.cell? ⟨go14, (((ji10)).toNat * 6) + 2, none⟩ = some (.slice A693_2 ((rd_T31 x5_1 (ji10)).f1).length c693_2) ∧ w'.cell? ⟨go14, (((ji10)).toNat * 6) + 3, none⟩ = some (.int .i64 ((rd_T31 x5_1 (ji10)).f2)) ∧ w'.cell? ⟨go14, (((ji10)).toNat * 6) + 4, none⟩ = some (.int .i64 ((rd_T31 x5_1 (ji10)).f3)) ∧ w'.cell? ⟨go14, (((ji10)).toNat * 6) + 5, none⟩ = some (.slice A693_5 ((rd_T31 x5_1 (ji10)).f4).length c693_5) ∧ w'.cell? ⟨go14, ((x12_1).toNat * 6), none⟩ = some (.int .u32 ((rd_T31 x5_1 x12_1).f0.f0)) ∧ w'.cell? ⟨go14, ((x12_1).toNat * 6) + 1, none⟩ = some (.int .i64 ((rd_T31 x5_1 x12_1).f0.f1)) ∧ w'.cell? ⟨go14, ((x12_1).toNat * 6) + 2, none⟩ = some (.slice A694_2 ((rd_T31 x5_1 x12_1).f1).length c694_2) ∧ w'.cell? ⟨go14, ((x12_1).toNat * 6) + 3, none⟩ = some (.int .i64 ((rd_T31 x5_1 x12_1).f2)) ∧ w'.cell? ⟨go14, ((x12_1).toNat * 6) + 4, none⟩ = some (.int .i64 ((rd_T31 x5_1 x12_1).f3)) ∧ w'.cell? ⟨go14, ((x12_1).toNat * 6) + 5, none⟩ = some (.slice A694_5 ((rd_T31 x5_1 x12_1).f4).length c694_5)) (ds := [13, 15]) (bm 16 0) (by kernel_rfl) rfl rfl ⟨hx693_0, hx693_1, hx693_2, hx693_3, hx693_4, hx693_5, hx694_0, hx694_1, hx694_2, hx694_3, hx694_4, hx694_5⟩ (fun hHeld => ?_); refine with_tabW g1_.tab7 g1_.bits7 (fun HT_ HW_ => ?_)
 generalize wr.drew = w16 at HO_5 HB GG14 HL693_2 HL693_5 HL694_2 HL694_5 HQ17 HQ18 HR693_2 HR693_5 HR694_2 HR694_5 hf14_0 hf14_1 hf14_2 hf14_3 hf14_4 hf14_5 hf15_0 hf15_1 hf15_2 hf15_3 hf15_4 hf15_5 hx14_0 hx14_1 hx14_2 hx14_3 hx14_4 hx14_5 hx15_0 hx15_1 hx15_2 hx15_3 hx15_4 hx15_5 hx693_0 hx693_1 hx693_2 hx693_3 hx693_4 hx693_5 hx694_0 hx694_1 hx694_2 hx694_3 hx694_4 hx694_5 hHeld             ⊢
 refine pu 0 (some 33) (bm 16 1) HT_ ?_
 refine pu 1 (some 34) (bm 16 3) HT_ ?_
 refine pu 2 (some 35) (bm 16 7) HT_ ?_
 refine pu 3 (some 36) (bm 16 15) HT_ ?_
 refine pu 4 (some 37) (bm 16 31) HT_ ?_
 refine pu 5 (some 38) (bm 16 63) HT_ ?_
 refine pu 6 (some 39) (bm 16 127) HT_ ?_
 refine pu 8 (some 41) (bm 16 383) HT_ ?_
 refine pu 9 (some 42) (bm 16 895) HT_ ?_
 refine pu 10 (some 43) (bm 16 1919) HT_ ?_
 refine tk 7 (some 40) (bm 16 2047) HT_ HW_ hHeld ?_
 refine tk 11 (some 44) (bm 16 4095) HT_ HW_ hHeld ?_
 refine pu 12 (some 45) (bm 16 8191) HT_ ?_
 refine last_ (i := 13) (N := none) (bm 16 16383) rfl rfl (one_of HT_.out (by kernel_rfl)) (by decide) (fun K hK => ?_)
 refine skip_ (w1 := ?_) (by rfl) rfl ?_ ?_
 rotate_left
 · go_simp; rfl
 refine hK.out _ _ ?_
 clear hK K
 rw [g1_.sgW]
 have HB17 := Aside0.mk (g1_.sgB GB14.out [.int .u32 ((rd_T31 x5_1 (ji10)).f0.f0), .int .i64 ((rd_T31 x5_1 (ji10)).f0.f1), .slice A693_2 ((rd_T31 x5_1 (ji10)).f1).length c693_2, .int .i64 ((rd_T31 x5_1 (ji10)).f2), .int .i64 ((rd_T31 x5_1 (ji10)).f3), .slice A693_5 ((rd_T31 x5_1 (ji10)).f4).length c693_5] ((x12_1 : Int).toNat * 6) HB.out)
 generalize World.setCells w16 go14 ((x12_1 : Int).toNat * 6) [.int .u32 ((rd_T31 x5_1 (ji10)).f0.f0), .int .i64 ((rd_T31 x5_1 (ji10)).f0.f1), .slice A693_2 ((rd_T31 x5_1 (ji10)).f1).length c693_2, .int .i64 ((rd_T31 x5_1 (ji10)).f2), .int .i64 ((rd_T31 x5_1 (ji10)).f3), .slice A693_5 ((rd_T31 x5_1 (ji10)).f4).length c693_5] = w17 at HB17 HQ17 HQ18 hx15_0 hx15_1 hx15_2 hx15_3 hx15_4 hx15_5 hf15_0 hf15_1 hf15_2 hf15_3 hf15_4 hf15_5 ⊢
 refine pu 14 (some 46) (bm 16 32767) HT_ ?_
 refine last_ (i := 15) (N := none) (bm 16 65535) rfl rfl (one_of HT_.out (by kernel_rfl)) (by decide) (fun K hK => ?_)
 refine skip_ (w1 := ?_) (by rfl) rfl ?_ ?_
 rotate_left
 · go_simp; rfl
 refine hK.out _ _ ?_
 clear hK K
 rw [g1_.sgW]
 refine done_ (done_of HT_.out (by kernel_rfl)) ?_
 try go_wp2
 (try simp only [← hl5_1])
 go_roundg k1
 case measure => have := HK1.out; omega
 case rel => exact ⟨(y696), (wrap64 (x12_1 + 1)), zR, H', ⟨by have := HK1.out; omega⟩, ⟨by (try simp only [hl5_1]); (with_reducible repeat (first | apply Kd.N_alloc | apply Kd.N_drewN | apply Kd.N_drew)); exact HQ18.out⟩, ⟨g1_.sgB GB14.out _ _ HB17.out⟩⟩
/-! ### g11_: function 10 -/
def g11_.l0 : Nat → List Int → List Int → Int → Int → Option (Bool)
  | 0, _, _, _, _ => none
  | k + 1, x0, x1, x12, x13 => if x13 < x12 then (if 0 ≤ x13 then (if x13 < (x0.length : Int) then (if x13 < (x1.length : Int) then (if (rd x0 x13) = (rd x1 x13) then (g11_.l0 k x0 x1 x12 (wrap64 (x13 + 1))) else (some false)) else (none)) else (none)) else (none)) else (some true)
def g11_.f (k : Nat) (l0 : List Int) (l1 : List Int) : Option (Bool) := if (l0.length : Int) = (l1.length : Int) then (g11_.l0 k l0 l1 (l0.length : Int) 0) else (some false)
theorem g11_.mono_l : ∀ k, (∀ y0 y1 y2 y3, LeO (g11_.l0 k y0 y1 y2 y3) (g11_.l0 (k + 1) y0 y1 y2 y3))
  | 0 => fun _ _ _ _ r h => by simp [g11_.l0] at h
  | k + 1 => by
    have ih0 := g11_.mono_l k
    · intro y0 y1 y2 y3
      unfold g11_.l0
      repeat' (with_reducible first | exact ih0 _ _ _ _ | exact LeO.refl _ | exact LeO.none _ | refine LeO.ite ?_ ?_ | refine LeO.bind ?_ (fun _ => ?_))
theorem g11_.mono : ∀ a0 a1 k, LeO (g11_.f k a0 a1) (g11_.f (k + 1) a0 a1) := by
  intro a0 a1 k
  have ih0 := g11_.mono_l k
  unfold g11_.f
  repeat' (with_reducible first | exact ih0 _ _ _ _ | exact LeO.refl _ | exact LeO.none _ | refine LeO.ite ?_ ?_ | refine LeO.bind ?_ (fun _ => ?_))
set_option maxHeartbeats 8000000 in
set_option maxRecDepth 100000 in
theorem g11_.calls (k : Nat) (A0 : Option Addr) (c0 : Nat) (l0 : List Int) (A1 : Option Addr) (c1 : Nat) (l1 : List Int) (r : Bool) (w : World) (hr0 : Kd.C (Kd.int .i64) w A0 l0.length l0) (hc0 : l0.length ≤ c0) (hr1 : Kd.C (Kd.int .i64) w A1 l1.length l1) (hc1 : l1.length ≤ c1) (h : g11_.f k l0 l1 = some r) :
 Calls Tryd.prog 10 #[.slice A0 l0.length c0, .slice A1 l1.length c1] w fun e w' => e = .returned (.bool r) ∧ Drawn0 w w' := by
 have hu3 := Tryd.underlying3
 have HR0 := Aside0.mk hr0
 have HC0 := Aside0.mk hc0
 clear hr0 hc0
 have HR1 := Aside0.mk hr1
 have HC1 := Aside0.mk hc1
 clear hr1 hc1
 have H : (if (l0.length : Int) = (l1.length : Int) then (g11_.l0 k l0 l1 (l0.length : Int) 0) else (some false)) = some r := h
 clear h
 by_cases c3 : (l0.length : Int) = (l1.length : Int)
 rotate_left
 ·
  rw [if_neg c3] at H
  have c3b0 : ((l0.length : Int) == (l1.length : Int)) = false := beq_eq_false_iff_ne.mpr c3
  have c3b1 : ((l0.length : Int) != (l1.length : Int)) = true := bne_iff_ne.mpr c3
  have c3b2 : (l0.length == l1.length) = false := by first | simpa using c3 | (simp at c3 ⊢; omega)
  obtain rfl := Option.some.inj H
  go_enter Tryd.func10, Tryd.ntmps10
  go_wp2
  repeat (go_quiet (fail); try go_wp2)
  go_ret
  exact ⟨zR, by repeat (first | exact Drawn0.refl _ | apply Drawn0.step)⟩
 rw [if_pos c3] at H
 have c3b0 : ((l0.length : Int) == (l1.length : Int)) = true := beq_iff_eq.mpr c3
 have c3b1 : ((l0.length : Int) != (l1.length : Int)) = false := bne_eq_false_iff_eq.mpr c3
 have c3b2 : (l0.length == l1.length) = true := by first | simpa using c3 | (simp at c3 ⊢; omega)
 clear c3
 have H' := Aside0.mk H
 clear H
 go_enter Tryd.func10, Tryd.ntmps10
 go_wp2
 repeat (go_quiet (fail); try go_wp2)
 go_loopg [13] k (fun kq v13 w' => ∃ (x13_1 : Int), v13 = .int .i64 x13_1 ∧ Aside0 (g11_.l0 kq l0 l1 (l0.length : Int) x13_1 = some r) ∧ Aside0 (kq ≤ k) ∧ Drawn0 w w')
 case atStart => exact ⟨(0), zR, H', ⟨Nat.le_refl _⟩, by repeat (first | exact Drawn0.refl _ | apply Drawn0.step)⟩
 clear H'
 try clear c1
 try clear p2
 try clear c3
 try clear c3b0
 try clear c3b1
 try clear c3b2
 obtain ⟨x13_1, rfl, HA, HK1, ⟨m1, rfl⟩⟩ := hrel
 rcases gk with _ | k1
 · exact absurd HA.out (by simp [g11_.l0])
 have H := HA.out
 clear HA
 simp only [g11_.l0] at H
 by_cases c4 : x13_1 < (l0.length : Int)
 rotate_left
 ·
  rw [if_neg c4] at H
  have c4b0 : decide (x13_1 < (l0.length : Int)) = false := decide_eq_false c4
  clear c4
  obtain rfl := Option.some.inj H
  go_wp2
  repeat (go_quiet (fail); try go_wp2)
  go_ret
  exact ⟨zR, by repeat (first | exact Drawn0.refl _ | apply Drawn0.step)⟩
 rw [if_pos c4] at H
 have c4b0 : decide (x13_1 < (l0.length : Int)) = true := decide_eq_true c4
 clear c4
 by_cases c5 : 0 ≤ x13_1
 rotate_left
 · rw [if_neg c5] at H; exact absurd H (by simp)
 rw [if_pos c5] at H
 have c5b0 : decide (0 ≤ x13_1) = true := decide_eq_true c5
 clear c5
 by_cases c6 : x13_1 < (l0.length : Int)
 rotate_left
 · rw [if_neg c6] at H; exact absurd H (by simp)
 rw [if_pos c6] at H
 have c6b0 : decide (x13_1 < (l0.length : Int)) = true := decide_eq_true c6
 clear c6
 by_cases c7 : x13_1 < (l1.length : Int)
 rotate_left
 · rw [if_neg c7] at H; exact absurd H (by simp)
 rw [if_pos c7] at H
 have c7b0 : decide (x13_1 < (l1.length : Int)) = true := decide_eq_true c7
 clear c7
 by_cases c8 : (rd l0 x13_1) = (rd l1 x13_1)
 rotate_left
 ·
  rw [if_neg c8] at H
  have c8b0 : ((rd l0 x13_1) == (rd l1 x13_1)) = false := beq_eq_false_iff_ne.mpr c8
  have c8b1 : ((rd l0 x13_1) != (rd l1 x13_1)) = true := bne_iff_ne.mpr c8
  obtain rfl := Option.some.inj H
  have p712 : 0 ≤ (x13_1 : Int) := od
  have q712 : x13_1 < (l0.length : Int) := od
  obtain ⟨ad712, e712, hx712_0⟩ := Kd.at_int HR0.out x13_1 p712 q712
  cases e712
  replace p712 := eq_true p712
  replace q712 := eq_true q712
  have p713 : 0 ≤ (x13_1 : Int) := od
  have q713 : x13_1 < (l1.length : Int) := od
  obtain ⟨ad713, e713, hx713_0⟩ := Kd.at_int HR1.out x13_1 p713 q713
  cases e713
  replace p713 := eq_true p713
  replace q713 := eq_true q713
  go_wp2
  repeat (go_quiet (fail); try go_wp2)
  go_ret
  exact ⟨zR, by repeat (first | exact Drawn0.refl _ | apply Drawn0.step)⟩
 rw [if_pos c8] at H
 have c8b0 : ((rd l0 x13_1) == (rd l1 x13_1)) = true := beq_iff_eq.mpr c8
 have c8b1 : ((rd l0 x13_1) != (rd l1 x13_1)) = false := bne_eq_false_iff_eq.mpr c8
 clear c8
 have H' := Aside0.mk H
 clear H
 have p712 : 0 ≤ (x13_1 : Int) := od
 have q712 : x13_1 < (l0.length : Int) := od
 obtain ⟨ad712, e712, hx712_0⟩ := Kd.at_int HR0.out x13_1 p712 q712
 cases e712
 replace p712 := eq_true p712
 replace q712 := eq_true q712
 have p713 : 0 ≤ (x13_1 : Int) := od
 have q713 : x13_1 < (l1.length : Int) := od
 obtain ⟨ad713, e713, hx713_0⟩ := Kd.at_int HR1.out x13_1 p713 q713
 cases e713
 replace p713 := eq_true p713
 replace q713 := eq_true q713
 go_wp2
 repeat (go_quiet (fail); try go_wp2)
 go_roundg k1
 case measure => have := HK1.out; omega
 case rel => exact ⟨(wrap64 (x13_1 + 1)), zR, H', ⟨by have := HK1.out; omega⟩, by repeat (first | exact Drawn0.refl _ | apply Drawn0.step)⟩
end Go.Proofs.YtplcdbhklepkgaaDoor.BO
