-- Made by gen.py, a program of this session's, over the kit's print.
import Derived.Test.YtplcdbhklepkgaaVValleyShort
import Derived.Test.YtplcdbhklepkgaaVValleyBSx0
import Derived.Test.YtplcdbhklepkgaaVValleyBSx3
import Derived.Test.YtplcdbhklepkgaaVValleyBSx4
import Derived.Test.YtplcdbhklepkgaaVValleyBSx7
import Derived.Test.YtplcdbhklepkgaaVValleyExtTies
namespace Go.Proofs.Ytplcdbhklepkgaa.BS
open Go.RowKit Go.Proofs.YtplcdbhklepkgaaW.PrintWords Go.Proofs.YtplcdbhklepkgaaW.PrintLast Go.Proofs.YtplcdbhklepkgaaW.PrintMore Go.Proofs.Ytplcdbhklepkgaa.GenWords
attribute [local go_sem] max2_int min2_int max_two min_two max_three min_three max_four min_four   -- for this text's walks alone
set_option linter.unusedVariables false
set_option linter.unusedSimpArgs false

/-! ### best_round: function 29 -/
def best_round.l0 : Nat → Int → List (S52) → List (S52) → Int → Int → List S64 → Option ((List (S52)))
  | 0, _, _, _, _, _, _ => none
  | k + 1, x1, x2, x7, x13, x14, x232000 => if x14 < x13 then (if x14 = x1 then (if 0 ≤ x14 then (if x14 < (x7.length : Int) then (best_round.l0 k x1 x2 (x7.set (x14 : Int).toNat (⟨(([x1] : List Int))⟩ : S52)) x13 (wrap64 (x14 + 1)) x232000) else (none)) else (none)) else ((best_chosen.f k x232000 x14 x2).bind fun t239 => (if 0 ≤ x14 then (if x14 < (x7.length : Int) then (best_round.l0 k x1 x2 (x7.set (x14 : Int).toNat (⟨t239⟩ : S52)) x13 (wrap64 (x14 + 1)) x232000) else (none)) else (none)))) else (some x7)
def best_round.f (k : Nat) (a0_0 : List S64) (a1 : Int) (l2 : List (S52)) : Option ((List (S52))) := if 0 ≤ (l2.length : Int) then (if ((l2.length : Int) : Int).toNat ≤ 11728124029610 then (best_round.l0 k a1 l2 (List.replicate ((l2.length : Int) : Int).toNat z52) (l2.length : Int) 0 a0_0) else (none)) else (none)
theorem best_round.mono_l : ∀ k, (∀ y0 y1 y2 y3 y4 y5, LeO (best_round.l0 k y0 y1 y2 y3 y4 y5) (best_round.l0 (k + 1) y0 y1 y2 y3 y4 y5))
  | 0 => fun _ _ _ _ _ _ r h => by simp [best_round.l0] at h
  | k + 1 => by
    have ih0 := best_round.mono_l k
    · intro y0 y1 y2 y3 y4 y5
      unfold best_round.l0
      repeat' (with_reducible first | exact ih0 _ _ _ _ _ _ | exact best_chosen.mono _ _ _ _ | exact LeO.refl _ | exact LeO.none _ | refine LeO.ite ?_ ?_ | refine LeO.bind ?_ (fun _ => ?_))
theorem best_round.mono : ∀ a0 a1 a2 k, LeO (best_round.f k a0 a1 a2) (best_round.f (k + 1) a0 a1 a2) := by
  intro a0 a1 a2 k
  have ih0 := best_round.mono_l k
  unfold best_round.f
  repeat' (with_reducible first | exact ih0 _ _ _ _ _ _ | exact best_chosen.mono _ _ _ _ | exact LeO.refl _ | exact LeO.none _ | refine LeO.ite ?_ ?_ | refine LeO.bind ?_ (fun _ => ?_))
set_option maxHeartbeats 8000000 in
set_option maxRecDepth 100000 in
theorem best_round.calls (k : Nat) (gc0_0 : Nat) (a0_0 : List S64) (a1 : Int) (A2 : Option Addr) (c2 : Nat) (l2 : List (S52)) (r : List (S52)) (w : World) (hcap0_0 : w.heap[gc0_0]? = some (.cells (ag66 a0_0) 66 (0, 0))) (hr2 : Kd.C k52 w A2 l2.length l2) (hc2 : l2.length ≤ c2) (h : best_round.f k a0_0 a1 l2 = some r) :
 Calls Try.prog 29 #[.pointer (some ⟨gc0_0, 0, none⟩), .int .i64 a1, .slice A2 l2.length c2] w fun e w' => ∃ v0_ : Value, e = .returned (v0_) ∧ Kd.S k52 52 w' w.heap.size (fun _ => True) v0_ r ∧ Below w.heap.size w w' := by
 have hu52 := Try.underlying52
 have HR2 := Aside0.mk hr2
 have HC2 := Aside0.mk hc2
 clear hr2 hc2
 have BK231 := Aside0.mk hcap0_0
 clear hcap0_0
 have HB := Aside0.mk (Below.refl w.heap.size w)
 have H : (if 0 ≤ (l2.length : Int) then (if ((l2.length : Int) : Int).toNat ≤ 11728124029610 then (best_round.l0 k a1 l2 (List.replicate ((l2.length : Int) : Int).toNat z52) (l2.length : Int) 0 a0_0) else (none)) else (none)) = some r := h
 clear h
 by_cases c4 : 0 ≤ (l2.length : Int)
 rotate_left
 · rw [if_neg c4] at H; exact absurd H (by simp)
 rw [if_pos c4] at H
 have c4b0 := eq_true c4
 have c4b1 : decide (0 ≤ (l2.length : Int)) = true := decide_eq_true c4
 clear c4
 by_cases c5 : ((l2.length : Int) : Int).toNat ≤ 11728124029610
 rotate_left
 · rw [if_neg c5] at H; exact absurd H (by simp)
 rw [if_pos c5] at H
 have c5b0 := eq_true c5
 have c5b1 : decide (((l2.length : Int) : Int).toNat ≤ 11728124029610) = true := decide_eq_true c5
 clear c5
 obtain ⟨y232, hy232⟩ : ∃ y_ : List (S52), y_ = (List.replicate ((l2.length : Int) : Int).toNat z52) := ⟨_, rfl⟩
 replace H : (best_round.l0 k a1 l2 y232 (l2.length : Int) 0 a0_0) = some r := by first | (rw [hy232]; with_reducible exact H) | (have H2_ := (Option.bind_some _ _).symm.trans H; rw [hy232]; with_reducible exact H2_) | (have H2_ := (Option.bind_some _ _).symm.trans H; with_reducible exact H2_) | with_reducible exact H | (rw [hy232]; exact H) | exact H
 have Ny232 := Aside0.mk hy232
 clear hy232
 have H' := Aside0.mk H
 clear H
 go_enter Try.func29, Try.ntmps29
 go_wp2_with (first | ((with_reducible refine gate_dst (N := 11) rfl ?_); refine Kd.S_make k52 _ 52 rfl (N := 11) rfl 43 _ _ rfl (l2.length : Int) rfl rfl Try.underlying43 (.agg #[(.slice none 0 0)]) 24 info52 rfl (by decide) (by omega) z52 (ok := fun _ => True) (okp := fun _ => True) (k52_mkM _ _ _ z52 (Kd.R_nil _ _ _ _ _)) (fun _ hk => hk) trivial (od) (Nat.le_trans (Nat.mul_le_mul_right _ (od : (l2.length : Int).toNat ≤ 11728124029610)) (by omega)) (Below.refl _ _) (Nat.le_refl _) ?_; intro v233 w6 ho7 hb hg_ hnew_; clear hg_ hnew_; (first | rw [← Ny232.out] at ho7 | (simp only [Int.reduceToNat] at ho7; rw [← Ny232.out] at ho7)); have n0_ := Aside0.mk (Kd.S_lower ho7 (below_size zB)); have n1_ := Aside0.mk (blk_below (g := gc0_0) (o := .cells (ag66 a0_0) 66 (0, 0)) (zK BK231) hb); have n2_ := Aside0.mk (below_step zB hb); clear BK231; clear HB; have HO234 := n0_; have BK231 := n1_; have HB := n2_; clear n0_ n1_ n2_; clear hb ho7))
 go_loopg [14] k (fun kq v14 w' => ∃ (x7_1 : List (S52)) (x14_1 : Int), v14 = .int .i64 x14_1 ∧ Aside0 (best_round.l0 kq a1 l2 x7_1 (l2.length : Int) x14_1 a0_0 = some r) ∧ Aside0 (kq ≤ k) ∧ Aside0 (Kd.S k52 52 w' w.heap.size (fun _ => True) v233 x7_1) ∧ Aside0 (w'.heap[gc0_0]? = some (.cells (ag66 a0_0) 66 (0, 0))) ∧ Aside0 (Below w.heap.size w w'))
 case atStart => exact ⟨(y232), (0), zR, H', ⟨Nat.le_refl _⟩, ⟨zS HO234⟩, ⟨zK BK231⟩, ⟨zB⟩⟩
 clear H'
 try clear c2
 try clear p2
 try clear c4
 try clear c4b0
 try clear c4b1
 try clear c5
 try clear c5b0
 try clear c5b1
 obtain ⟨x7_1, x14_1, rfl, HA, HK1, HO_7, BK231, HB⟩ := hrel
 rcases gk with _ | k1
 · exact absurd HA.out (by simp [best_round.l0])
 have H := HA.out
 clear HA
 simp only [best_round.l0] at H
 by_cases c8 : x14_1 < (l2.length : Int)
 rotate_left
 ·
  rw [if_neg c8] at H
  have c8b0 : decide (x14_1 < (l2.length : Int)) = false := decide_eq_false c8
  clear c8
  obtain rfl := Option.some.inj H
  go_wp2
  go_ret
  exact ⟨_, zE, by (with_reducible repeat (first | apply Kd.S_alloc | apply Kd.S_drewN | apply Kd.S_drew)); exact HO_7.out, zB⟩
 rw [if_pos c8] at H
 have c8b0 : decide (x14_1 < (l2.length : Int)) = true := decide_eq_true c8
 clear c8
 by_cases c9 : x14_1 = a1
 ·
  rw [if_pos c9] at H
  have c9b0 : (x14_1 == a1) = true := beq_iff_eq.mpr c9
  have c9b1 : (x14_1 != a1) = false := bne_eq_false_iff_eq.mpr c9
  clear c9
  obtain ⟨y235, hy235⟩ : ∃ y_ : List Int, y_ = (([a1] : List Int)) := ⟨_, rfl⟩
  replace H : (if 0 ≤ x14_1 then (if x14_1 < (x7_1.length : Int) then (best_round.l0 k1 a1 l2 (x7_1.set (x14_1 : Int).toNat (⟨y235⟩ : S52)) (l2.length : Int) (wrap64 (x14_1 + 1)) a0_0) else (none)) else (none)) = some r := by first | (rw [hy235]; with_reducible exact H) | (have H2_ := (Option.bind_some _ _).symm.trans H; rw [hy235]; with_reducible exact H2_) | (have H2_ := (Option.bind_some _ _).symm.trans H; with_reducible exact H2_) | with_reducible exact H | (rw [hy235]; exact H) | exact H
  have Ny235 := Aside0.mk hy235
  clear hy235
  by_cases c10 : 0 ≤ x14_1
  rotate_left
  · rw [if_neg c10] at H; exact absurd H (by simp)
  rw [if_pos c10] at H
  have c10b0 : decide (0 ≤ x14_1) = true := decide_eq_true c10
  clear c10
  by_cases c11 : x14_1 < (x7_1.length : Int)
  rotate_left
  · rw [if_neg c11] at H; exact absurd H (by simp)
  rw [if_pos c11] at H
  have c11b0 : decide (x14_1 < (x7_1.length : Int)) = true := decide_eq_true c11
  clear c11
  obtain ⟨y238, hy238⟩ : ∃ y_ : List (S52), y_ = (x7_1.set (x14_1 : Int).toNat (⟨y235⟩ : S52)) := ⟨_, rfl⟩
  replace H : (best_round.l0 k1 a1 l2 y238 (l2.length : Int) (wrap64 (x14_1 + 1)) a0_0) = some r := by first | (rw [hy238]; with_reducible exact H) | (have H2_ := (Option.bind_some _ _).symm.trans H; rw [hy238]; with_reducible exact H2_) | (have H2_ := (Option.bind_some _ _).symm.trans H; with_reducible exact H2_) | with_reducible exact H | (rw [hy238]; exact H) | exact H
  have Ny238 := Aside0.mk hy238
  clear hy238
  have H' := Aside0.mk H
  clear H
  go_wp2_with (first | ((with_reducible refine gate_dst (N := 23) rfl ?_); refine Kd.R_lit (Kd.int .i64) _ 3 ?hg (N := 23) ?hd (xs := ([a1] : List Int)) (inner := [.int .i64 a1]) (ok := fun _ => True) (okp := fun _ => True) ?hr ?hp (fun _ hk => hk) trivial (Below.refl _ _) (Nat.le_refl _) (by simp) ?_; (case hd => rfl); (case hg => rfl); (case hr => first | (go_simp; done) | (go_simp; rfl)); (case hp => exact (Reps.one (show Kd.M (Kd.int .i64) _ _ _ a1 [.int .i64 a1] from rfl) (Reps.none _ _))); intro v236 w13 ho14 hb hg_ hnew_; clear hg_ hnew_; (first | rw [← Ny235.out] at ho14 | (simp only [Int.reduceToNat] at ho14; rw [← Ny235.out] at ho14)); have n0_ := Aside0.mk (Kd.S_elder' (zS HO_7) (Kd.R_base ho14) hb); have n1_ := Aside0.mk (Kd.R_lower ho14 (below_size zB)); have n2_ := Aside0.mk (blk_below (g := gc0_0) (o := .cells (ag66 a0_0) 66 (0, 0)) (zK BK231) hb); have n3_ := Aside0.mk (below_step zB hb); clear HO_7; clear BK231; clear HB; have HO_7 := n0_; have HO237 := n1_; have BK231 := n2_; have HB := n3_; clear n0_ n1_ n2_ n3_; clear hb ho14; obtain ⟨Ao15, co15, eo15⟩ := Kd.R_slice HO237.out; subst eo15; have p12 : 0 ≤ (x14_1 : Int) := od; have q12 : (x14_1 : Int) < ((x7_1.length : Int) : Int) := od; obtain ⟨go12, co12, eo12, gb12, gl12, cl12, HG12⟩ := Kd.S_form HO_7.out (by omega); (first | cases eo12 | (injection eo12 with ea_ en_ ec_; (first | subst ea_ | (injection ea_ with ea_; subst ea_)); subst ec_; clear en_)); have GB12 := Aside0.mk gb12; have GG12 := Aside0.mk HG12; clear gb12 gl12 HG12; obtain ⟨_, ce12, hcl12, hM12, hcc12, hfr12, _, _⟩ := Kd.S_elem HO_7.out z52 (x14_1 : Int) p12 q12; obtain ⟨ve12_0, rfl, ge12_0⟩ := k52_openM hM12; have hx12_0 := hcc12 0 _ rfl; have hf12_0 := hfr12 0; (try simp only [show (k52).sz = 1 from rfl, Nat.mul_one, Nat.add_zero] at hx12_0); (try simp only [show (k52).sz = 1 from rfl, Nat.mul_one, Nat.add_zero] at hf12_0); clear hcl12 hcc12 hfr12 hM12; replace p12 := eq_true p12; replace q12 := eq_true q12; have n_ := Aside0.mk (Kd.S_mono (ok' := (fun k_ => some k_ ≠ (.slice Ao15 y235.length co15 : Value).ownBlock)) HO_7.out (fun k_ hk => hk.2)); clear HO_7; have HO_7 := n_; clear n_; have HX16 := Aside0.mk (show Kd.S k52 52 w13 w.heap.size (fun k_ => ((fun _ => True)) k_ ∧ ¬ ((fun k_ => some k_ = (.slice Ao15 y235.length co15 : Value).ownBlock)) k_) (.slice (some ⟨go12, 0, none⟩) x7_1.length co12) x7_1 from (by (with_reducible repeat (first | apply Kd.S_alloc | apply Kd.S_drewN | apply Kd.S_drew)); exact Kd.S_mono HO_7.out (fun k_ hk => ⟨trivial, fun e_ => hk e_⟩))); obtain ⟨oki16, ce16, hcl16, hM16, hcc16, hfr16, hoki16, hH16⟩ := Kd.S_elem HX16.out z52 (x14_1 : Int) (od) (by have h_ : (x14_1 : Int) < ((x7_1.length : Int) : Int) := od; first | exact h_ | (have e_ := (Kd.S_reads' HO_7.out).1; omega) | simpa using h_); obtain ⟨ve16_0, rfl, ge16_0⟩ := k52_openM hM16; have HP16 := Kd.S_seg hH16 (od) (by have h_ : (x14_1 : Int) < ((x7_1.length : Int) : Int) := od; first | exact h_ | (have e_ := (Kd.S_reads' HO_7.out).1; omega) | simpa using h_) (seg := [.slice Ao15 y235.length co15]) (j := 0) (show 1 ≤ 1 from by decide) (x' := (⟨y235⟩ : S52)) (k52_mkM _ _ _ (⟨y235⟩ : S52) (Kd.R_mono (Kd.R_tight rfl (Kd.R_mono (ok' := fun k_ => ((fun _ => True)) k_ ∧ k_ ≠ go12) (Kd.R_apart' (HO237.out) (Kd.S_typed HO_7.out) (by decide)) (fun k_ hk => ⟨trivial, fun e_ => (hk.2) (by rw [e_]; rfl)⟩))) (fun _ h_ => Or.inr (h_)))) (fun _ hk => hk) (fun k_ hk_ => ((Kd.R_mono (ok' := fun k_ => ((fun _ => True)) k_ ∧ k_ ≠ go12) (Kd.R_apart' (HO237.out) (Kd.S_typed HO_7.out) (by decide)) (fun k_ hk => ⟨trivial, fun e_ => (hk.2) (by rw [e_]; rfl)⟩))).1 k_ hk_.symm); have hx16_0 := hcc16 0 _ rfl; (try simp only [show (k52).sz = 1 from rfl, Nat.mul_one, Nat.add_zero] at hx16_0); have hf16_0 := hfr16 0; (try simp only [show (k52).sz = 1 from rfl, Nat.mul_one, Nat.add_zero] at hf16_0); clear hcl16 hcc16 hfr16 hM16 hoki16 hH16; (try simp only [show (k52).sz = 1 from rfl, Nat.mul_one, Nat.add_zero] at HP16)) | ((with_reducible refine gate_store (t := 52) (p := 25) rfl ?_); refine store_event (t := 52) (p := 25) (v := ?vo_w17) (w1 := (w13.setCell ⟨go12, (x14_1 : Int).toNat, none⟩ (.slice Ao15 y235.length co15))) ?hg ?ho ?hn ?hr ?_; (case ho => rfl); (case hg => rfl); (case hn => rfl); (case hr => first | (go_simp; done) | (go_simp; rfl)); intro w17 hw; have hg : w13.grownBy w17 (some go12) := (by rw [hw]; exact HP16.2); have hp_ : Kd.S k52 52 w17 w.heap.size (fun _ => True) (.slice (some ⟨go12, 0, none⟩) x7_1.length co12) y238 := (by rw [hw, Ny238.out]; exact HP16.1); clear HP16; have n0_ := Aside0.mk (hp_); have n1_ := Aside0.mk (blk_grown (g := gc0_0) (o := .cells (ag66 a0_0) 66 (0, 0)) (zK BK231) hg (Kd.S_ne HO_7.out BK231.out (by decide))); have n2_ := Aside0.mk ((by rw [hw]; exact below_set (HB.out) GB12.out : Below w.heap.size w w17)); clear HO_7; clear BK231; clear HB; clear HO237; have HO_7 := n0_; have BK231 := n1_; have HB := n2_; clear n0_ n1_ n2_; clear hg hw hp_))
  go_roundg k1
  case measure => have := HK1.out; omega
  case rel => exact ⟨(y238), (wrap64 (x14_1 + 1)), zR, H', ⟨by have := HK1.out; omega⟩, ⟨zS HO_7⟩, ⟨zK BK231⟩, ⟨zB⟩⟩
 rw [if_neg c9] at H
 have c9b0 : (x14_1 == a1) = false := beq_eq_false_iff_ne.mpr c9
 have c9b1 : (x14_1 != a1) = true := bne_iff_ne.mpr c9
 replace H := Option.bind_eq_some_iff.mp H
 obtain ⟨t239, A180, H⟩ := H
 replace H : (if 0 ≤ x14_1 then (if x14_1 < (x7_1.length : Int) then (best_round.l0 k1 a1 l2 (x7_1.set (x14_1 : Int).toNat (⟨t239⟩ : S52)) (l2.length : Int) (wrap64 (x14_1 + 1)) a0_0) else (none)) else (none)) = some r := H
 have A18 := Aside0.mk A180
 clear A180
 by_cases c19 : 0 ≤ x14_1
 rotate_left
 · rw [if_neg c19] at H; exact absurd H (by simp)
 rw [if_pos c19] at H
 have c19b0 : decide (0 ≤ x14_1) = true := decide_eq_true c19
 clear c19
 by_cases c20 : x14_1 < (x7_1.length : Int)
 rotate_left
 · rw [if_neg c20] at H; exact absurd H (by simp)
 rw [if_pos c20] at H
 have c20b0 : decide (x14_1 < (x7_1.length : Int)) = true := decide_eq_true c20
 clear c20
 obtain ⟨y242, hy242⟩ : ∃ y_ : List (S52), y_ = (x7_1.set (x14_1 : Int).toNat (⟨t239⟩ : S52)) := ⟨_, rfl⟩
 replace H : (best_round.l0 k1 a1 l2 y242 (l2.length : Int) (wrap64 (x14_1 + 1)) a0_0) = some r := by first | (rw [hy242]; with_reducible exact H) | (have H2_ := (Option.bind_some _ _).symm.trans H; rw [hy242]; with_reducible exact H2_) | (have H2_ := (Option.bind_some _ _).symm.trans H; with_reducible exact H2_) | with_reducible exact H | (rw [hy242]; exact H) | exact H
 have Ny242 := Aside0.mk hy242
 clear hy242
 have H' := Aside0.mk H
 clear H
 go_wp2_with (first | ((with_reducible refine gate_callee (f := 41) rfl ?_); refine goesL_ (some 31) rfl rfl Try.func41 (by kernel_rfl) rfl #[.pointer (some ⟨gc0_0, 0, none⟩), .int .i64 x14_1, .slice A2 l2.length c2] rfl zM ?_; (with_reducible refine (best_chosen.calls k1 gc0_0 a0_0 x14_1 _ _ l2 t239 _ ?side1 ?side2 ?side3 A18.out).mono ?_); (case side1 => exact (zK BK231)); (case side2 => exact zC HR2 HB); (case side3 => exact HC2.out); rintro e w22 ⟨v240, rfl, ho0, hb⟩; refine ⟨_, rfl, ?_⟩; have n0_ := Aside0.mk (Kd.S_elder' (zS HO_7) (Kd.R_base ho0) hb); have n1_ := Aside0.mk (Kd.R_lower ho0 (below_size zB)); have n2_ := Aside0.mk (blk_below (g := gc0_0) (o := .cells (ag66 a0_0) 66 (0, 0)) (zK BK231) hb); have n3_ := Aside0.mk (below_step zB hb); clear HO_7; clear BK231; clear HB; have HO_7 := n0_; have HO241 := n1_; have BK231 := n2_; have HB := n3_; clear n0_ n1_ n2_ n3_; (try clear hb); (try clear hb2); (try clear hk); (try clear hi); (try clear ho0); have p21 : 0 ≤ (x14_1 : Int) := od; have q21 : (x14_1 : Int) < ((x7_1.length : Int) : Int) := od; obtain ⟨go21, co21, eo21, gb21, gl21, cl21, HG21⟩ := Kd.S_form HO_7.out (by omega); (first | cases eo21 | (injection eo21 with ea_ en_ ec_; (first | subst ea_ | (injection ea_ with ea_; subst ea_)); subst ec_; clear en_)); have GB21 := Aside0.mk gb21; have GG21 := Aside0.mk HG21; clear gb21 gl21 HG21; obtain ⟨_, ce21, hcl21, hM21, hcc21, hfr21, _, _⟩ := Kd.S_elem HO_7.out z52 (x14_1 : Int) p21 q21; obtain ⟨ve21_0, rfl, ge21_0⟩ := k52_openM hM21; have hx21_0 := hcc21 0 _ rfl; have hf21_0 := hfr21 0; (try simp only [show (k52).sz = 1 from rfl, Nat.mul_one, Nat.add_zero] at hx21_0); (try simp only [show (k52).sz = 1 from rfl, Nat.mul_one, Nat.add_zero] at hf21_0); clear hcl21 hcc21 hfr21 hM21; replace p21 := eq_true p21; replace q21 := eq_true q21; obtain ⟨Ao25, co25, eo25⟩ := Kd.R_slice HO241.out; subst eo25; have n_ := Aside0.mk (Kd.S_mono (ok' := (fun k_ => some k_ ≠ (.slice Ao25 t239.length co25 : Value).ownBlock)) HO_7.out (fun k_ hk => hk.2)); clear HO_7; have HO_7 := n_; clear n_; have HX23 := Aside0.mk (show Kd.S k52 52 w22 w.heap.size (fun k_ => ((fun _ => True)) k_ ∧ ¬ ((fun k_ => some k_ = (.slice Ao25 t239.length co25 : Value).ownBlock)) k_) (.slice (some ⟨go21, 0, none⟩) x7_1.length co21) x7_1 from (by (with_reducible repeat (first | apply Kd.S_alloc | apply Kd.S_drewN | apply Kd.S_drew)); exact Kd.S_mono HO_7.out (fun k_ hk => ⟨trivial, fun e_ => hk e_⟩))); obtain ⟨oki23, ce23, hcl23, hM23, hcc23, hfr23, hoki23, hH23⟩ := Kd.S_elem HX23.out z52 (x14_1 : Int) (od) (by have h_ : (x14_1 : Int) < ((x7_1.length : Int) : Int) := od; first | exact h_ | (have e_ := (Kd.S_reads' HO_7.out).1; omega) | simpa using h_); obtain ⟨ve23_0, rfl, ge23_0⟩ := k52_openM hM23; have HP23 := Kd.S_seg hH23 (od) (by have h_ : (x14_1 : Int) < ((x7_1.length : Int) : Int) := od; first | exact h_ | (have e_ := (Kd.S_reads' HO_7.out).1; omega) | simpa using h_) (seg := [.slice Ao25 t239.length co25]) (j := 0) (show 1 ≤ 1 from by decide) (x' := (⟨t239⟩ : S52)) (k52_mkM _ _ _ (⟨t239⟩ : S52) (Kd.R_mono (Kd.R_tight rfl (Kd.R_mono (ok' := fun k_ => ((fun _ => True)) k_ ∧ k_ ≠ go21) (Kd.R_apart' (HO241.out) (Kd.S_typed HO_7.out) (by decide)) (fun k_ hk => ⟨trivial, fun e_ => (hk.2) (by rw [e_]; rfl)⟩))) (fun _ h_ => Or.inr (h_)))) (fun _ hk => hk) (fun k_ hk_ => ((Kd.R_mono (ok' := fun k_ => ((fun _ => True)) k_ ∧ k_ ≠ go21) (Kd.R_apart' (HO241.out) (Kd.S_typed HO_7.out) (by decide)) (fun k_ hk => ⟨trivial, fun e_ => (hk.2) (by rw [e_]; rfl)⟩))).1 k_ hk_.symm); have hx23_0 := hcc23 0 _ rfl; (try simp only [show (k52).sz = 1 from rfl, Nat.mul_one, Nat.add_zero] at hx23_0); have hf23_0 := hfr23 0; (try simp only [show (k52).sz = 1 from rfl, Nat.mul_one, Nat.add_zero] at hf23_0); clear hcl23 hcc23 hfr23 hM23 hoki23 hH23; (try simp only [show (k52).sz = 1 from rfl, Nat.mul_one, Nat.add_zero] at HP23)) | ((with_reducible refine gate_store (t := 52) (p := 32) rfl ?_); refine store_event (t := 52) (p := 32) (v := ?vo_w24) (w1 := (w22.setCell ⟨go21, (x14_1 : Int).toNat, none⟩ (.slice Ao25 t239.length co25))) ?hg ?ho ?hn ?hr ?_; (case ho => rfl); (case hg => rfl); (case hn => rfl); (case hr => first | (go_simp; done) | (go_simp; rfl)); intro w24 hw; have hg : w22.grownBy w24 (some go21) := (by rw [hw]; exact HP23.2); have hp_ : Kd.S k52 52 w24 w.heap.size (fun _ => True) (.slice (some ⟨go21, 0, none⟩) x7_1.length co21) y242 := (by rw [hw, Ny242.out]; exact HP23.1); clear HP23; have n0_ := Aside0.mk (hp_); have n1_ := Aside0.mk (blk_grown (g := gc0_0) (o := .cells (ag66 a0_0) 66 (0, 0)) (zK BK231) hg (Kd.S_ne HO_7.out BK231.out (by decide))); have n2_ := Aside0.mk ((by rw [hw]; exact below_set (HB.out) GB21.out : Below w.heap.size w w24)); clear HO_7; clear BK231; clear HB; clear HO241; have HO_7 := n0_; have BK231 := n1_; have HB := n2_; clear n0_ n1_ n2_; clear hg hw hp_))
 go_roundg k1
 case measure => have := HK1.out; omega
 case rel => exact ⟨(y242), (wrap64 (x14_1 + 1)), zR, H', ⟨by have := HK1.out; omega⟩, ⟨zS HO_7⟩, ⟨zK BK231⟩, ⟨zB⟩⟩
/-! ### best_Round: function 18 -/
def best_Round.j0 : Nat → Int → List (S52) → Bool → Int → List (S71) → Option ((List (S52)) × Int)
  | 0, _, _, _, _, _ => none
  | k + 1, x1, x2, x16, x244000, x244001 => if x16 = true then (some (([] : List (S52)), 1)) else ((best_formed.f k x244000 x244001 x2).bind fun t245 => (if t245 = true then ((best_ties.f k x244000 x244001).bind fun t246 => (if t246.length = 256 then ((best_round.f k t246 x1 x2).bind fun t248 => (some (t248, 0))) else (none))) else (some (([] : List (S52)), 3))))
def best_Round.f (k : Nat) (a0_0 : Int) (l0_1 : List (S71)) (a1 : Int) (l2 : List (S52)) : Option ((List (S52)) × Int) := (best_Check.f k a0_0 l0_1).bind fun t244 => (if t244 = 0 then (if a1 < 0 then (best_Round.j0 k a1 l2 true a0_0 l0_1) else (best_Round.j0 k a1 l2 (decide (a1 ≥ a0_0)) a0_0 l0_1)) else (some (([] : List (S52)), t244)))
theorem best_Round.mono_l : ∀ k, (∀ y0 y1 y2 y3 y4, LeO (best_Round.j0 k y0 y1 y2 y3 y4) (best_Round.j0 (k + 1) y0 y1 y2 y3 y4))
  | 0 => fun _ _ _ _ _ r h => by simp [best_Round.j0] at h
  | k + 1 => by
    have ih0 := best_Round.mono_l k
    · intro y0 y1 y2 y3 y4
      unfold best_Round.j0
      repeat' (with_reducible first | exact ih0 _ _ _ _ _ | exact best_Check.mono _ _ _ | exact best_formed.mono _ _ _ _ | exact best_round.mono _ _ _ _ | exact best_ties.mono _ _ _ | exact LeO.refl _ | exact LeO.none _ | refine LeO.ite ?_ ?_ | refine LeO.bind ?_ (fun _ => ?_))
theorem best_Round.mono : ∀ a0 a1 a2 a3 k, LeO (best_Round.f k a0 a1 a2 a3) (best_Round.f (k + 1) a0 a1 a2 a3) := by
  intro a0 a1 a2 a3 k
  have ih0 := best_Round.mono_l k
  unfold best_Round.f
  repeat' (with_reducible first | exact ih0 _ _ _ _ _ | exact best_Check.mono _ _ _ | exact best_formed.mono _ _ _ _ | exact best_round.mono _ _ _ _ | exact best_ties.mono _ _ _ | exact LeO.refl _ | exact LeO.none _ | refine LeO.ite ?_ ?_ | refine LeO.bind ?_ (fun _ => ?_))
set_option maxHeartbeats 8000000 in
set_option maxRecDepth 100000 in
theorem best_Round.calls (k : Nat) (a0_0 : Int) (A0_1 : Option Addr) (c0_1 : Nat) (l0_1 : List (S71)) (a1 : Int) (A2 : Option Addr) (c2 : Nat) (l2 : List (S52)) (r1 : List (S52)) (r2 : Int) (w : World) (hr0_1 : Kd.C k71 w A0_1 l0_1.length l0_1) (hc0_1 : l0_1.length ≤ c0_1) (hr2 : Kd.C k52 w A2 l2.length l2) (hc2 : l2.length ≤ c2) (h : best_Round.f k a0_0 l0_1 a1 l2 = some (r1, r2)) :
 Calls Try.prog 18 #[.agg #[.int .i64 a0_0, .slice A0_1 l0_1.length c0_1], .int .i64 a1, .slice A2 l2.length c2] w fun e w' => ∃ v0_ : Value, e = .returned (.tuple #[v0_, .int .i64 r2]) ∧ Kd.S k52 52 w' w.heap.size (fun _ => True) v0_ r1 ∧ Below w.heap.size w w' := by
 have hu42 := Try.underlying42
 have hu3 := Try.underlying3
 have hu66 := Try.underlying66
 have HR0_1 := Aside0.mk hr0_1
 have HC0_1 := Aside0.mk hc0_1
 clear hr0_1 hc0_1
 have HR2 := Aside0.mk hr2
 have HC2 := Aside0.mk hc2
 clear hr2 hc2
 have HB := Aside0.mk (Below.refl w.heap.size w)
 have H : ((best_Check.f k a0_0 l0_1).bind fun t244 => (if t244 = 0 then (if a1 < 0 then (best_Round.j0 k a1 l2 true a0_0 l0_1) else (best_Round.j0 k a1 l2 (decide (a1 ≥ a0_0)) a0_0 l0_1)) else (some (([] : List (S52)), t244)))) = some (r1, r2) := h
 clear h
 replace H := Option.bind_eq_some_iff.mp H
 obtain ⟨t244, A40, H⟩ := H
 replace H : (if t244 = 0 then (if a1 < 0 then (best_Round.j0 k a1 l2 true a0_0 l0_1) else (best_Round.j0 k a1 l2 (decide (a1 ≥ a0_0)) a0_0 l0_1)) else (some (([] : List (S52)), t244))) = some (r1, r2) := H
 have A4 := Aside0.mk A40
 clear A40
 by_cases c5 : t244 = 0
 rotate_left
 ·
  rw [if_neg c5] at H
  have c5b0 : (t244 == 0) = false := beq_eq_false_iff_ne.mpr c5
  have c5b1 : (t244 != 0) = true := bne_iff_ne.mpr c5
  simp only [Option.some.injEq, Prod.mk.injEq] at H
  obtain ⟨rfl, rfl⟩ := H
  go_enter Try.func18, Try.ntmps18
  go_wp2_with (first | ((with_reducible refine gate_dst (N := 3) rfl ?_); refine bx 3 (#[.int .i64 a0_0, .slice A0_1 l0_1.length c0_1]) 42 ?_; intro gb243 hg w26 hbox hb; have n0_ := Aside0.mk (below_step zB hb); have n1_ := Aside0.mk (hbox); have n2_ := Aside0.mk ((zG hg : w.heap.size ≤ gb243)); have n3_ := Aside0.mk ((zG hg : w.heap.size ≤ gb243)); clear HB; have HB := n0_; have BK243 := n1_; have GW243 := n2_; have GE243 := n3_; clear n0_ n1_ n2_ n3_; clear hb hbox hg; have hcz27_0 : w26.cell? ⟨gb243, 0, none⟩ = some (.int .i64 a0_0) := zT BK243 0; have hcz27_1 : w26.cell? ⟨gb243, 1, none⟩ = some (.slice A0_1 l0_1.length c0_1) := zT BK243 1; have hfz27_0 := blk_frozen BK243.out 0; have hfz27_1 := blk_frozen BK243.out 1) | ((with_reducible refine gate_callee (f := 27) rfl ?_); refine goesL_ (some 11) rfl rfl Try.func27 (by kernel_rfl) rfl #[.agg #[.int .i64 a0_0, .slice A0_1 l0_1.length c0_1]] rfl zM ?_; (with_reducible refine (best_Check.calls k a0_0 _ _ l0_1 t244 _ ?side1 ?side2 A4.out).mono ?_); (case side1 => exact zC HR0_1 HB); (case side2 => exact HC0_1.out); rintro e w28 ⟨rfl, hb⟩; refine ⟨_, rfl, ?_⟩; have n0_ := Aside0.mk (blk_below (g := gb243) (o := .cells #[.int .i64 a0_0, .slice A0_1 l0_1.length c0_1] 42 (0, 0)) (zK BK243) hb); have n1_ := Aside0.mk (below_step zB hb); clear BK243; clear HB; have BK243 := n0_; have HB := n1_; clear n0_ n1_; (try clear hb); (try clear hb2); (try clear hk); (try clear hi)))
  go_ret2
  exact ⟨_, zE, by first | exact Kd.S_nil _ _ _ _ _ | exact Kd.N_nil _ _ _ _ _ | exact Kd.V_nil _ _ _ _ _ | exact Kd.Q_nil _ _ _ _ _ | exact Kd.R_nil _ _ _ _ _, zB⟩
 rw [if_pos c5] at H
 have c5b0 : (t244 == 0) = true := beq_iff_eq.mpr c5
 have c5b1 : (t244 != 0) = false := bne_eq_false_iff_eq.mpr c5
 clear c5
 have HC6 := Aside0.mk H
 clear H
 go_enter Try.func18, Try.ntmps18
 go_upto_region 4 with (first | ((with_reducible refine gate_dst (N := 3) rfl ?_); refine bx 3 (#[.int .i64 a0_0, .slice A0_1 l0_1.length c0_1]) 42 ?_; intro gb243 hg w7 hbox hb; have n0_ := Aside0.mk (below_step zB hb); have n1_ := Aside0.mk (hbox); have n2_ := Aside0.mk ((zG hg : w.heap.size ≤ gb243)); have n3_ := Aside0.mk ((zG hg : w.heap.size ≤ gb243)); clear HB; have HB := n0_; have BK243 := n1_; have GW243 := n2_; have GE243 := n3_; clear n0_ n1_ n2_ n3_; clear hb hbox hg; have hcz8_0 : w7.cell? ⟨gb243, 0, none⟩ = some (.int .i64 a0_0) := zT BK243 0; have hcz8_1 : w7.cell? ⟨gb243, 1, none⟩ = some (.slice A0_1 l0_1.length c0_1) := zT BK243 1; have hfz8_0 := blk_frozen BK243.out 0; have hfz8_1 := blk_frozen BK243.out 1) | ((with_reducible refine gate_callee (f := 27) rfl ?_); refine goesL_ (some 11) rfl rfl Try.func27 (by kernel_rfl) rfl #[.agg #[.int .i64 a0_0, .slice A0_1 l0_1.length c0_1]] rfl zM ?_; (with_reducible refine (best_Check.calls k a0_0 _ _ l0_1 t244 _ ?side1 ?side2 A4.out).mono ?_); (case side1 => exact zC HR0_1 HB); (case side2 => exact HC0_1.out); rintro e w9 ⟨rfl, hb⟩; refine ⟨_, rfl, ?_⟩; have n0_ := Aside0.mk (blk_below (g := gb243) (o := .cells #[.int .i64 a0_0, .slice A0_1 l0_1.length c0_1] 42 (0, 0)) (zK BK243) hb); have n1_ := Aside0.mk (below_step zB hb); clear BK243; clear HB; have BK243 := n0_; have HB := n1_; clear n0_ n1_; (try clear hb); (try clear hb2); (try clear hk); (try clear hi)))
 (try simp only [Act.put, List.setIfInBounds_toArray, List.set_cons_zero, List.set_cons_succ])
 go_cut [16] (fun v16 wc => ∃ (kq : Nat) (x16_5 : Bool), v16 = .bool x16_5 ∧ Aside0 (best_Round.j0 kq a1 l2 x16_5 a0_0 l0_1 = some (r1, r2)) ∧ Aside0 (kq ≤ k) ∧ Aside0 (wc.heap[gb243]? = some (.cells #[.int .i64 a0_0, (.slice A0_1 l0_1.length c0_1)] 42 (0, 0))) ∧ Aside0 (Below w.heap.size w wc))
 case first =>
  have H := HC6.out
  clear HC6
  by_cases c10 : a1 < 0
  ·
   rw [if_pos c10] at H
   have c10b0 : decide (a1 < 0) = true := decide_eq_true c10
   clear c10
   (first | rw [c10b0] | (simp only [i64_w, i32_w]; rw [c10b0]) | skip)
   have H' := Aside0.mk H
   clear H
   go_wp2
   go_meet
   case rel => exact ⟨_, (true), zR, H', ⟨by first | omega | exact Nat.le_refl _⟩, ⟨zK BK243⟩, ⟨zB⟩⟩
  rw [if_neg c10] at H
  have c10b0 : decide (a1 < 0) = false := decide_eq_false c10
  clear c10
  (first | rw [c10b0] | (simp only [i64_w, i32_w]; rw [c10b0]) | skip)
  have H' := Aside0.mk H
  clear H
  have hcz11_0 : w9.cell? ⟨gb243, 0, none⟩ = some (.int .i64 a0_0) := zT BK243 0
  have hcz11_1 : w9.cell? ⟨gb243, 1, none⟩ = some (.slice A0_1 l0_1.length c0_1) := zT BK243 1
  have hfz11_0 := blk_frozen BK243.out 0
  have hfz11_1 := blk_frozen BK243.out 1
  go_wp2
  go_meet
  case rel => exact ⟨_, (decide (a1 ≥ a0_0)), zR, H', ⟨by first | omega | exact Nat.le_refl _⟩, ⟨zK BK243⟩, ⟨zB⟩⟩
 clear HC6
 try clear c1
 try clear c2
 try clear p2
 try clear c5
 try clear c5b0
 try clear c5b1
 try clear c10
 try clear c10b0
 try clear hcz11_0
 try clear hcz11_1
 try clear hcz8_0
 try clear hcz8_1
 try clear hfz11_0
 try clear hfz11_1
 try clear hfz8_0
 try clear hfz8_1
 obtain ⟨kq, x16_5, rfl, HA, HJ5, BK243, HB⟩ := hcut
 rcases kq with _ | kj5
 · exact absurd HA.out (by simp [best_Round.j0])
 have H := HA.out
 clear HA
 simp only [best_Round.j0] at H
 by_cases c12 : x16_5 = true
 ·
  subst c12
  have H1 : (some (([] : List (S52)), 1)) = some (r1, r2) := by rw [if_pos rfl] at H; exact H
  clear H
  have H := H1
  clear H1
  simp only [Option.some.injEq, Prod.mk.injEq] at H
  obtain ⟨rfl, rfl⟩ := H
  go_wp2
  go_ret2
  exact ⟨_, zE, by first | exact Kd.S_nil _ _ _ _ _ | exact Kd.N_nil _ _ _ _ _ | exact Kd.V_nil _ _ _ _ _ | exact Kd.Q_nil _ _ _ _ _ | exact Kd.R_nil _ _ _ _ _, zB⟩
 replace c12 := Bool.eq_false_iff.mpr c12
 subst c12
 have H1 : ((best_formed.f kj5 a0_0 l0_1 l2).bind fun t245 => (if t245 = true then ((best_ties.f kj5 a0_0 l0_1).bind fun t246 => (if t246.length = 256 then ((best_round.f kj5 t246 a1 l2).bind fun t248 => (some (t248, 0))) else (none))) else (some (([] : List (S52)), 3)))) = some (r1, r2) := by rw [if_neg (show ¬ (false = true) by decide)] at H; exact H
 clear H
 have H := H1
 clear H1
 replace H := Option.bind_eq_some_iff.mp H
 obtain ⟨t245, A130, H⟩ := H
 replace H : (if t245 = true then ((best_ties.f kj5 a0_0 l0_1).bind fun t246 => (if t246.length = 256 then ((best_round.f kj5 t246 a1 l2).bind fun t248 => (some (t248, 0))) else (none))) else (some (([] : List (S52)), 3))) = some (r1, r2) := H
 have A13 := Aside0.mk A130
 clear A130
 by_cases c14 : t245 = true
 rotate_left
 ·
  replace c14 := Bool.eq_false_iff.mpr c14
  subst c14
  have H1 : (some (([] : List (S52)), 3)) = some (r1, r2) := by rw [if_neg (show ¬ (false = true) by decide)] at H; exact H
  clear H
  have H := H1
  clear H1
  simp only [Option.some.injEq, Prod.mk.injEq] at H
  obtain ⟨rfl, rfl⟩ := H
  have hcz24_0 : wc.cell? ⟨gb243, 0, none⟩ = some (.int .i64 a0_0) := zT BK243 0
  have hcz24_1 : wc.cell? ⟨gb243, 1, none⟩ = some (.slice A0_1 l0_1.length c0_1) := zT BK243 1
  have hfz24_0 := blk_frozen BK243.out 0
  have hfz24_1 := blk_frozen BK243.out 1
  go_wp2_with (first | ((with_reducible refine gate_callee (f := 35) rfl ?_); refine goesL_ (some 28) rfl rfl Try.func35 (by kernel_rfl) rfl #[.agg #[.int .i64 a0_0, .slice A0_1 l0_1.length c0_1], .slice A2 l2.length c2] rfl zM ?_; (with_reducible refine (best_formed.calls kj5 a0_0 _ _ l0_1 _ _ l2 false _ ?side1 ?side2 ?side3 ?side4 A13.out).mono ?_); (case side1 => exact zC HR0_1 HB); (case side2 => exact HC0_1.out); (case side3 => exact zC HR2 HB); (case side4 => exact HC2.out); rintro e w25 ⟨rfl, hb⟩; refine ⟨_, rfl, ?_⟩; have n0_ := Aside0.mk (blk_below (g := gb243) (o := .cells #[.int .i64 a0_0, .slice A0_1 l0_1.length c0_1] 42 (0, 0)) (zK BK243) hb); have n1_ := Aside0.mk (below_step zB hb); clear BK243; clear HB; have BK243 := n0_; have HB := n1_; clear n0_ n1_; (try clear hb); (try clear hb2); (try clear hk); (try clear hi)))
  go_ret2
  exact ⟨_, zE, by first | exact Kd.S_nil _ _ _ _ _ | exact Kd.N_nil _ _ _ _ _ | exact Kd.V_nil _ _ _ _ _ | exact Kd.Q_nil _ _ _ _ _ | exact Kd.R_nil _ _ _ _ _, zB⟩
 subst c14
 have H1 : ((best_ties.f kj5 a0_0 l0_1).bind fun t246 => (if t246.length = 256 then ((best_round.f kj5 t246 a1 l2).bind fun t248 => (some (t248, 0))) else (none))) = some (r1, r2) := by rw [if_pos rfl] at H; exact H
 clear H
 have H := H1
 clear H1
 replace H := Option.bind_eq_some_iff.mp H
 obtain ⟨t246, A150, H⟩ := H
 replace H : (if t246.length = 256 then ((best_round.f kj5 t246 a1 l2).bind fun t248 => (some (t248, 0))) else (none)) = some (r1, r2) := H
 have A15 := Aside0.mk A150
 clear A150
 by_cases c16 : t246.length = 256
 rotate_left
 · rw [if_neg c16] at H; exact absurd H (by simp)
 rw [if_pos c16] at H
 have LMc16 := Aside0.mk c16
 clear c16
 replace H := Option.bind_eq_some_iff.mp H
 obtain ⟨t248, A170, H⟩ := H
 replace H : (some (t248, 0)) = some (r1, r2) := H
 have A17 := Aside0.mk A170
 clear A170
 simp only [Option.some.injEq, Prod.mk.injEq] at H
 obtain ⟨rfl, rfl⟩ := H
 have hcz18_0 : wc.cell? ⟨gb243, 0, none⟩ = some (.int .i64 a0_0) := zT BK243 0
 have hcz18_1 : wc.cell? ⟨gb243, 1, none⟩ = some (.slice A0_1 l0_1.length c0_1) := zT BK243 1
 have hfz18_0 := blk_frozen BK243.out 0
 have hfz18_1 := blk_frozen BK243.out 1
 go_wp2_with (first | ((with_reducible refine gate_callee (f := 35) rfl ?_); refine goesL_ (some 28) rfl rfl Try.func35 (by kernel_rfl) rfl #[.agg #[.int .i64 a0_0, .slice A0_1 l0_1.length c0_1], .slice A2 l2.length c2] rfl zM ?_; (with_reducible refine (best_formed.calls kj5 a0_0 _ _ l0_1 _ _ l2 true _ ?side1 ?side2 ?side3 ?side4 A13.out).mono ?_); (case side1 => exact zC HR0_1 HB); (case side2 => exact HC0_1.out); (case side3 => exact zC HR2 HB); (case side4 => exact HC2.out); rintro e w19 ⟨rfl, hb⟩; refine ⟨_, rfl, ?_⟩; have n0_ := Aside0.mk (blk_below (g := gb243) (o := .cells #[.int .i64 a0_0, .slice A0_1 l0_1.length c0_1] 42 (0, 0)) (zK BK243) hb); have n1_ := Aside0.mk (below_step zB hb); clear BK243; clear HB; have BK243 := n0_; have HB := n1_; clear n0_ n1_; (try clear hb); (try clear hb2); (try clear hk); (try clear hi); have hcz20_0 : w19.cell? ⟨gb243, 0, none⟩ = some (.int .i64 a0_0) := zT BK243 0; have hcz20_1 : w19.cell? ⟨gb243, 1, none⟩ = some (.slice A0_1 l0_1.length c0_1) := zT BK243 1; have hfz20_0 := blk_frozen BK243.out 0; have hfz20_1 := blk_frozen BK243.out 1) | ((with_reducible refine gate_callee (f := 28) rfl ?_); refine goesL_ (some 31) rfl rfl Try.func28 (by kernel_rfl) rfl #[.agg #[.int .i64 a0_0, .slice A0_1 l0_1.length c0_1]] rfl zM ?_; (with_reducible refine (best_ties.calls kj5 a0_0 _ _ l0_1 t246 _ ?side1 ?side2 A15.out).mono ?_); (case side1 => exact zC HR0_1 HB); (case side2 => exact HC0_1.out); rintro e w21 ⟨rfl, hb⟩; refine ⟨_, rfl, ?_⟩; have n0_ := Aside0.mk (blk_below (g := gb243) (o := .cells #[.int .i64 a0_0, .slice A0_1 l0_1.length c0_1] 42 (0, 0)) (zK BK243) hb); have n1_ := Aside0.mk (below_step zB hb); clear BK243; clear HB; have BK243 := n0_; have HB := n1_; clear n0_ n1_; (try clear hb); (try clear hb2); (try clear hk); (try clear hi)) | ((with_reducible refine gate_dst (N := 9) rfl ?_); refine arr_event (N := 9) rfl rfl rfl rfl rfl rfl infoA66 ((ag66_size _).trans (by rw [List.length_replicate])) (cs := ag66 t246) ((ag66_size _).trans (by have := LMc16.out; omega)) (ag66_one _) ?hn ?hx ?_; (case hn => first | rfl | (go_simp; done) | (go_simp; rfl)); (case hx => first | rfl | (go_simp; done) | (go_simp; rfl)); intro gb247 hg w22 hbox hb; have n0_ := Aside0.mk (blk_below (g := gb243) (o := .cells #[.int .i64 a0_0, .slice A0_1 l0_1.length c0_1] 42 (0, 0)) (zK BK243) hb); have n1_ := Aside0.mk (below_step zB hb); have n2_ := Aside0.mk (hbox); have n3_ := Aside0.mk ((zG hg : w.heap.size ≤ gb247)); have n4_ := Aside0.mk ((zG hg : w.heap.size ≤ gb247)); have n5_ := Aside0.mk ((by rw [hg]; exact Nat.ne_of_lt (blk_lt (g := gb243) (o := .cells #[.int .i64 a0_0, .slice A0_1 l0_1.length c0_1] 42 (0, 0)) (zK BK243)) : gb243 ≠ gb247)); have n6_ := Aside0.mk ((by rw [hg]; exact Nat.ne_of_gt (blk_lt (g := gb243) (o := .cells #[.int .i64 a0_0, .slice A0_1 l0_1.length c0_1] 42 (0, 0)) (zK BK243)) : gb247 ≠ gb243)); clear BK243; clear HB; have BK243 := n0_; have HB := n1_; have BK247 := n2_; have GW247 := n3_; have GE247 := n4_; have NB243_247 := n5_; have NB247_243 := n6_; clear n0_ n1_ n2_ n3_ n4_ n5_ n6_; clear hb hbox hg) | ((with_reducible refine gate_callee (f := 29) rfl ?_); refine goesL_ (some 34) rfl rfl Try.func29 (by kernel_rfl) rfl #[.pointer (some ⟨gb247, 0, none⟩), .int .i64 a1, .slice A2 l2.length c2] rfl zM ?_; (with_reducible refine (best_round.calls kj5 gb247 t246 a1 _ _ l2 t248 _ ?side1 ?side2 ?side3 A17.out).mono ?_); (case side1 => exact (zK BK247)); (case side2 => exact zC HR2 HB); (case side3 => exact HC2.out); rintro e w23 ⟨v249, rfl, ho0, hb⟩; refine ⟨_, rfl, ?_⟩; have n0_ := Aside0.mk (Kd.S_lower ho0 (below_size zB)); have n1_ := Aside0.mk (blk_below (g := gb243) (o := .cells #[.int .i64 a0_0, .slice A0_1 l0_1.length c0_1] 42 (0, 0)) (zK BK243) hb); have n2_ := Aside0.mk (blk_below (g := gb247) (o := .cells (ag66 t246) 66 (0, 0)) (zK BK247) hb); have n3_ := Aside0.mk (below_step zB hb); clear BK243; clear BK247; clear HB; have HO250 := n0_; have BK243 := n1_; have BK247 := n2_; have HB := n3_; clear n0_ n1_ n2_ n3_; (try clear hb); (try clear hb2); (try clear hk); (try clear hi); (try clear ho0)))
 go_ret2
 exact ⟨_, zE, by (with_reducible repeat (first | apply Kd.S_alloc | apply Kd.S_drewN | apply Kd.S_drew)); exact HO250.out, zB⟩
/-! ### g19_: function 21 -/
def g19_.l0 : Nat → List Int → List Int → Int → Int → Option (Bool)
  | 0, _, _, _, _ => none
  | k + 1, x0, x1, x12, x13 => if x13 < x12 then (if 0 ≤ x13 then (if x13 < (x0.length : Int) then (if x13 < (x1.length : Int) then (if (rd x0 x13) = (rd x1 x13) then (g19_.l0 k x0 x1 x12 (wrap64 (x13 + 1))) else (some false)) else (none)) else (none)) else (none)) else (some true)
def g19_.f (k : Nat) (l0 : List Int) (l1 : List Int) : Option (Bool) := if (l0.length : Int) = (l1.length : Int) then (g19_.l0 k l0 l1 (l0.length : Int) 0) else (some false)
theorem g19_.mono_l : ∀ k, (∀ y0 y1 y2 y3, LeO (g19_.l0 k y0 y1 y2 y3) (g19_.l0 (k + 1) y0 y1 y2 y3))
  | 0 => fun _ _ _ _ r h => by simp [g19_.l0] at h
  | k + 1 => by
    have ih0 := g19_.mono_l k
    · intro y0 y1 y2 y3
      unfold g19_.l0
      repeat' (with_reducible first | exact ih0 _ _ _ _ | exact LeO.refl _ | exact LeO.none _ | refine LeO.ite ?_ ?_ | refine LeO.bind ?_ (fun _ => ?_))
theorem g19_.mono : ∀ a0 a1 k, LeO (g19_.f k a0 a1) (g19_.f (k + 1) a0 a1) := by
  intro a0 a1 k
  have ih0 := g19_.mono_l k
  unfold g19_.f
  repeat' (with_reducible first | exact ih0 _ _ _ _ | exact LeO.refl _ | exact LeO.none _ | refine LeO.ite ?_ ?_ | refine LeO.bind ?_ (fun _ => ?_))
set_option maxHeartbeats 8000000 in
set_option maxRecDepth 100000 in
theorem g19_.calls (k : Nat) (A0 : Option Addr) (c0 : Nat) (l0 : List Int) (A1 : Option Addr) (c1 : Nat) (l1 : List Int) (r : Bool) (w : World) (hr0 : Kd.C (Kd.int .i64) w A0 l0.length l0) (hc0 : l0.length ≤ c0) (hr1 : Kd.C (Kd.int .i64) w A1 l1.length l1) (hc1 : l1.length ≤ c1) (h : g19_.f k l0 l1 = some r) :
 Calls Try.prog 21 #[.slice A0 l0.length c0, .slice A1 l1.length c1] w fun e w' => e = .returned (.bool r) ∧ Drawn0 w w' := by
 have hu3 := Try.underlying3
 have HR0 := Aside0.mk hr0
 have HC0 := Aside0.mk hc0
 clear hr0 hc0
 have HR1 := Aside0.mk hr1
 have HC1 := Aside0.mk hc1
 clear hr1 hc1
 have H : (if (l0.length : Int) = (l1.length : Int) then (g19_.l0 k l0 l1 (l0.length : Int) 0) else (some false)) = some r := h
 clear h
 by_cases c3 : (l0.length : Int) = (l1.length : Int)
 rotate_left
 ·
  rw [if_neg c3] at H
  have c3b0 : ((l0.length : Int) == (l1.length : Int)) = false := beq_eq_false_iff_ne.mpr c3
  have c3b1 : ((l0.length : Int) != (l1.length : Int)) = true := bne_iff_ne.mpr c3
  have c3b2 : (l0.length == l1.length) = false := by first | simpa using c3 | (simp at c3 ⊢; omega)
  obtain rfl := Option.some.inj H
  go_enter Try.func21, Try.ntmps21
  go_wp2
  repeat (go_quiet (fail); try go_wp2)
  go_ret
  exact ⟨zR, by repeat (first | exact Drawn0.refl _ | apply Drawn0.step)⟩
 rw [if_pos c3] at H
 have c3b0 : ((l0.length : Int) == (l1.length : Int)) = true := beq_iff_eq.mpr c3
 have c3b1 : ((l0.length : Int) != (l1.length : Int)) = false := bne_eq_false_iff_eq.mpr c3
 have c3b2 : (l0.length == l1.length) = true := by first | simpa using c3 | (simp at c3 ⊢; omega)
 clear c3
 have H' := Aside0.mk H
 clear H
 go_enter Try.func21, Try.ntmps21
 go_wp2
 repeat (go_quiet (fail); try go_wp2)
 go_loopg [13] k (fun kq v13 w' => ∃ (x13_1 : Int), v13 = .int .i64 x13_1 ∧ Aside0 (g19_.l0 kq l0 l1 (l0.length : Int) x13_1 = some r) ∧ Aside0 (kq ≤ k) ∧ Drawn0 w w')
 case atStart => exact ⟨(0), zR, H', ⟨Nat.le_refl _⟩, by repeat (first | exact Drawn0.refl _ | apply Drawn0.step)⟩
 clear H'
 try clear c1
 try clear c2
 try clear p2
 try clear c3
 try clear c3b0
 try clear c3b1
 try clear c3b2
 obtain ⟨x13_1, rfl, HA, HK1, ⟨m1, rfl⟩⟩ := hrel
 rcases gk with _ | k1
 · exact absurd HA.out (by simp [g19_.l0])
 have H := HA.out
 clear HA
 simp only [g19_.l0] at H
 by_cases c4 : x13_1 < (l0.length : Int)
 rotate_left
 ·
  rw [if_neg c4] at H
  have c4b0 : decide (x13_1 < (l0.length : Int)) = false := decide_eq_false c4
  clear c4
  obtain rfl := Option.some.inj H
  go_wp2
  repeat (go_quiet (fail); try go_wp2)
  go_ret
  exact ⟨zR, by repeat (first | exact Drawn0.refl _ | apply Drawn0.step)⟩
 rw [if_pos c4] at H
 have c4b0 : decide (x13_1 < (l0.length : Int)) = true := decide_eq_true c4
 clear c4
 by_cases c5 : 0 ≤ x13_1
 rotate_left
 · rw [if_neg c5] at H; exact absurd H (by simp)
 rw [if_pos c5] at H
 have c5b0 : decide (0 ≤ x13_1) = true := decide_eq_true c5
 clear c5
 by_cases c6 : x13_1 < (l0.length : Int)
 rotate_left
 · rw [if_neg c6] at H; exact absurd H (by simp)
 rw [if_pos c6] at H
 have c6b0 : decide (x13_1 < (l0.length : Int)) = true := decide_eq_true c6
 clear c6
 by_cases c7 : x13_1 < (l1.length : Int)
 rotate_left
 · rw [if_neg c7] at H; exact absurd H (by simp)
 rw [if_pos c7] at H
 have c7b0 : decide (x13_1 < (l1.length : Int)) = true := decide_eq_true c7
 clear c7
 by_cases c8 : (rd l0 x13_1) = (rd l1 x13_1)
 rotate_left
 ·
  rw [if_neg c8] at H
  have c8b0 : ((rd l0 x13_1) == (rd l1 x13_1)) = false := beq_eq_false_iff_ne.mpr c8
  have c8b1 : ((rd l0 x13_1) != (rd l1 x13_1)) = true := bne_iff_ne.mpr c8
  obtain rfl := Option.some.inj H
  have p263 : 0 ≤ (x13_1 : Int) := od
  have q263 : x13_1 < (l0.length : Int) := od
  obtain ⟨ad263, e263, hx263_0⟩ := Kd.at_int HR0.out x13_1 p263 q263
  cases e263
  replace p263 := eq_true p263
  replace q263 := eq_true q263
  have p264 : 0 ≤ (x13_1 : Int) := od
  have q264 : x13_1 < (l1.length : Int) := od
  obtain ⟨ad264, e264, hx264_0⟩ := Kd.at_int HR1.out x13_1 p264 q264
  cases e264
  replace p264 := eq_true p264
  replace q264 := eq_true q264
  go_wp2
  repeat (go_quiet (fail); try go_wp2)
  go_ret
  exact ⟨zR, by repeat (first | exact Drawn0.refl _ | apply Drawn0.step)⟩
 rw [if_pos c8] at H
 have c8b0 : ((rd l0 x13_1) == (rd l1 x13_1)) = true := beq_iff_eq.mpr c8
 have c8b1 : ((rd l0 x13_1) != (rd l1 x13_1)) = false := bne_eq_false_iff_eq.mpr c8
 clear c8
 have H' := Aside0.mk H
 clear H
 have p263 : 0 ≤ (x13_1 : Int) := od
 have q263 : x13_1 < (l0.length : Int) := od
 obtain ⟨ad263, e263, hx263_0⟩ := Kd.at_int HR0.out x13_1 p263 q263
 cases e263
 replace p263 := eq_true p263
 replace q263 := eq_true q263
 have p264 : 0 ≤ (x13_1 : Int) := od
 have q264 : x13_1 < (l1.length : Int) := od
 obtain ⟨ad264, e264, hx264_0⟩ := Kd.at_int HR1.out x13_1 p264 q264
 cases e264
 replace p264 := eq_true p264
 replace q264 := eq_true q264
 go_wp2
 repeat (go_quiet (fail); try go_wp2)
 go_roundg k1
 case measure => have := HK1.out; omega
 case rel => exact ⟨(wrap64 (x13_1 + 1)), zR, H', ⟨by have := HK1.out; omega⟩, by repeat (first | exact Drawn0.refl _ | apply Drawn0.step)⟩
/-! ### g37_: function 30 -/
def g37_.f (k : Nat) (l0_0 : List Int) (l1_0 : List Int) : Option (Bool) := (g19_.f k l0_0 l1_0).bind fun t267 => (some t267)
theorem g37_.mono : ∀ a0 a1 k, LeO (g37_.f k a0 a1) (g37_.f (k + 1) a0 a1) := by
  intro a0 a1 k
  unfold g37_.f
  repeat' (with_reducible first | exact g19_.mono _ _ _ | exact LeO.refl _ | exact LeO.none _ | refine LeO.ite ?_ ?_ | refine LeO.bind ?_ (fun _ => ?_))
set_option maxHeartbeats 8000000 in
set_option maxRecDepth 100000 in
theorem g37_.calls (k : Nat) (A0_0 : Option Addr) (c0_0 : Nat) (l0_0 : List Int) (A1_0 : Option Addr) (c1_0 : Nat) (l1_0 : List Int) (r : Bool) (w : World) (hr0_0 : Kd.C (Kd.int .i64) w A0_0 l0_0.length l0_0) (hc0_0 : l0_0.length ≤ c0_0) (hr1_0 : Kd.C (Kd.int .i64) w A1_0 l1_0.length l1_0) (hc1_0 : l1_0.length ≤ c1_0) (h : g37_.f k l0_0 l1_0 = some r) :
 Calls Try.prog 30 #[.agg #[.slice A0_0 l0_0.length c0_0], .agg #[.slice A1_0 l1_0.length c1_0]] w fun e w' => e = .returned (.bool r) ∧ Below w.heap.size w w' := by
 have hu52 := Try.underlying52
 have hu33 := Try.underlying33
 have HR0_0 := Aside0.mk hr0_0
 have HC0_0 := Aside0.mk hc0_0
 clear hr0_0 hc0_0
 have HR1_0 := Aside0.mk hr1_0
 have HC1_0 := Aside0.mk hc1_0
 clear hr1_0 hc1_0
 have HB := Aside0.mk (Below.refl w.heap.size w)
 have H : ((g19_.f k l0_0 l1_0).bind fun t267 => (some t267)) = some r := h
 clear h
 replace H := Option.bind_eq_some_iff.mp H
 obtain ⟨t267, A30, H⟩ := H
 replace H : (some t267) = some r := H
 have A3 := Aside0.mk A30
 clear A30
 obtain rfl := Option.some.inj H
 go_enter Try.func30, Try.ntmps30
 go_wp2_with (first | ((with_reducible refine gate_dst (N := 2) rfl ?_); refine bx 2 (#[.slice A0_0 l0_0.length c0_0]) 52 ?_; intro gb265 hg w4 hbox hb; have n0_ := Aside0.mk (below_step zB hb); have n1_ := Aside0.mk (hbox); have n2_ := Aside0.mk ((zG hg : w.heap.size ≤ gb265)); have n3_ := Aside0.mk ((zG hg : w.heap.size ≤ gb265)); clear HB; have HB := n0_; have BK265 := n1_; have GW265 := n2_; have GE265 := n3_; clear n0_ n1_ n2_ n3_; clear hb hbox hg) | ((with_reducible refine gate_dst (N := 3) rfl ?_); refine bx 3 (#[.slice A1_0 l1_0.length c1_0]) 52 ?_; intro gb266 hg w5 hbox hb; have n0_ := Aside0.mk (blk_below (g := gb265) (o := .cells #[.slice A0_0 l0_0.length c0_0] 52 (0, 0)) (zK BK265) hb); have n1_ := Aside0.mk (below_step zB hb); have n2_ := Aside0.mk (hbox); have n3_ := Aside0.mk ((zG hg : w.heap.size ≤ gb266)); have n4_ := Aside0.mk ((zG hg : w.heap.size ≤ gb266)); have n5_ := Aside0.mk ((by rw [hg]; exact Nat.ne_of_lt (blk_lt (g := gb265) (o := .cells #[.slice A0_0 l0_0.length c0_0] 52 (0, 0)) (zK BK265)) : gb265 ≠ gb266)); have n6_ := Aside0.mk ((by rw [hg]; exact Nat.ne_of_gt (blk_lt (g := gb265) (o := .cells #[.slice A0_0 l0_0.length c0_0] 52 (0, 0)) (zK BK265)) : gb266 ≠ gb265)); clear BK265; clear HB; have BK265 := n0_; have HB := n1_; have BK266 := n2_; have GW266 := n3_; have GE266 := n4_; have NB265_266 := n5_; have NB266_265 := n6_; clear n0_ n1_ n2_ n3_ n4_ n5_ n6_; clear hb hbox hg; have hnb6 := NB265_266.out; have hnc6 := NB266_265.out; have hcz7_0 : w5.cell? ⟨gb265, 0, none⟩ = some (.slice A0_0 l0_0.length c0_0) := zT BK265 0; have hfz7_0 := blk_frozen BK265.out 0; have hcz8_0 : w5.cell? ⟨gb266, 0, none⟩ = some (.slice A1_0 l1_0.length c1_0) := zT BK266 0; have hfz8_0 := blk_frozen BK266.out 0) | ((with_reducible refine gate_callee (f := 21) rfl ?_); refine goesL_ (some 9) rfl rfl Try.func21 (by kernel_rfl) rfl #[.slice A0_0 l0_0.length c0_0, .slice A1_0 l1_0.length c1_0] rfl zM ?_; (with_reducible refine (g19_.calls k _ _ l0_0 _ _ l1_0 t267 _ ?side1 ?side2 ?side3 ?side4 A3.out).mono ?_); (case side1 => exact zC HR0_0 HB); (case side2 => exact HC0_0.out); (case side3 => exact zC HR1_0 HB); (case side4 => exact HC1_0.out); rintro e w' ⟨rfl, ⟨nd, rfl⟩⟩; refine ⟨_, rfl, ?_⟩))
 go_ret
 exact ⟨zE, zB⟩
/-! ### g2_: function 19 -/
def g2_.l0 : Nat → List (S52) → List (S52) → Int → Int → Option (Bool)
  | 0, _, _, _, _ => none
  | k + 1, x1, x15, x16, x17 => if x17 < x16 then (if 0 ≤ x17 then (if x17 < (x15.length : Int) then (if x17 < (x1.length : Int) then ((g37_.f k ((rd_T52 x15 x17).f0) ((rd_T52 x1 x17).f0)).bind fun t272 => (if t272 = true then (g2_.l0 k x1 x15 x16 (wrap64 (x17 + 1))) else (some false))) else (none)) else (none)) else (none)) else (some true)
def g2_.f (k : Nat) (l0 : List (S52)) (l1 : List (S52))  : Option (Bool) := if (l0.length : Int) = (l1.length : Int) then (g2_.l0 k l1 l0 (l0.length : Int) 0) else (some false)
theorem g2_.mono_l : ∀ k, (∀ y0 y1 y2 y3, LeO (g2_.l0 k y0 y1 y2 y3) (g2_.l0 (k + 1) y0 y1 y2 y3))
  | 0 => fun _ _ _ _ r h => by simp [g2_.l0] at h
  | k + 1 => by
    have ih0 := g2_.mono_l k
    · intro y0 y1 y2 y3
      unfold g2_.l0
      repeat' (with_reducible first | exact ih0 _ _ _ _ | exact g37_.mono _ _ _ | exact LeO.refl _ | exact LeO.none _ | refine LeO.ite ?_ ?_ | refine LeO.bind ?_ (fun _ => ?_))
theorem g2_.mono : ∀ a0 a1 k, LeO (g2_.f k a0 a1) (g2_.f (k + 1) a0 a1) := by
  intro a0 a1 k
  have ih0 := g2_.mono_l k
  unfold g2_.f
  repeat' (with_reducible first | exact ih0 _ _ _ _ | exact g37_.mono _ _ _ | exact LeO.refl _ | exact LeO.none _ | refine LeO.ite ?_ ?_ | refine LeO.bind ?_ (fun _ => ?_))
set_option maxHeartbeats 8000000 in
set_option maxRecDepth 100000 in
theorem g2_.calls (k : Nat) (A0 : Option Addr) (c0 : Nat) (l0 : List (S52)) (A1 : Option Addr) (c1 : Nat) (l1 : List (S52))  (r : Bool) (w : World) (hr0 : Kd.C k52 w A0 l0.length l0) (hc0 : l0.length ≤ c0) (hr1 : Kd.C k52 w A1 l1.length l1) (hc1 : l1.length ≤ c1) (h : g2_.f k l0 l1 = some r) :
 Calls Try.prog 19 #[.slice A0 l0.length c0, .slice A1 l1.length c1, .func (.func 30) #[] #[]] w fun e w' => e = .returned (.bool r) ∧ Below w.heap.size w w' := by
 have hu52 := Try.underlying52
 have HR0 := Aside0.mk hr0
 have HC0 := Aside0.mk hc0
 clear hr0 hc0
 have HR1 := Aside0.mk hr1
 have HC1 := Aside0.mk hc1
 clear hr1 hc1
 have HB := Aside0.mk (Below.refl w.heap.size w)
 have H : (if (l0.length : Int) = (l1.length : Int) then (g2_.l0 k l1 l0 (l0.length : Int) 0) else (some false)) = some r := h
 clear h
 by_cases c4 : (l0.length : Int) = (l1.length : Int)
 rotate_left
 ·
  rw [if_neg c4] at H
  have c4b0 : ((l0.length : Int) == (l1.length : Int)) = false := beq_eq_false_iff_ne.mpr c4
  have c4b1 : ((l0.length : Int) != (l1.length : Int)) = true := bne_iff_ne.mpr c4
  have c4b2 : (l0.length == l1.length) = false := by first | simpa using c4 | (simp at c4 ⊢; omega)
  obtain rfl := Option.some.inj H
  go_enter Try.func19, Try.ntmps19
  go_wp2
  go_ret
  exact ⟨zE, zB⟩
 rw [if_pos c4] at H
 have c4b0 : ((l0.length : Int) == (l1.length : Int)) = true := beq_iff_eq.mpr c4
 have c4b1 : ((l0.length : Int) != (l1.length : Int)) = false := bne_eq_false_iff_eq.mpr c4
 have c4b2 : (l0.length == l1.length) = true := by first | simpa using c4 | (simp at c4 ⊢; omega)
 clear c4
 have H' := Aside0.mk H
 clear H
 go_enter Try.func19, Try.ntmps19
 go_wp2
 go_loopg [17] k (fun kq v17 w' => ∃ (x17_1 : Int), v17 = .int .i64 x17_1 ∧ Aside0 (g2_.l0 kq l1 l0 (l0.length : Int) x17_1 = some r) ∧ Aside0 (kq ≤ k) ∧ Aside0 (Below w.heap.size w w'))
 case atStart => exact ⟨(0), zR, H', ⟨Nat.le_refl _⟩, ⟨zB⟩⟩
 clear H'
 try clear c1
 try clear p2
 try clear c4
 try clear c4b0
 try clear c4b1
 try clear c4b2
 obtain ⟨x17_1, rfl, HA, HK1, HB⟩ := hrel
 rcases gk with _ | k1
 · exact absurd HA.out (by simp [g2_.l0])
 have H := HA.out
 clear HA
 simp only [g2_.l0] at H
 by_cases c5 : x17_1 < (l0.length : Int)
 rotate_left
 ·
  rw [if_neg c5] at H
  have c5b0 : decide (x17_1 < (l0.length : Int)) = false := decide_eq_false c5
  clear c5
  obtain rfl := Option.some.inj H
  go_wp2
  go_ret
  exact ⟨zE, zB⟩
 rw [if_pos c5] at H
 have c5b0 : decide (x17_1 < (l0.length : Int)) = true := decide_eq_true c5
 clear c5
 by_cases c6 : 0 ≤ x17_1
 rotate_left
 · rw [if_neg c6] at H; exact absurd H (by simp)
 rw [if_pos c6] at H
 have c6b0 : decide (0 ≤ x17_1) = true := decide_eq_true c6
 clear c6
 by_cases c7 : x17_1 < (l0.length : Int)
 rotate_left
 · rw [if_neg c7] at H; exact absurd H (by simp)
 rw [if_pos c7] at H
 have c7b0 : decide (x17_1 < (l0.length : Int)) = true := decide_eq_true c7
 clear c7
 by_cases c8 : x17_1 < (l1.length : Int)
 rotate_left
 · rw [if_neg c8] at H; exact absurd H (by simp)
 rw [if_pos c8] at H
 have c8b0 : decide (x17_1 < (l1.length : Int)) = true := decide_eq_true c8
 clear c8
 replace H := Option.bind_eq_some_iff.mp H
 obtain ⟨t272, A90, H⟩ := H
 replace H : (if t272 = true then (g2_.l0 k1 l1 l0 (l0.length : Int) (wrap64 (x17_1 + 1))) else (some false)) = some r := H
 have A9 := Aside0.mk A90
 clear A90
 by_cases c10 : t272 = true
 ·
  subst c10
  have H1 : (g2_.l0 k1 l1 l0 (l0.length : Int) (wrap64 (x17_1 + 1))) = some r := by rw [if_pos rfl] at H; exact H
  clear H
  have H := H1
  clear H1
  have H' := Aside0.mk H
  clear H
  have p268 : 0 ≤ (x17_1 : Int) := od
  have q268 : x17_1 < (l0.length : Int) := od
  obtain ⟨ad268, A268_0, c268_0, e268, hx268_0, hl268_0, hi268_0⟩ := at_T52 HR0.out x17_1 p268 q268
  cases e268
  replace hx268_0 := zL HB hx268_0
  have HR268_0 := Aside0.mk hi268_0
  have HC268_0 := Aside0.mk hl268_0
  clear hi268_0 hl268_0
  replace p268 := eq_true p268
  replace q268 := eq_true q268
  go_wp2_with (first | ((with_reducible refine gate_dst (N := 8) rfl ?_); refine bx 8 (#[.slice none 0 0]) 52 ?_; intro gb269 hg w11 hbox hb; have n0_ := Aside0.mk (below_step zB hb); have n1_ := Aside0.mk (hbox); have n2_ := Aside0.mk ((zG hg : w.heap.size ≤ gb269)); have n3_ := Aside0.mk ((zG hg : w.heap.size ≤ gb269)); clear HB; have HB := n0_; have BK269 := n1_; have GW269 := n2_; have GE269 := n3_; clear n0_ n1_ n2_ n3_; clear hb hbox hg; have hcz12_0 : w11.cell? ⟨gb269, 0, none⟩ = some (.slice none 0 0) := zT BK269 0; have hfz12_0 := blk_frozen BK269.out 0; have p270 : 0 ≤ (x17_1 : Int) := od; have q270 : x17_1 < (l1.length : Int) := od; obtain ⟨ad270, A270_0, c270_0, e270, hx270_0, hl270_0, hi270_0⟩ := at_T52 HR1.out x17_1 p270 q270; cases e270; have hn270_0 : ad270.block ≠ gb269 := Nat.ne_of_lt (Nat.lt_of_lt_of_le (by have := World.block_lt_of_cell? _ _ hx270_0; first | rwa [add_block] at this | exact this) GW269.out); replace hx270_0 := zL HB hx270_0; have HR270_0 := Aside0.mk hi270_0; have HC270_0 := Aside0.mk hl270_0; clear hi270_0 hl270_0; replace hx270_0 := (cell_far (p := ⟨gb269, 0, none⟩) (by first | (rw [add_block]; exact hn270_0) | (show (Addr.add _ _).block ≠ _; rw [add_block]; exact hn270_0) | exact hn270_0) (.slice A268_0 ((rd_T52 l0 x17_1).f0).length c268_0)).trans hx270_0; clear hn270_0; replace p270 := eq_true p270; replace q270 := eq_true q270) | ((with_reducible refine gate_dst (N := 9) rfl ?_); refine bx 9 (#[.slice none 0 0]) 52 ?_; intro gb271 hg w13 hbox hb; have n0_ := Aside0.mk (blk_below (g := gb269) (o := .cells #[.slice A268_0 ((rd_T52 l0 x17_1).f0).length c268_0] 52 (0, 0)) (by (with_reducible repeat (first | refine blk_drewN ?_ _ | refine blk_drew ?_ | refine blk_alloc ?_ _)); refine blk_put (cs := #[.slice none 0 0]) ?_ 0 _ rfl; (with_reducible repeat (first | refine blk_drewN ?_ _ | refine blk_drew ?_ | refine blk_alloc ?_ _)); exact BK269.out) hb); have n1_ := Aside0.mk (below_step zB hb); have n2_ := Aside0.mk (hbox); have n3_ := Aside0.mk ((zG hg : w.heap.size ≤ gb271)); have n4_ := Aside0.mk ((zG hg : w.heap.size ≤ gb271)); have n5_ := Aside0.mk ((by rw [hg]; exact Nat.ne_of_lt (blk_lt (g := gb269) (o := .cells #[.slice A268_0 ((rd_T52 l0 x17_1).f0).length c268_0] 52 (0, 0)) (by (with_reducible repeat (first | refine blk_drewN ?_ _ | refine blk_drew ?_ | refine blk_alloc ?_ _)); refine blk_put (cs := #[.slice none 0 0]) ?_ 0 _ rfl; (with_reducible repeat (first | refine blk_drewN ?_ _ | refine blk_drew ?_ | refine blk_alloc ?_ _)); exact BK269.out)) : gb269 ≠ gb271)); have n6_ := Aside0.mk ((by rw [hg]; exact Nat.ne_of_gt (blk_lt (g := gb269) (o := .cells #[.slice A268_0 ((rd_T52 l0 x17_1).f0).length c268_0] 52 (0, 0)) (by (with_reducible repeat (first | refine blk_drewN ?_ _ | refine blk_drew ?_ | refine blk_alloc ?_ _)); refine blk_put (cs := #[.slice none 0 0]) ?_ 0 _ rfl; (with_reducible repeat (first | refine blk_drewN ?_ _ | refine blk_drew ?_ | refine blk_alloc ?_ _)); exact BK269.out)) : gb271 ≠ gb269)); clear BK269; clear HB; have BK269 := n0_; have HB := n1_; have BK271 := n2_; have GW271 := n3_; have GE271 := n4_; have NB269_271 := n5_; have NB271_269 := n6_; clear n0_ n1_ n2_ n3_ n4_ n5_ n6_; clear hb hbox hg; have hnb14 := NB271_269.out; have hnc14 := NB269_271.out; have hcz15_0 : w13.cell? ⟨gb271, 0, none⟩ = some (.slice none 0 0) := zT BK271 0; have hfz15_0 := blk_frozen BK271.out 0; have hcz16_0 : w13.cell? ⟨gb269, 0, none⟩ = some (.slice A268_0 ((rd_T52 l0 x17_1).f0).length c268_0) := zT BK269 0; have hfz16_0 := blk_frozen BK269.out 0) | (go_at_call 30; (with_reducible refine (g37_.calls k1 _ _ ((rd_T52 l0 x17_1).f0) _ _ ((rd_T52 l1 x17_1).f0) true _ ?side1 ?side2 ?side3 ?side4 A9.out).mono ?_); (case side1 => exact Kd.C_below HR268_0.out zB); (case side2 => exact HC268_0.out); (case side3 => exact Kd.C_below HR270_0.out zB); (case side4 => exact HC270_0.out); rintro e w17 ⟨rfl, hb⟩; have n0_ := Aside0.mk (blk_below (g := gb269) (o := .cells #[.slice A268_0 ((rd_T52 l0 x17_1).f0).length c268_0] 52 (0, 0)) (by (with_reducible repeat (first | refine blk_drewN ?_ _ | refine blk_drew ?_ | refine blk_alloc ?_ _)); refine blk_far ?_ NB269_271.out _; (with_reducible repeat (first | refine blk_drewN ?_ _ | refine blk_drew ?_ | refine blk_alloc ?_ _)); exact BK269.out) hb); have n1_ := Aside0.mk (blk_below (g := gb271) (o := .cells #[.slice A270_0 ((rd_T52 l1 x17_1).f0).length c270_0] 52 (0, 0)) (by (with_reducible repeat (first | refine blk_drewN ?_ _ | refine blk_drew ?_ | refine blk_alloc ?_ _)); refine blk_put (cs := #[.slice none 0 0]) ?_ 0 _ rfl; (with_reducible repeat (first | refine blk_drewN ?_ _ | refine blk_drew ?_ | refine blk_alloc ?_ _)); exact BK271.out) hb); have n2_ := Aside0.mk (below_step zB hb); clear BK269; clear BK271; clear HB; have BK269 := n0_; have BK271 := n1_; have HB := n2_; clear n0_ n1_ n2_; (try clear hb); (try clear hb2); (try clear hk); (try clear hi)))
  go_roundg k1
  case measure => have := HK1.out; omega
  case rel => exact ⟨(wrap64 (x17_1 + 1)), zR, H', ⟨by have := HK1.out; omega⟩, ⟨zB⟩⟩
 replace c10 := Bool.eq_false_iff.mpr c10
 subst c10
 have H1 : (some false) = some r := by rw [if_neg (show ¬ (false = true) by decide)] at H; exact H
 clear H
 have H := H1
 clear H1
 obtain rfl := Option.some.inj H
 have p268 : 0 ≤ (x17_1 : Int) := od
 have q268 : x17_1 < (l0.length : Int) := od
 obtain ⟨ad268, A268_0, c268_0, e268, hx268_0, hl268_0, hi268_0⟩ := at_T52 HR0.out x17_1 p268 q268
 cases e268
 replace hx268_0 := zL HB hx268_0
 have HR268_0 := Aside0.mk hi268_0
 have HC268_0 := Aside0.mk hl268_0
 clear hi268_0 hl268_0
 replace p268 := eq_true p268
 replace q268 := eq_true q268
 go_wp2_with (first | ((with_reducible refine gate_dst (N := 8) rfl ?_); refine bx 8 (#[.slice none 0 0]) 52 ?_; intro gb269 hg w18 hbox hb; have n0_ := Aside0.mk (below_step zB hb); have n1_ := Aside0.mk (hbox); have n2_ := Aside0.mk ((zG hg : w.heap.size ≤ gb269)); have n3_ := Aside0.mk ((zG hg : w.heap.size ≤ gb269)); clear HB; have HB := n0_; have BK269 := n1_; have GW269 := n2_; have GE269 := n3_; clear n0_ n1_ n2_ n3_; clear hb hbox hg; have hcz19_0 : w18.cell? ⟨gb269, 0, none⟩ = some (.slice none 0 0) := zT BK269 0; have hfz19_0 := blk_frozen BK269.out 0; have p270 : 0 ≤ (x17_1 : Int) := od; have q270 : x17_1 < (l1.length : Int) := od; obtain ⟨ad270, A270_0, c270_0, e270, hx270_0, hl270_0, hi270_0⟩ := at_T52 HR1.out x17_1 p270 q270; cases e270; have hn270_0 : ad270.block ≠ gb269 := Nat.ne_of_lt (Nat.lt_of_lt_of_le (by have := World.block_lt_of_cell? _ _ hx270_0; first | rwa [add_block] at this | exact this) GW269.out); replace hx270_0 := zL HB hx270_0; have HR270_0 := Aside0.mk hi270_0; have HC270_0 := Aside0.mk hl270_0; clear hi270_0 hl270_0; replace hx270_0 := (cell_far (p := ⟨gb269, 0, none⟩) (by first | (rw [add_block]; exact hn270_0) | (show (Addr.add _ _).block ≠ _; rw [add_block]; exact hn270_0) | exact hn270_0) (.slice A268_0 ((rd_T52 l0 x17_1).f0).length c268_0)).trans hx270_0; clear hn270_0; replace p270 := eq_true p270; replace q270 := eq_true q270) | ((with_reducible refine gate_dst (N := 9) rfl ?_); refine bx 9 (#[.slice none 0 0]) 52 ?_; intro gb271 hg w20 hbox hb; have n0_ := Aside0.mk (blk_below (g := gb269) (o := .cells #[.slice A268_0 ((rd_T52 l0 x17_1).f0).length c268_0] 52 (0, 0)) (by (with_reducible repeat (first | refine blk_drewN ?_ _ | refine blk_drew ?_ | refine blk_alloc ?_ _)); refine blk_put (cs := #[.slice none 0 0]) ?_ 0 _ rfl; (with_reducible repeat (first | refine blk_drewN ?_ _ | refine blk_drew ?_ | refine blk_alloc ?_ _)); exact BK269.out) hb); have n1_ := Aside0.mk (below_step zB hb); have n2_ := Aside0.mk (hbox); have n3_ := Aside0.mk ((zG hg : w.heap.size ≤ gb271)); have n4_ := Aside0.mk ((zG hg : w.heap.size ≤ gb271)); have n5_ := Aside0.mk ((by rw [hg]; exact Nat.ne_of_lt (blk_lt (g := gb269) (o := .cells #[.slice A268_0 ((rd_T52 l0 x17_1).f0).length c268_0] 52 (0, 0)) (by (with_reducible repeat (first | refine blk_drewN ?_ _ | refine blk_drew ?_ | refine blk_alloc ?_ _)); refine blk_put (cs := #[.slice none 0 0]) ?_ 0 _ rfl; (with_reducible repeat (first | refine blk_drewN ?_ _ | refine blk_drew ?_ | refine blk_alloc ?_ _)); exact BK269.out)) : gb269 ≠ gb271)); have n6_ := Aside0.mk ((by rw [hg]; exact Nat.ne_of_gt (blk_lt (g := gb269) (o := .cells #[.slice A268_0 ((rd_T52 l0 x17_1).f0).length c268_0] 52 (0, 0)) (by (with_reducible repeat (first | refine blk_drewN ?_ _ | refine blk_drew ?_ | refine blk_alloc ?_ _)); refine blk_put (cs := #[.slice none 0 0]) ?_ 0 _ rfl; (with_reducible repeat (first | refine blk_drewN ?_ _ | refine blk_drew ?_ | refine blk_alloc ?_ _)); exact BK269.out)) : gb271 ≠ gb269)); clear BK269; clear HB; have BK269 := n0_; have HB := n1_; have BK271 := n2_; have GW271 := n3_; have GE271 := n4_; have NB269_271 := n5_; have NB271_269 := n6_; clear n0_ n1_ n2_ n3_ n4_ n5_ n6_; clear hb hbox hg; have hnb21 := NB271_269.out; have hnc21 := NB269_271.out; have hcz22_0 : w20.cell? ⟨gb271, 0, none⟩ = some (.slice none 0 0) := zT BK271 0; have hfz22_0 := blk_frozen BK271.out 0; have hcz23_0 : w20.cell? ⟨gb269, 0, none⟩ = some (.slice A268_0 ((rd_T52 l0 x17_1).f0).length c268_0) := zT BK269 0; have hfz23_0 := blk_frozen BK269.out 0) | (go_at_call 30; (with_reducible refine (g37_.calls k1 _ _ ((rd_T52 l0 x17_1).f0) _ _ ((rd_T52 l1 x17_1).f0) false _ ?side1 ?side2 ?side3 ?side4 A9.out).mono ?_); (case side1 => exact Kd.C_below HR268_0.out zB); (case side2 => exact HC268_0.out); (case side3 => exact Kd.C_below HR270_0.out zB); (case side4 => exact HC270_0.out); rintro e w24 ⟨rfl, hb⟩; have n0_ := Aside0.mk (blk_below (g := gb269) (o := .cells #[.slice A268_0 ((rd_T52 l0 x17_1).f0).length c268_0] 52 (0, 0)) (by (with_reducible repeat (first | refine blk_drewN ?_ _ | refine blk_drew ?_ | refine blk_alloc ?_ _)); refine blk_far ?_ NB269_271.out _; (with_reducible repeat (first | refine blk_drewN ?_ _ | refine blk_drew ?_ | refine blk_alloc ?_ _)); exact BK269.out) hb); have n1_ := Aside0.mk (blk_below (g := gb271) (o := .cells #[.slice A270_0 ((rd_T52 l1 x17_1).f0).length c270_0] 52 (0, 0)) (by (with_reducible repeat (first | refine blk_drewN ?_ _ | refine blk_drew ?_ | refine blk_alloc ?_ _)); refine blk_put (cs := #[.slice none 0 0]) ?_ 0 _ rfl; (with_reducible repeat (first | refine blk_drewN ?_ _ | refine blk_drew ?_ | refine blk_alloc ?_ _)); exact BK271.out) hb); have n2_ := Aside0.mk (below_step zB hb); clear BK269; clear BK271; clear HB; have BK269 := n0_; have BK271 := n1_; have HB := n2_; clear n0_ n1_ n2_; (try clear hb); (try clear hb2); (try clear hk); (try clear hi)))
 go_ret
 exact ⟨zE, zB⟩
end Go.Proofs.Ytplcdbhklepkgaa.BS
