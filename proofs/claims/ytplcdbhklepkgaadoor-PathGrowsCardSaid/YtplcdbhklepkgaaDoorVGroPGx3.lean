-- Made by gen.py, a program of this session's, over the kit's print.
import Derived.Test.YtplcdbhklepkgaaDoorVGroShort
import Derived.Test.YtplcdbhklepkgaaDoorVGroPGx0
import Derived.Test.YtplcdbhklepkgaaDoorVGroPGx2
namespace Go.Proofs.YtplcdbhklepkgaaDoor.PG
open Go.RowKit Go.Proofs.YtplcdbhklepkgaaDoorW.PrintWords Go.Proofs.YtplcdbhklepkgaaDoorW.PrintLast Go.Proofs.YtplcdbhklepkgaaDoorW.PrintMore Go.Proofs.YtplcdbhklepkgaaDoor.GenWords
attribute [local go_sem] max2_int min2_int max_two min_two max_three min_three max_four min_four   -- for this text's walks alone
set_option linter.unusedVariables false
set_option linter.unusedSimpArgs false

/-! ### g0_: function 56 -/
mutual
def g0_.l0 : Nat → List Int → Int → Int → Int → Option (List Int)
  | 0, _, _, _, _ => none
  | k + 1, x0, x1, x2, x6 => if x6 < x2 then (g0_.l1 k x0 x1 x2 x6 x6) else (some x0)
def g0_.l1 : Nat → List Int → Int → Int → Int → Int → Option (List Int)
  | 0, _, _, _, _, _ => none
  | k + 1, x0, x1, x2, x6, x7 => if x7 > x1 then (if 0 ≤ x7 then (if x7 < (x0.length : Int) then (if 0 ≤ (wrap64 (x7 - 1)) then (if (wrap64 (x7 - 1)) < (x0.length : Int) then ((cmp_Less_int.f (rd x0 x7) (rd x0 (wrap64 (x7 - 1)))).bind fun t144 => (if t144 = true then (g0_.l1 k ((x0.set (x7 : Int).toNat (rd x0 (wrap64 (x7 - 1)))).set ((wrap64 (x7 - 1)) : Int).toNat (rd x0 x7)) x1 x2 x6 (wrap64 (x7 - 1))) else (g0_.l0 k x0 x1 x2 (wrap64 (x6 + 1))))) else (none)) else (none)) else (none)) else (none)) else (g0_.l0 k x0 x1 x2 (wrap64 (x6 + 1)))
end
def g0_.f (k : Nat) (l0 : List Int) (a1 : Int) (a2 : Int) : Option (List Int) := g0_.l0 k l0 a1 a2 (wrap64 (a1 + 1))
theorem g0_.mono_l : ∀ k, (∀ y0 y1 y2 y3, LeO (g0_.l0 k y0 y1 y2 y3) (g0_.l0 (k + 1) y0 y1 y2 y3)) ∧ (∀ y0 y1 y2 y3 y4, LeO (g0_.l1 k y0 y1 y2 y3 y4) (g0_.l1 (k + 1) y0 y1 y2 y3 y4))
  | 0 => ⟨fun _ _ _ _ r h => by simp [g0_.l0] at h, fun _ _ _ _ _ r h => by simp [g0_.l1] at h⟩
  | k + 1 => by
    obtain ⟨ih0, ih1⟩ := g0_.mono_l k
    refine ⟨?_, ?_⟩
    · intro y0 y1 y2 y3
      unfold g0_.l0
      repeat' (with_reducible first | exact ih0 _ _ _ _ | exact ih1 _ _ _ _ _ | exact LeO.refl _ | exact LeO.none _ | refine LeO.ite ?_ ?_ | refine LeO.bind ?_ (fun _ => ?_))
    · intro y0 y1 y2 y3 y4
      unfold g0_.l1
      repeat' (with_reducible first | exact ih0 _ _ _ _ | exact ih1 _ _ _ _ _ | exact LeO.refl _ | exact LeO.none _ | refine LeO.ite ?_ ?_ | refine LeO.bind ?_ (fun _ => ?_))
theorem g0_.mono : ∀ a0 a1 a2 k, LeO (g0_.f k a0 a1 a2) (g0_.f (k + 1) a0 a1 a2) := by
  intro a0 a1 a2 k
  obtain ⟨ih0, ih1⟩ := g0_.mono_l k
  unfold g0_.f
  repeat' (with_reducible first | exact ih0 _ _ _ _ | exact ih1 _ _ _ _ _ | exact LeO.refl _ | exact LeO.none _ | refine LeO.ite ?_ ?_ | refine LeO.bind ?_ (fun _ => ?_))
def g0_.T4 : Bool × List (List Nat × List Nat) := (true, [([], []), ([], []), ([0, 1], [0, 1]), ([2], [2]), ([3], [3]), ([3], [3]), ([4, 5, 3], [3, 4, 5]), ([6, 3], [3, 6]), ([3], [3]), ([3], [3]), ([9, 3], [3, 9]), ([8, 10, 3], [3, 8, 10]), ([11, 3], [3, 11]), ([7, 12, 3, 3], [3, 7, 12]), ([3, 13], [3, 13])])
def g0_.B4 : List Nat := [0, 0, 3, 7, 15, 15, 63, 127, 15, 15, 527, 1807, 3855, 8191, 16383]
theorem g0_.tab4 : rtab .any (opsOf Tryd.f56 4) = g0_.T4 := by kernel_rfl
theorem g0_.bits4 : waitsOk g0_.T4.2 g0_.B4 = true := by kernel_rfl
def g0_.T6 : Bool × List (List Nat × List Nat) := (true, [([], []), ([], []), ([], []), ([], []), ([3], [3]), ([], []), ([], []), ([6], [6]), ([5, 7], [5, 7]), ([8], [8]), ([], []), ([], []), ([10, 11], [10, 11]), ([12], [12]), ([0, 1, 0, 1, 5, 6, 7, 8, 9, 13], [0, 1]), ([14, 9, 0, 1, 5, 6, 7, 8, 9, 13], [9, 14]), ([2, 4, 0, 1, 2, 3, 4, 5, 6, 7, 8, 9, 10, 11, 12, 13, 14, 15], [2, 4]), ([16, 13, 15, 0, 1, 2, 3, 4, 5, 6, 7, 8, 9, 10, 11, 12, 13, 14, 15], [13, 16])])
def g0_.B6 : List Nat := [0, 0, 0, 0, 8, 0, 0, 64, 224, 480, 0, 0, 3072, 7168, 16355, 32739, 65535, 131071]
theorem g0_.tab6 : rtab .any (opsOf Tryd.f56 6) = g0_.T6 := by kernel_rfl
theorem g0_.bits6 : waitsOk g0_.T6.2 g0_.B6 = true := by kernel_rfl
set_option maxHeartbeats 8000000 in
set_option maxRecDepth 100000 in
theorem g0_.calls (k : Nat) (P0_ : Nat → Prop) (u9000_ : Value) (l0 : List Int) (a1 : Int) (a2 : Int) (r : List Int) (w0 w : World) (hB : Below w0.heap.size w0 w) (ho0 : Kd.R (Kd.int .i64) 3 w w0.heap.size P0_ u9000_ l0) (h : g0_.f k l0 a1 a2 = some r) :
 Calls Tryd.prog 56 #[u9000_, .int .i64 a1, .int .i64 a2] w fun e w' => e = .returned (.tuple #[]) ∧ Kd.R (Kd.int .i64) 3 w' w0.heap.size (fun k_ => (P0_ k_ ∨ w.heap.size ≤ k_)) u9000_ r ∧ Below w0.heap.size w0 w' ∧ Kept w w' (fun k_ => P0_ k_) := by
 have hu3 := Tryd.underlying3
 have HO0 := Aside0.mk (show Kd.R (Kd.int .i64) 3 w w0.heap.size (fun k_ => (P0_ k_ ∨ w.heap.size ≤ k_)) u9000_ l0 from Kd.R_mono ho0 (fun k_ hk => (.inl hk)))
 have HK := Aside0.mk (Kept.refl w (fun k_ => P0_ k_))
 have HW0 := Aside0.mk hB.size
 have HB := Aside0.mk hB
 clear hB
 have H : (g0_.l0 k l0 a1 a2 (wrap64 (a1 + 1))) = some r := h
 clear h
 have H' := Aside0.mk H
 clear H
 go_enter Tryd.func56, Tryd.ntmps56
 go_wp2
 go_loopg [6] k (fun kq v6 w' => ∃ (x0_1 : List Int) (x6_1 : Int), v6 = .int .i64 x6_1 ∧ Aside0 (g0_.l0 kq x0_1 a1 a2 x6_1 = some r) ∧ Aside0 (kq ≤ k) ∧ Aside0 (Kd.R (Kd.int .i64) 3 w' w0.heap.size (fun k_ => (P0_ k_ ∨ w.heap.size ≤ k_)) u9000_ x0_1) ∧ Aside0 (Kept w w' (fun k_ => P0_ k_)) ∧ Aside0 (Below w0.heap.size w0 w'))
 case atStart => exact ⟨(l0), (wrap64 (a1 + 1)), zR, H', ⟨Nat.le_refl _⟩, ⟨zO HO0⟩, ⟨zH⟩, ⟨zB⟩⟩
 clear H'
 try clear p2
 obtain ⟨x0_1, x6_1, rfl, HA, HK1, HO_0, HK, HB⟩ := hrel
 rcases gk with _ | k1
 · exact absurd HA.out (by simp [g0_.l0])
 have H := HA.out
 clear HA
 simp only [g0_.l0] at H
 by_cases c4 : x6_1 < a2
 rotate_left
 ·
  rw [if_neg c4] at H
  have c4b0 : decide (x6_1 < a2) = false := decide_eq_false c4
  clear c4
  obtain rfl := Option.some.inj H
  go_wp2
  first | go_end0 | ((try simp only [Exit.inBlock, Exit.then]); refine bodyPost_ret (results_none rfl _ _ _) rfl ?_)
  exact ⟨zE, by (with_reducible repeat (first | apply Kd.R_alloc | apply Kd.R_drewN | apply Kd.R_drew)); exact HO_0.out, zB, zH⟩
 rw [if_pos c4] at H
 have c4b0 : decide (x6_1 < a2) = true := decide_eq_true c4
 clear c4
 have H' := Aside0.mk H
 clear H
 go_wp2
 go_loopg [7] k1 (fun kq v7 w' => ∃ (x0_2 : List Int) (x7_2 : Int), v7 = .int .i64 x7_2 ∧ Aside0 (g0_.l1 kq x0_2 a1 a2 x6_1 x7_2 = some r) ∧ Aside0 (kq ≤ k1) ∧ Aside0 (Kd.R (Kd.int .i64) 3 w' w0.heap.size (fun k_ => (P0_ k_ ∨ w.heap.size ≤ k_)) u9000_ x0_2) ∧ Aside0 (Kept w w' (fun k_ => P0_ k_)) ∧ Aside0 (Below w0.heap.size w0 w'))
 case atStart => exact ⟨(x0_1), (x6_1), zR, H', ⟨Nat.le_refl _⟩, ⟨zO HO_0⟩, ⟨zH⟩, ⟨zB⟩⟩
 clear H'
 try clear p2
 try clear c4
 try clear c4b0
 try clear p2
 obtain ⟨x0_2, x7_2, rfl, HA, HK2, HO_0, HK, HB⟩ := hrel
 rcases gk with _ | k2
 · exact absurd HA.out (by simp [g0_.l1])
 have H := HA.out
 clear HA
 simp only [g0_.l1] at H
 by_cases c5 : x7_2 > a1
 rotate_left
 ·
  rw [if_neg c5] at H
  have c5b0 : decide (a1 < x7_2) = false := decide_eq_false c5
  clear c5
  have H' := Aside0.mk H
  clear H
  try go_wp2
  have n0_ := Aside0.mk (Kd.R_drew HO_0.out)
  have n1_ := Aside0.mk (Kept.drew HK.out)
  have n2_ := Aside0.mk (below_drew1 HB.out)
  clear HO_0
  clear HK
  clear HB
  have HO_0 := n0_
  have HK := n1_
  have HB := n2_
  clear n0_ n1_ n2_
  refine start_ (n := 15) (S := fun w' => True) (ds := []) (bm 15 0) (by kernel_rfl) rfl rfl trivial (fun hHeld => ?_); refine with_tabW g0_.tab4 g0_.bits4 (fun HT_ HW_ => ?_)
  generalize wr.drew = w22 at HO_0 HK HB hHeld ⊢
  refine pu 0 (some 16) (bm 15 1) HT_ ?_
  refine pu 1 (some 17) (bm 15 3) HT_ ?_
  refine pu 2 (some 18) (bm 15 7) HT_ ?_
  refine pu 3 (some 19) (bm 15 15) HT_ ?_
  refine pn 4 (some 20) (bm 15 31) HT_ ?_
  refine pn 5 (some 21) (bm 15 63) HT_ ?_
  refine pn 6 (some 22) (bm 15 127) HT_ ?_
  refine pn 7 (some 23) (bm 15 255) HT_ ?_
  refine pn 8 (some 24) (bm 15 511) HT_ ?_
  refine pn 9 (some 25) (bm 15 1023) HT_ ?_
  refine pn 10 (some 26) (bm 15 2047) HT_ ?_
  refine pn 11 (some 27) (bm 15 4095) HT_ ?_
  refine pn 12 (some 28) (bm 15 8191) HT_ ?_
  refine pn 13 (some 29) (bm 15 16383) HT_ ?_
  refine pu 14 (some 30) (bm 15 32767) HT_ ?_
  refine done_ (done_of HT_.out (by kernel_rfl)) ?_
  try go_wp2
  go_roundg k2
  case measure => have := HK1.out; have := HK2.out; omega
  case rel => exact ⟨(x0_2), (wrap64 (x6_1 + 1)), zR, H', ⟨by have := HK1.out; have := HK2.out; omega⟩, ⟨zO HO_0⟩, ⟨zH⟩, ⟨zB⟩⟩
 rw [if_pos c5] at H
 have c5b0 : decide (a1 < x7_2) = true := decide_eq_true c5
 clear c5
 by_cases c6 : 0 ≤ x7_2
 rotate_left
 · rw [if_neg c6] at H; exact absurd H (by simp)
 rw [if_pos c6] at H
 have c6b0 : decide (0 ≤ x7_2) = true := decide_eq_true c6
 clear c6
 by_cases c7 : x7_2 < (x0_2.length : Int)
 rotate_left
 · rw [if_neg c7] at H; exact absurd H (by simp)
 rw [if_pos c7] at H
 have c7b0 : decide (x7_2 < (x0_2.length : Int)) = true := decide_eq_true c7
 clear c7
 obtain ⟨ji8, hji8⟩ : ∃ j_ : Int, (wrap64 (x7_2 - 1)) = j_ := ⟨_, rfl⟩
 replace H : (if 0 ≤ (ji8) then (if (ji8) < (x0_2.length : Int) then ((cmp_Less_int.f (rd x0_2 x7_2) (rd x0_2 (ji8))).bind fun t144 => (if t144 = true then (g0_.l1 k2 ((x0_2.set (x7_2 : Int).toNat (rd x0_2 (ji8))).set ((ji8) : Int).toNat (rd x0_2 x7_2)) a1 a2 x6_1 ji8) else (g0_.l0 k2 x0_2 a1 a2 (wrap64 (x6_1 + 1))))) else (none)) else (none)) = some r := by first | (rw [hji8] at H; exact H) | (simp only [hji8] at H ⊢; exact H)
 have hji8w : (IntKind.i64.wrap (x7_2 - 1)) = ji8 := (i64_w _).trans hji8
 by_cases c9 : 0 ≤ (ji8)
 rotate_left
 · rw [if_neg c9] at H; exact absurd H (by simp)
 rw [if_pos c9] at H
 have c9b0 : decide (0 ≤ (ji8)) = true := decide_eq_true c9
 clear c9
 by_cases c10 : (ji8) < (x0_2.length : Int)
 rotate_left
 · rw [if_neg c10] at H; exact absurd H (by simp)
 rw [if_pos c10] at H
 have c10b0 : decide ((ji8) < (x0_2.length : Int)) = true := decide_eq_true c10
 clear c10
 replace H := Option.bind_eq_some_iff.mp H
 obtain ⟨t144, A110, H⟩ := H
 replace H : (if t144 = true then (g0_.l1 k2 ((x0_2.set (x7_2 : Int).toNat (rd x0_2 (ji8))).set ((ji8) : Int).toNat (rd x0_2 x7_2)) a1 a2 x6_1 ji8) else (g0_.l0 k2 x0_2 a1 a2 (wrap64 (x6_1 + 1)))) = some r := H
 have A11 := Aside0.mk A110
 clear A110
 by_cases c12 : t144 = true
 rotate_left
 ·
  replace c12 := Bool.eq_false_iff.mpr c12
  subst c12
  have H1 : (g0_.l0 k2 x0_2 a1 a2 (wrap64 (x6_1 + 1))) = some r := by rw [if_neg (show ¬ (false = true) by decide)] at H; exact H
  clear H
  have H := H1
  clear H1
  have H' := Aside0.mk H
  clear H
  try go_wp2
  have n0_ := Aside0.mk (Kd.R_drew HO_0.out)
  have n1_ := Aside0.mk (Kept.drew HK.out)
  have n2_ := Aside0.mk (below_drew1 HB.out)
  clear HO_0
  clear HK
  clear HB
  have HO_0 := n0_
  have HK := n1_
  have HB := n2_
  clear n0_ n1_ n2_
  obtain ⟨Ao21, co21, eo21⟩ := Kd.R_slice HO_0.out
  (first | subst eo21 | (injection eo21 with f1_ f2_ f3_; have f4_ := f1_.symm; have f5_ := f3_.symm; clear f1_ f2_ f3_; subst f4_; subst f5_))
  have p142 : 0 ≤ (x7_2 : Int) := od
  have q142 : x7_2 < (x0_2.length : Int) := od
  obtain ⟨ad142, e142, hx142_0⟩ := Kd.at_int (Kd.R_reads' HO_0.out).2.2 x7_2 p142 q142
  cases e142
  replace p142 := eq_true p142
  replace q142 := eq_true q142
  have p143 : 0 ≤ ((ji8) : Int) := od
  have q143 : (ji8) < (x0_2.length : Int) := od
  obtain ⟨ad143, e143, hx143_0⟩ := Kd.at_int (Kd.R_reads' HO_0.out).2.2 (ji8) p143 q143
  obtain rfl : ad142 = ad143 := (by injection e143)
  replace p143 := eq_true p143
  replace q143 := eq_true q143
  refine start_ (n := 15) (S := fun w' => w'.cell? (ad142.add (x7_2).toNat) = some (.int .i64 (rd x0_2 x7_2)) ∧ w'.cell? (ad142.add ((ji8)).toNat) = some (.int .i64 (rd x0_2 (ji8)))) (ds := []) (bm 15 0) (by kernel_rfl) rfl rfl ⟨hx142_0, hx143_0⟩ (fun hHeld => ?_); refine with_tabW g0_.tab4 g0_.bits4 (fun HT_ HW_ => ?_)
  generalize wr.drew = w20 at HO_0 HK HB hx142_0 hx143_0 hHeld ⊢
  refine pu 0 (some 16) (bm 15 1) HT_ ?_
  refine pu 1 (some 17) (bm 15 3) HT_ ?_
  refine pu 2 (some 18) (bm 15 7) HT_ ?_
  refine pu 3 (some 19) (bm 15 15) HT_ ?_
  refine pu 4 (some 20) (bm 15 31) HT_ ?_
  refine pu 5 (some 21) (bm 15 63) HT_ ?_
  refine pu 6 (some 22) (bm 15 127) HT_ ?_
  refine pu 8 (some 24) (bm 15 383) HT_ ?_
  refine pu 9 (some 25) (bm 15 895) HT_ ?_
  refine pu 10 (some 26) (bm 15 1919) HT_ ?_
  refine pu 11 (some 27) (bm 15 3967) HT_ ?_
  refine tk 7 (some 23) (bm 15 4095) HT_ HW_ hHeld ?_
  refine tk 12 (some 28) (bm 15 8191) HT_ HW_ hHeld ?_
  refine one_ (i := 13) (N := some 29) (bm 15 16383) rfl rfl (one_of HT_.out (by kernel_rfl)) (by decide) (fun K hK => ?_)
  refine goes_ Tryd.func62 (by kernel_rfl) rfl #[.int .i64 (rd x0_2 x7_2), .int .i64 (rd x0_2 (ji8))] (by rfl) rfl rfl (by (try simp only [List.map_toArray, List.map_cons, List.map_nil]); first | done | (simp only [hji8]; rfl) | rfl | (simp only [List.length_drop, List.length_take]; rfl)) ?_
  with_reducible refine (cmp_Less_int.calls (rd x0_2 x7_2) (rd x0_2 (ji8)) false _ A11.out).mono ?_
  rintro e w' ⟨rfl, ⟨nd, rfl⟩⟩
  refine ⟨_, rfl, ?_⟩
  refine hK.out _ _ ⟨hHeld.1, hHeld.2⟩ (fun hHeld => ?_)
  clear hK K
  refine norm_ (a' := ?_) ?_ ?_
  rotate_left
  · show Act.put _ (some 29) _ = _; simp only [Act.put, sA, s0, sS, i64_w, i32_w]; rfl
  refine pu 14 (some 30) (bm 15 32767) HT_ ?_
  refine done_ (done_of HT_.out (by kernel_rfl)) ?_
  try go_wp2
  go_roundg k2
  case measure => have := HK1.out; have := HK2.out; omega
  case rel => exact ⟨(x0_2), (wrap64 (x6_1 + 1)), zR, H', ⟨by have := HK1.out; have := HK2.out; omega⟩, ⟨zO HO_0⟩, ⟨zH⟩, ⟨zB⟩⟩
 subst c12
 have H1 : (g0_.l1 k2 ((x0_2.set (x7_2 : Int).toNat (rd x0_2 (ji8))).set ((ji8) : Int).toNat (rd x0_2 x7_2)) a1 a2 x6_1 ji8) = some r := by rw [if_pos rfl] at H; exact H
 clear H
 have H := H1
 clear H1
 obtain ⟨y147, hy147⟩ : ∃ y_ : List Int, y_ = (x0_2.set (x7_2 : Int).toNat (rd x0_2 (ji8))) := ⟨_, rfl⟩
 replace H : (g0_.l1 k2 (y147.set ((ji8) : Int).toNat (rd x0_2 x7_2)) a1 a2 x6_1 ji8) = some r := by first | (rw [hy147]; with_reducible exact H) | (have H2_ := (Option.bind_some _ _).symm.trans H; rw [hy147]; with_reducible exact H2_) | (have H2_ := (Option.bind_some _ _).symm.trans H; with_reducible exact H2_) | with_reducible exact H | (rw [hy147]; exact H) | exact H
 have Ny147 := Aside0.mk hy147
 clear hy147
 obtain ⟨y148, hy148⟩ : ∃ y_ : List Int, y_ = (y147.set ((ji8) : Int).toNat (rd x0_2 x7_2)) := ⟨_, rfl⟩
 replace H : (g0_.l1 k2 y148 a1 a2 x6_1 ji8) = some r := by first | (rw [hy148]; with_reducible exact H) | (have H2_ := (Option.bind_some _ _).symm.trans H; rw [hy148]; with_reducible exact H2_) | (have H2_ := (Option.bind_some _ _).symm.trans H; with_reducible exact H2_) | with_reducible exact H | (rw [hy148]; exact H) | exact H
 have Ny148 := Aside0.mk hy148
 clear hy148
 have H' := Aside0.mk H
 clear H
 try go_wp2
 have n0_ := Aside0.mk (Kd.R_drew HO_0.out)
 have n1_ := Aside0.mk (Kept.drew HK.out)
 have n2_ := Aside0.mk (below_drew1 HB.out)
 clear HO_0
 clear HK
 clear HB
 have HO_0 := n0_
 have HK := n1_
 have HB := n2_
 clear n0_ n1_ n2_
 obtain ⟨Ao16, co16, eo16⟩ := Kd.R_slice HO_0.out
 (first | subst eo16 | (injection eo16 with f1_ f2_ f3_; have f4_ := f1_.symm; have f5_ := f3_.symm; clear f1_ f2_ f3_; subst f4_; subst f5_))
 have p142 : 0 ≤ (x7_2 : Int) := od
 have q142 : x7_2 < (x0_2.length : Int) := od
 obtain ⟨ad142, e142, hx142_0⟩ := Kd.at_int (Kd.R_reads' HO_0.out).2.2 x7_2 p142 q142
 cases e142
 replace p142 := eq_true p142
 replace q142 := eq_true q142
 have p143 : 0 ≤ ((ji8) : Int) := od
 have q143 : (ji8) < (x0_2.length : Int) := od
 obtain ⟨ad143, e143, hx143_0⟩ := Kd.at_int (Kd.R_reads' HO_0.out).2.2 (ji8) p143 q143
 obtain rfl : ad142 = ad143 := (by injection e143)
 replace p143 := eq_true p143
 replace q143 := eq_true q143
 refine start_ (n := 15) (S := fun w' => w'.cell? (ad142.add (x7_2).toNat) = some (.int .i64 (rd x0_2 x7_2)) ∧ w'.cell? (ad142.add ((ji8)).toNat) = some (.int .i64 (rd x0_2 (ji8)))) (ds := []) (bm 15 0) (by kernel_rfl) rfl rfl ⟨hx142_0, hx143_0⟩ (fun hHeld => ?_); refine with_tabW g0_.tab4 g0_.bits4 (fun HT_ HW_ => ?_)
 generalize wr.drew = w15 at HO_0 HK HB hx142_0 hx143_0 hHeld ⊢
 refine pu 0 (some 16) (bm 15 1) HT_ ?_
 refine pu 1 (some 17) (bm 15 3) HT_ ?_
 refine pu 2 (some 18) (bm 15 7) HT_ ?_
 refine pu 3 (some 19) (bm 15 15) HT_ ?_
 refine pu 4 (some 20) (bm 15 31) HT_ ?_
 refine pu 5 (some 21) (bm 15 63) HT_ ?_
 refine pu 6 (some 22) (bm 15 127) HT_ ?_
 refine pu 8 (some 24) (bm 15 383) HT_ ?_
 refine pu 9 (some 25) (bm 15 895) HT_ ?_
 refine pu 10 (some 26) (bm 15 1919) HT_ ?_
 refine pu 11 (some 27) (bm 15 3967) HT_ ?_
 refine tk 7 (some 23) (bm 15 4095) HT_ HW_ hHeld ?_
 refine tk 12 (some 28) (bm 15 8191) HT_ HW_ hHeld ?_
 refine one_ (i := 13) (N := some 29) (bm 15 16383) rfl rfl (one_of HT_.out (by kernel_rfl)) (by decide) (fun K hK => ?_)
 refine goes_ Tryd.func62 (by kernel_rfl) rfl #[.int .i64 (rd x0_2 x7_2), .int .i64 (rd x0_2 (ji8))] (by rfl) rfl rfl (by (try simp only [List.map_toArray, List.map_cons, List.map_nil]); first | done | (simp only [hji8]; rfl) | rfl | (simp only [List.length_drop, List.length_take]; rfl)) ?_
 with_reducible refine (cmp_Less_int.calls (rd x0_2 x7_2) (rd x0_2 (ji8)) true _ A11.out).mono ?_
 rintro e w' ⟨rfl, ⟨nd, rfl⟩⟩
 refine ⟨_, rfl, ?_⟩
 refine hK.out _ _ ⟨hHeld.1, hHeld.2⟩ (fun hHeld => ?_)
 clear hK K
 refine norm_ (a' := ?_) ?_ ?_
 rotate_left
 · show Act.put _ (some 29) _ = _; simp only [Act.put, sA, s0, sS, i64_w, i32_w]; rfl
 refine pu 14 (some 30) (bm 15 32767) HT_ ?_
 refine done_ (done_of HT_.out (by kernel_rfl)) ?_
 try go_wp2
 (try (rw [drewN_self w15]; generalize hq_ : World.drewN w15 _ = w15; have n0_ : Aside0 (Kd.R (Kd.int .i64) 3 w15 w0.heap.size (fun k_ => (P0_ k_ ∨ w.heap.size ≤ k_)) (.slice (some ad142) x0_2.length co16) x0_2) := ⟨by rw [← hq_]; exact (zO HO_0)⟩; have n1_ : Aside0 (Kept w w15 (fun k_ => P0_ k_)) := ⟨by rw [← hq_]; exact zH⟩; have n2_ : Aside0 (Below w0.heap.size w0 w15) := ⟨by rw [← hq_]; exact zB⟩; clear HO_0 HK HB hq_; have HO_0 := n0_; have HK := n1_; have HB := n2_; clear n0_ n1_ n2_))
 have n0_ := Aside0.mk (Kd.R_drew HO_0.out)
 have n1_ := Aside0.mk (Kept.drew HK.out)
 have n2_ := Aside0.mk (below_drew1 HB.out)
 clear HO_0
 clear HK
 clear HB
 have HO_0 := n0_
 have HK := n1_
 have HB := n2_
 clear n0_ n1_ n2_
 have p145 : 0 ≤ ((ji8) : Int) := od
 have q145 : (ji8) < (x0_2.length : Int) := od
 obtain ⟨ad145, e145, hx145_0⟩ := Kd.at_int (Kd.R_reads' HO_0.out).2.2 (ji8) p145 q145
 obtain rfl : ad142 = ad145 := (by injection e145)
 replace p145 := eq_true p145
 replace q145 := eq_true q145
 have p146 : 0 ≤ (x7_2 : Int) := od
 have q146 : x7_2 < (x0_2.length : Int) := od
 obtain ⟨ad146, e146, hx146_0⟩ := Kd.at_int (Kd.R_reads' HO_0.out).2.2 x7_2 p146 q146
 obtain rfl : ad142 = ad146 := (by injection e146)
 replace p146 := eq_true p146
 replace q146 := eq_true q146
 have p13 : 0 ≤ (x7_2 : Int) := od
 have q13 : (x7_2 : Int) < ((x0_2.length : Int) : Int) := od
 obtain ⟨go13, co13, eo13, gb13, gl13, cl13, HG13⟩ := Kd.R_form HO_0.out (by omega)
 (first | cases eo13 | (injection eo13 with ea_ en_ ec_; (first | subst ea_ | (injection ea_ with ea_; subst ea_)); subst ec_; clear en_))
 have GB13 := Aside0.mk gb13
 have GG13 := Aside0.mk HG13
 clear gb13 gl13 HG13
 have HMgo13 := Aside0.mk (show (P0_ go13 ∨ w.heap.size ≤ go13) from (HO_0.out.1 _ rfl))
 (first | simp only [add_plain] at hx142_0 | skip)
 (first | simp only [add_plain] at hx143_0 | skip)
 (first | simp only [add_plain] at hx145_0 | skip)
 (first | simp only [add_plain] at hx146_0 | skip)
 obtain ⟨hx13_0, hf13_0⟩ := Kd.R_celln 0 HO_0.out (x7_2 : Int) p13 q13
 replace p13 := eq_true p13
 replace q13 := eq_true q13
 have HP18 := Kd.R_putn HO_0.out (x7_2 : Int) (rd x0_2 (ji8))
 rw [← Ny147.out] at HP18
 have HQ18 := Aside0.mk HP18
 clear HP18
 have p14 : 0 ≤ ((ji8) : Int) := od
 have q14 : ((ji8) : Int) < ((x0_2.length : Int) : Int) := od
 obtain ⟨hx14_0, hf14_0⟩ := Kd.R_celln 0 HQ18.out ((ji8) : Int) p14 q14
 replace p14 := eq_true p14
 replace q14 := eq_true q14
 have HP19 := Kd.R_putn HQ18.out ((ji8) : Int) (rd x0_2 x7_2)
 rw [← Ny148.out] at HP19
 have HQ19 := Aside0.mk HP19
 clear HP19
 refine start_ (n := 18) (S := fun w' => w'.cell? ⟨go13, ((ji8)).toNat, none⟩ = some (.int .i64 (rd x0_2 (ji8))) ∧ w'.cell? ⟨go13, (x7_2).toNat, none⟩ = some (.int .i64 (rd x0_2 x7_2))) (ds := [15, 17]) (bm 18 0) (by kernel_rfl) rfl rfl ⟨hx145_0, hx146_0⟩ (fun hHeld => ?_); refine with_tabW g0_.tab6 g0_.bits6 (fun HT_ HW_ => ?_)
 generalize w15.drew = w17 at HO_0 HK HB GG13 HQ18 HQ19 hf13_0 hf14_0 hx13_0 hx142_0 hx143_0 hx145_0 hx146_0 hx14_0 hHeld ⊢
 refine pu 0 (some 33) (bm 18 1) HT_ ?_
 refine pu 1 (some 34) (bm 18 3) HT_ ?_
 refine pu 2 (some 35) (bm 18 7) HT_ ?_
 refine pu 3 (some 36) (bm 18 15) HT_ ?_
 refine pu 4 (some 37) (bm 18 31) HT_ ?_
 refine pu 5 (some 38) (bm 18 63) HT_ ?_
 refine pu 6 (some 39) (bm 18 127) HT_ ?_
 refine pu 7 (some 40) (bm 18 255) HT_ ?_
 refine pu 8 (some 41) (bm 18 511) HT_ ?_
 refine pu 10 (some 43) (bm 18 1535) HT_ ?_
 refine pu 11 (some 44) (bm 18 3583) HT_ ?_
 refine pu 12 (some 45) (bm 18 7679) HT_ ?_
 refine tk 9 (some 42) (bm 18 8191) HT_ HW_ hHeld ?_
 refine tk 13 (some 46) (bm 18 16383) HT_ HW_ hHeld ?_
 refine pu 14 (some 47) (bm 18 32767) HT_ ?_
 refine last_ (i := 15) (N := none) (bm 18 65535) rfl rfl (one_of HT_.out (by kernel_rfl)) (by decide) (fun K hK => ?_)
 refine skip_ (w1 := ?_) (by rfl) rfl ?_ ?_
 rotate_left
 · go_simp; rfl
 refine hK.out _ _ ?_
 clear hK K
 refine pu 16 (some 48) (bm 18 131071) HT_ ?_
 refine last_ (i := 17) (N := none) (bm 18 262143) rfl rfl (one_of HT_.out (by kernel_rfl)) (by decide) (fun K hK => ?_)
 refine skip_ (w1 := ?_) (by rfl) rfl ?_ ?_
 rotate_left
 · go_simp; rfl
 refine hK.out _ _ ?_
 clear hK K
 refine done_ (done_of HT_.out (by kernel_rfl)) ?_
 try go_wp2
 go_roundg k2
 case measure => have := HK1.out; have := HK2.out; omega
 case rel => exact ⟨(y148), (ji8), (by first | rfl | (simp; done) | (simp only [← hji8] <;> (first | rfl | simp)) | (simp [*]; done)), H', ⟨by have := HK1.out; have := HK2.out; omega⟩, ⟨zO HQ19⟩, ⟨by repeat (first | (with_reducible first | exact HK.out | apply Kept.alloc | apply Kept.drewN | apply Kept.drew | refine Kept.setCell ?_ HMgo13.out _ | refine Kept.setCell ?_ HMgo13.out _) | exact HK.out)⟩, ⟨by repeat (first | (with_reducible first | exact HB.out | apply below_alloc | apply pw_below_drewN | apply below_drew1 | refine below_set ?_ GB13.out | refine below_set ?_ GB13.out) | exact HB.out)⟩⟩
end Go.Proofs.YtplcdbhklepkgaaDoor.PG
