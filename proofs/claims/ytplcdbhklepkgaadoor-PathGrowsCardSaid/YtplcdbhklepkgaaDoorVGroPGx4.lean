-- Made by gen.py, a program of this session's, over the kit's print.
import Derived.Test.YtplcdbhklepkgaaDoorVGroShort
import Derived.Test.YtplcdbhklepkgaaDoorVGroPGx0
import Derived.Test.YtplcdbhklepkgaaDoorVGroPGx3
import Derived.Test.YtplcdbhklepkgaaDoorVGroExtLen
namespace Go.Proofs.YtplcdbhklepkgaaDoor.PG
open Go.RowKit Go.Proofs.YtplcdbhklepkgaaDoorW.PrintWords Go.Proofs.YtplcdbhklepkgaaDoorW.PrintLast Go.Proofs.YtplcdbhklepkgaaDoorW.PrintMore Go.Proofs.YtplcdbhklepkgaaDoor.GenWords
attribute [local go_sem] max2_int min2_int max_two min_two max_three min_three max_four min_four   -- for this text's walks alone
set_option linter.unusedVariables false
set_option linter.unusedSimpArgs false

/-! ### g8_: function 39 -/
mutual
def g8_.l0 : Nat → List Int → Int → Int → Int → Bool → Option (List Int)
  | 0, _, _, _, _, _ => none
  | k + 1, x0, x1, x2, x3, x8 => if (wrap64 (x2 - x1)) ≤ 12 then ((g0_.f k x0 x1 x2).bind fun t149 => (some t149)) else (if x3 = 0 then (none) else (if x8 = true then (none) else (none)))
def g8_.f : Nat → List Int → Int → Int → Int → Option (List Int)
  | 0, _, _, _, _ => none
  | k + 1, l0, a1, a2, a3 => g8_.l0 k l0 a1 a2 a3 true
end
theorem g8_.mono_l : ∀ k, (∀ y0 y1 y2 y3, LeO (g8_.f k y0 y1 y2 y3) (g8_.f (k + 1) y0 y1 y2 y3)) ∧ (∀ y0 y1 y2 y3 y4, LeO (g8_.l0 k y0 y1 y2 y3 y4) (g8_.l0 (k + 1) y0 y1 y2 y3 y4))
  | 0 => ⟨fun _ _ _ _ r h => by simp [g8_.f] at h, fun _ _ _ _ _ r h => by simp [g8_.l0] at h⟩
  | k + 1 => by
    obtain ⟨ih0, ih1⟩ := g8_.mono_l k
    refine ⟨?_, ?_⟩
    · intro y0 y1 y2 y3
      unfold g8_.f
      repeat' (with_reducible first | exact ih0 _ _ _ _ | exact ih1 _ _ _ _ _ | exact g0_.mono _ _ _ _ | exact LeO.refl _ | exact LeO.none _ | refine LeO.ite ?_ ?_ | refine LeO.bind ?_ (fun _ => ?_))
    · intro y0 y1 y2 y3 y4
      unfold g8_.l0
      repeat' (with_reducible first | exact ih0 _ _ _ _ | exact ih1 _ _ _ _ _ | exact g0_.mono _ _ _ _ | exact LeO.refl _ | exact LeO.none _ | refine LeO.ite ?_ ?_ | refine LeO.bind ?_ (fun _ => ?_))
theorem g8_.mono : ∀ a0 a1 a2 a3 k, LeO (g8_.f k a0 a1 a2 a3) (g8_.f (k + 1) a0 a1 a2 a3) := by
  intro a0 a1 a2 a3 k
  obtain ⟨ih0, ih1⟩ := g8_.mono_l k
  exact ih0 a0 a1 a2 a3
set_option maxHeartbeats 8000000 in
set_option maxRecDepth 100000 in
theorem g8_.calls (k : Nat) : ∀ (P0_ : Nat → Prop) (u9000_ : Value) (l0 : List Int) (a1 : Int) (a2 : Int) (a3 : Int) (r : List Int) (w0 w : World) (hB : Below w0.heap.size w0 w) (ho0 : Kd.R (Kd.int .i64) 3 w w0.heap.size P0_ u9000_ l0) (h : g8_.f k l0 a1 a2 a3 = some r),
 Calls Tryd.prog 39 #[u9000_, .int .i64 a1, .int .i64 a2, .int .i64 a3] w fun e w' => e = .returned (.tuple #[]) ∧ Kd.R (Kd.int .i64) 3 w' w0.heap.size (fun k_ => (P0_ k_ ∨ w.heap.size ≤ k_)) u9000_ r ∧ Below w0.heap.size w0 w' ∧ Kept w w' (fun k_ => P0_ k_) := by
 induction k using Nat.strongRecOn with
 | _ k ih =>
 intro P0_ u9000_ l0 a1 a2 a3 r w0 w hB ho0 h
 cases k with
 | zero => exact absurd h (by simp [g8_.f])
 | succ k =>
 simp only [g8_.f] at h
 have hu3 := Tryd.underlying3
 have HO0 := Aside0.mk (show Kd.R (Kd.int .i64) 3 w w0.heap.size (fun k_ => (P0_ k_ ∨ w.heap.size ≤ k_)) u9000_ l0 from Kd.R_mono ho0 (fun k_ hk => (.inl hk)))
 have HK := Aside0.mk (Kept.refl w (fun k_ => P0_ k_))
 have HW0 := Aside0.mk hB.size
 have HB := Aside0.mk hB
 clear hB
 have H : (g8_.l0 k l0 a1 a2 a3 true) = some r := h
 clear h
 have H' := Aside0.mk H
 clear H
 go_enter Tryd.func39, Tryd.ntmps39
 go_wp2
 repeat (go_quiet (fail); try go_wp2)
 go_loopg [1, 2, 3, 8] k (fun kq v1 v2 v3 v8 w' => ∃ (x0_1 : List Int) (x1_1 : Int) (x2_1 : Int) (x3_1 : Int) (x8_1 : Bool), v1 = .int .i64 x1_1 ∧ v2 = .int .i64 x2_1 ∧ v3 = .int .i64 x3_1 ∧ v8 = .bool x8_1 ∧ Aside0 (g8_.l0 kq x0_1 x1_1 x2_1 x3_1 x8_1 = some r) ∧ Aside0 (kq ≤ k) ∧ Aside0 (Kd.R (Kd.int .i64) 3 w' w0.heap.size (fun k_ => (P0_ k_ ∨ w.heap.size ≤ k_)) u9000_ x0_1) ∧ Aside0 (Kept w w' (fun k_ => P0_ k_)) ∧ Aside0 (Below w0.heap.size w0 w'))
 case atStart => exact ⟨(l0), (a1), (a2), (a3), (true), zR, zR, zR, zR, H', ⟨Nat.le_refl _⟩, ⟨zO HO0⟩, ⟨zH⟩, ⟨zB⟩⟩
 clear H'
 try clear p2
 try clear c3
 obtain ⟨x0_1, x1_1, x2_1, x3_1, x8_1, rfl, rfl, rfl, rfl, HA, HK1, HO_0, HK, HB⟩ := hrel
 rcases gk with _ | k1
 · exact absurd HA.out (by simp [g8_.l0])
 have H := HA.out
 clear HA
 simp only [g8_.l0] at H
 by_cases c5 : (wrap64 (x2_1 - x1_1)) ≤ 12
 ·
  rw [if_pos c5] at H
  have c5b0 : decide ((wrap64 (x2_1 - x1_1)) ≤ 12) = true := decide_eq_true c5
  clear c5
  replace H := Option.bind_eq_some_iff.mp H
  obtain ⟨t149, A60, H⟩ := H
  replace H : (some t149) = some r := H
  have A6 := Aside0.mk A60
  clear A60
  obtain rfl := Option.some.inj H
  obtain ⟨Ao7, co7, eo7⟩ := Kd.R_slice HO_0.out
  subst eo7
  go_wp2_with (first | (go_at_call 56; (with_reducible refine (g0_.calls k1 (fun k_ => some k_ = (.slice Ao7 x0_1.length co7 : Value).ownBlock) (.slice Ao7 x0_1.length co7) x0_1 x1_1 x2_1 t149 w0 _ ?side1 ?side2 A6.out).mono ?_); (case side1 => repeat (first | (with_reducible first | exact HB.out | apply below_alloc | apply pw_below_drewN | apply below_drew1) | exact HB.out)); (case side2 => exact Kd.R_tight rfl HO_0.out); rintro e w8 ⟨rfl, hy0, hb, hkp⟩; have n0_ := Aside0.mk (Kd.R_reok rfl hy0 (fun k_ e_ => HO_0.out.1 k_ e_)); have n1_ := Aside0.mk (Kept.then_ (S := (fun k_ => P0_ k_)) zH hkp (fun k_ hs_ => (fun e_ => (HO_0.out.1 k_ e_.symm)) hs_)); have n2_ := Aside0.mk (hb); clear HO_0; clear HK; clear HB; have HO_0 := n0_; have HK := n1_; have HB := n2_; clear n0_ n1_ n2_; (try clear hb); (try clear hkp); (try clear hy0)))
  repeat (go_quiet (first | (go_at_call 56; (with_reducible refine (g0_.calls k1 (fun k_ => some k_ = (.slice Ao7 x0_1.length co7 : Value).ownBlock) (.slice Ao7 x0_1.length co7) x0_1 x1_1 x2_1 t149 w0 _ ?side1 ?side2 A6.out).mono ?_); (case side1 => repeat (first | (with_reducible first | exact HB.out | apply below_alloc | apply pw_below_drewN | apply below_drew1) | exact HB.out)); (case side2 => exact Kd.R_tight rfl HO_0.out); rintro e w8 ⟨rfl, hy0, hb, hkp⟩; have n0_ := Aside0.mk (Kd.R_reok rfl hy0 (fun k_ e_ => HO_0.out.1 k_ e_)); have n1_ := Aside0.mk (Kept.then_ (S := (fun k_ => P0_ k_)) zH hkp (fun k_ hs_ => (fun e_ => (HO_0.out.1 k_ e_.symm)) hs_)); have n2_ := Aside0.mk (hb); clear HO_0; clear HK; clear HB; have HO_0 := n0_; have HK := n1_; have HB := n2_; clear n0_ n1_ n2_; (try clear hb); (try clear hkp); (try clear hy0))); try go_wp2_with (first | (go_at_call 56; (with_reducible refine (g0_.calls k1 (fun k_ => some k_ = (.slice Ao7 x0_1.length co7 : Value).ownBlock) (.slice Ao7 x0_1.length co7) x0_1 x1_1 x2_1 t149 w0 _ ?side1 ?side2 A6.out).mono ?_); (case side1 => repeat (first | (with_reducible first | exact HB.out | apply below_alloc | apply pw_below_drewN | apply below_drew1) | exact HB.out)); (case side2 => exact Kd.R_tight rfl HO_0.out); rintro e w8 ⟨rfl, hy0, hb, hkp⟩; have n0_ := Aside0.mk (Kd.R_reok rfl hy0 (fun k_ e_ => HO_0.out.1 k_ e_)); have n1_ := Aside0.mk (Kept.then_ (S := (fun k_ => P0_ k_)) zH hkp (fun k_ hs_ => (fun e_ => (HO_0.out.1 k_ e_.symm)) hs_)); have n2_ := Aside0.mk (hb); clear HO_0; clear HK; clear HB; have HO_0 := n0_; have HK := n1_; have HB := n2_; clear n0_ n1_ n2_; (try clear hb); (try clear hkp); (try clear hy0))))
  first | go_end0 | ((try simp only [Exit.inBlock, Exit.then]); refine bodyPost_ret (results_none rfl _ _ _) rfl ?_)
  exact ⟨zE, by (with_reducible repeat (first | apply Kd.R_alloc | apply Kd.R_drewN | apply Kd.R_drew)); exact HO_0.out, zB, zH⟩
 rw [if_neg c5] at H
 have c5b0 : decide ((wrap64 (x2_1 - x1_1)) ≤ 12) = false := decide_eq_false c5
 clear c5
 by_cases c9 : x3_1 = 0
 · rw [if_pos c9] at H; exact absurd H (by simp)
 rw [if_neg c9] at H
 have c9b0 : (x3_1 == 0) = false := beq_eq_false_iff_ne.mpr c9
 have c9b1 : (x3_1 != 0) = true := bne_iff_ne.mpr c9
 by_cases c10 : x8_1 = true
 ·
  subst c10
  have H1 : (none) = some r := by rw [if_pos rfl] at H; exact H
  clear H
  have H := H1
  clear H1
  exact absurd H (by simp)
 replace c10 := Bool.eq_false_iff.mpr c10
 subst c10
 have H1 : (none) = some r := by rw [if_neg (show ¬ (false = true) by decide)] at H; exact H
 clear H
 have H := H1
 clear H1
 exact absurd H (by simp)
/-! ### g13_: function 27 -/
def g13_.f (k : Nat) (l0 : List Int) : Option (List Int) := (bits_Len.f (IntKind.u64.wrap ((l0.length : Int)))).bind fun t150 => ((g8_.f k l0 0 (l0.length : Int) t150).bind fun t151 => (some t151))
theorem g13_.mono : ∀ a0 k, LeO (g13_.f k a0) (g13_.f (k + 1) a0) := by
  intro a0 k
  unfold g13_.f
  repeat' (with_reducible first | exact g8_.mono _ _ _ _ _ | exact LeO.refl _ | exact LeO.none _ | refine LeO.ite ?_ ?_ | refine LeO.bind ?_ (fun _ => ?_))
set_option maxHeartbeats 8000000 in
set_option maxRecDepth 100000 in
theorem g13_.calls (k : Nat) (P0_ : Nat → Prop) (u9000_ : Value) (l0 : List Int) (r : List Int) (w0 w : World) (hB : Below w0.heap.size w0 w) (ho0 : Kd.R (Kd.int .i64) 3 w w0.heap.size P0_ u9000_ l0) (h : g13_.f k l0 = some r) :
 Calls Tryd.prog 27 #[u9000_] w fun e w' => e = .returned (.tuple #[]) ∧ Kd.R (Kd.int .i64) 3 w' w0.heap.size (fun k_ => (P0_ k_ ∨ w.heap.size ≤ k_)) u9000_ r ∧ Below w0.heap.size w0 w' ∧ Kept w w' (fun k_ => P0_ k_) := by
 have HO0 := Aside0.mk (show Kd.R (Kd.int .i64) 3 w w0.heap.size (fun k_ => (P0_ k_ ∨ w.heap.size ≤ k_)) u9000_ l0 from Kd.R_mono ho0 (fun k_ hk => (.inl hk)))
 have HK := Aside0.mk (Kept.refl w (fun k_ => P0_ k_))
 have HW0 := Aside0.mk hB.size
 have HB := Aside0.mk hB
 clear hB
 have H : ((bits_Len.f (IntKind.u64.wrap ((l0.length : Int)))).bind fun t150 => ((g8_.f k l0 0 (l0.length : Int) t150).bind fun t151 => (some t151))) = some r := h
 clear h
 replace H := Option.bind_eq_some_iff.mp H
 obtain ⟨t150, A20, H⟩ := H
 replace H : ((g8_.f k l0 0 (l0.length : Int) t150).bind fun t151 => (some t151)) = some r := H
 have A2 := Aside0.mk A20
 clear A20
 replace H := Option.bind_eq_some_iff.mp H
 obtain ⟨t151, A30, H⟩ := H
 replace H : (some t151) = some r := H
 have A3 := Aside0.mk A30
 clear A30
 obtain rfl := Option.some.inj H
 obtain ⟨Ao4, co4, eo4⟩ := Kd.R_slice HO0.out
 subst eo4
 go_enter Tryd.func27, Tryd.ntmps27
 go_wp2_with (first | ((with_reducible refine gate_callee (f := 40) rfl ?_); refine goesL_ (some 9) rfl rfl Tryd.func40 (by kernel_rfl) rfl #[.int .u64 (IntKind.u64.wrap ((l0.length : Int)))] rfl zM ?_; (with_reducible refine (bits_Len.calls (IntKind.u64.wrap ((l0.length : Int))) t150 _ A2.out).mono ?_); rintro e w' ⟨rfl, ⟨nd, rfl⟩⟩; refine ⟨_, rfl, ?_⟩) | ((with_reducible refine gate_callee (f := 39) rfl ?_); refine goesL_ (some 10) rfl rfl Tryd.func39 (by kernel_rfl) rfl #[.slice Ao4 l0.length co4, .int .i64 0, .int .i64 (l0.length : Int), .int .i64 t150] rfl zM ?_; (with_reducible refine (g8_.calls k (fun k_ => some k_ = (.slice Ao4 l0.length co4 : Value).ownBlock) (.slice Ao4 l0.length co4) l0 0 (l0.length : Int) t150 t151 w0 _ ?side1 ?side2 A3.out).mono ?_); (case side1 => repeat (first | (with_reducible first | exact HB.out | apply below_alloc | apply pw_below_drewN | apply below_drew1) | exact HB.out)); (case side2 => exact Kd.R_tight rfl HO0.out); rintro e w5 ⟨rfl, hy0, hb, hkp⟩; refine ⟨_, rfl, ?_⟩; have n0_ := Aside0.mk (Kd.R_reok rfl hy0 (fun k_ e_ => HO0.out.1 k_ e_)); have n1_ := Aside0.mk (Kept.then_ (S := (fun k_ => P0_ k_)) zH hkp (fun k_ hs_ => (fun e_ => (HO0.out.1 k_ e_.symm)) hs_)); have n2_ := Aside0.mk (hb); clear HO0; clear HK; clear HB; have HO0 := n0_; have HK := n1_; have HB := n2_; clear n0_ n1_ n2_; (try clear hb); (try clear hkp); (try clear hy0)))
 first | go_end0 | ((try simp only [Exit.inBlock, Exit.then]); refine bodyPost_ret (results_none rfl _ _ _) rfl ?_)
 exact ⟨zE, by (with_reducible repeat (first | apply Kd.R_alloc | apply Kd.R_drewN | apply Kd.R_drew)); exact HO0.out, zB, zH⟩
/-- What the inner loop of Compact reads of the cut is as it was. -/
def CInv (i : Int) (x0 : List Int) (x3 x5 : Int) (y : List Int) : Prop := 0 ≤ i ∧ 1 ≤ x5 ∧ x3 ≤ i + x5 - 1 ∧ i + (y.length : Int) = (x0.length : Int) ∧ (x0.length : Int) ≤ 9223372036854775807 ∧ ∀ j : Int, x5 - 1 ≤ j → j < (y.length : Int) → rd x0 (i + j) = rd y j
theorem CInv.start {i : Int} {x0 y : List Int} (h0 : 0 ≤ i) (h1 : i ≤ (x0.length : Int)) (hy : y = x0.drop i.toNat) (hl : (x0.length : Int) ≤ 9223372036854775807) : CInv i x0 i 1 y := by
  subst hy
  refine ⟨h0, by omega, by omega, by rw [List.length_drop]; omega, hl, fun j hj hj2 => ?_⟩
  unfold rd
  rw [List.getD_eq_getElem?_getD, List.getD_eq_getElem?_getD, List.getElem?_drop]
  congr 2
  omega
theorem w64_in {x : Int} (h0 : -9223372036854775808 ≤ x) (h1 : x < 9223372036854775808) : wrap64 x = x := by unfold wrap64; omega
theorem CInv.skip {i : Int} {x0 y : List Int} {x3 x5 : Int} (h : CInv i x0 x3 x5 y) (h5 : x5 < (y.length : Int)) : CInv i x0 x3 (wrap64 (x5 + 1)) y := by
  obtain ⟨a, b, c, d, l, e⟩ := h
  rw [w64_in (by omega) (by omega)]
  exact ⟨a, by omega, by omega, d, l, fun j hj hj2 => e j (by omega) hj2⟩
theorem CInv.put {i : Int} {x0 x1 y : List Int} {x3 x5 v : Int} (h : CInv i x0 x3 x5 y) (h5 : x5 < (y.length : Int)) (h3 : 0 ≤ x3) (hx : x1 = x0.set x3.toNat v) : CInv i x1 (wrap64 (x3 + 1)) (wrap64 (x5 + 1)) y := by
  obtain ⟨a, b, c, d, l, e⟩ := h
  subst hx
  rw [w64_in (x := x5 + 1) (by omega) (by omega), w64_in (x := x3 + 1) (by omega) (by omega)]
  refine ⟨a, by omega, by omega, by rw [List.length_set]; exact d, by rw [List.length_set]; exact l, fun j hj hj2 => ?_⟩
  rw [← e j (by omega) hj2]
  unfold rd
  rw [List.getD_eq_getElem?_getD, List.getD_eq_getElem?_getD, List.getElem?_set_ne (by omega)]
theorem CInv.read {W : World} {base : Nat} {ok : Nat → Prop} {i : Int} {x0 y : List Int} {x3 x5 : Int} {ad ad2 : Addr} {n c : Nat} (h : CInv i x0 x3 x5 y) (ho : Kd.R (Kd.int .i64) 3 W base ok (.slice (some ad) n c) x0)
    (hA : some ad2 = (if c = i.toNat then (some ad) else ((some ad) : Option Addr).map (·.add (i.toNat * 1)))) (j : Int) (h0 : x5 - 1 ≤ j) (h1 : j < (y.length : Int)) : W.cell? (ad2.add j.toNat) = some (.int .i64 (rd y j)) := by
  obtain ⟨a, b, c3, d, l, e⟩ := h
  have hr := Kd.R_reads' ho
  have hn : x0.length = n := hr.1.symm
  have hc : n ≤ c := hr.2.1
  rw [if_neg (by omega)] at hA
  obtain rfl := Option.some.inj hA
  obtain ⟨ad3, e3, hx⟩ := Kd.at_int hr.2.2 (i + j) (by omega) (by omega)
  obtain rfl : ad = ad3 := Option.some.inj e3
  rw [← e j h0 h1, ← hx]
  congr 1
  show Addr.add (Addr.add ad (i.toNat * 1)) j.toNat = _
  rw [Addr.add_add]
  congr 1
  omega
/-! ### g5_: function 28 -/
mutual
def g5_.l0 : Nat → List Int → Int → Option (List Int)
  | 0, _, _ => none
  | k + 1, x0, x3 => if x3 < (x0.length : Int) then (if 0 ≤ x3 then (if 0 ≤ (wrap64 (x3 - 1)) then (if (wrap64 (x3 - 1)) < (x0.length : Int) then (if (rd x0 x3) = (rd x0 (wrap64 (x3 - 1))) then (if x3 ≤ (x0.length : Int) then (g5_.l1 k x0 x3 (x0.drop (x3 : Int).toNat) 1) else (none)) else (g5_.l0 k x0 (wrap64 (x3 + 1)))) else (none)) else (none)) else (none)) else (some x0)
def g5_.l1 : Nat → List Int → Int → List Int → Int → Option (List Int)
  | 0, _, _, _, _ => none
  | k + 1, x0, x3, x4, x5 => if x5 < (x4.length : Int) then (if 0 ≤ x5 then (if 0 ≤ (wrap64 (x5 - 1)) then (if (wrap64 (x5 - 1)) < (x4.length : Int) then (if (rd x4 x5) = (rd x4 (wrap64 (x5 - 1))) then (g5_.l1 k x0 x3 x4 (wrap64 (x5 + 1))) else (if 0 ≤ x3 then (if x3 < (x0.length : Int) then (g5_.l1 k (x0.set (x3 : Int).toNat (rd x4 x5)) (wrap64 (x3 + 1)) x4 (wrap64 (x5 + 1))) else (none)) else (none))) else (none)) else (none)) else (none)) else (if 0 ≤ x3 then (if x3 ≤ (x0.length : Int) then ((some (x0.take (x3 : Int).toNat ++ List.replicate (x0.length - (x3 : Int).toNat) 0 : List Int)).bind fun y185 => (if x3 ≤ (y185.length : Int) then (some (y185.take (x3 : Int).toNat)) else (none))) else (none)) else (none))
end
def g5_.f (k : Nat) (l0 : List Int) : Option (List Int) := if (l0.length : Int) < 2 then (some l0) else (g5_.l0 k l0 1)
theorem g5_.mono_l : ∀ k, (∀ y0 y1, LeO (g5_.l0 k y0 y1) (g5_.l0 (k + 1) y0 y1)) ∧ (∀ y0 y1 y2 y3, LeO (g5_.l1 k y0 y1 y2 y3) (g5_.l1 (k + 1) y0 y1 y2 y3))
  | 0 => ⟨fun _ _ r h => by simp [g5_.l0] at h, fun _ _ _ _ r h => by simp [g5_.l1] at h⟩
  | k + 1 => by
    obtain ⟨ih0, ih1⟩ := g5_.mono_l k
    refine ⟨?_, ?_⟩
    · intro y0 y1
      unfold g5_.l0
      repeat' (with_reducible first | exact ih0 _ _ | exact ih1 _ _ _ _ | exact LeO.refl _ | exact LeO.none _ | refine LeO.ite ?_ ?_ | refine LeO.bind ?_ (fun _ => ?_))
    · intro y0 y1 y2 y3
      unfold g5_.l1
      repeat' (with_reducible first | exact ih0 _ _ | exact ih1 _ _ _ _ | exact LeO.refl _ | exact LeO.none _ | refine LeO.ite ?_ ?_ | refine LeO.bind ?_ (fun _ => ?_))
theorem g5_.mono : ∀ a0 k, LeO (g5_.f k a0) (g5_.f (k + 1) a0) := by
  intro a0 k
  obtain ⟨ih0, ih1⟩ := g5_.mono_l k
  unfold g5_.f
  repeat' (with_reducible first | exact ih0 _ _ | exact ih1 _ _ _ _ | exact LeO.refl _ | exact LeO.none _ | refine LeO.ite ?_ ?_ | refine LeO.bind ?_ (fun _ => ?_))
set_option maxHeartbeats 8000000 in
set_option maxRecDepth 100000 in
theorem g5_.calls (k : Nat) (P0_ : Nat → Prop) (u9000_ : Value) (l0 : List Int) (r : List Int) (w0 w : World) (hB : Below w0.heap.size w0 w) (ho0 : Kd.R (Kd.int .i64) 3 w w0.heap.size P0_ u9000_ l0) (h : g5_.f k l0 = some r) :
 Calls Tryd.prog 28 #[u9000_] w fun e w' => ∃ v0_ : Value, e = .returned (v0_) ∧ Kd.R (Kd.int .i64) 3 w' w0.heap.size (fun k_ => (P0_ k_ ∨ w.heap.size ≤ k_)) v0_ r ∧ Below w0.heap.size w0 w' ∧ Kept w w' (fun k_ => P0_ k_) := by
 have hu3 := Tryd.underlying3
 have HO0 := Aside0.mk (show Kd.R (Kd.int .i64) 3 w w0.heap.size (fun k_ => (P0_ k_ ∨ w.heap.size ≤ k_)) u9000_ l0 from Kd.R_mono ho0 (fun k_ hk => (.inl hk)))
 have HK := Aside0.mk (Kept.refl w (fun k_ => P0_ k_))
 have HW0 := Aside0.mk hB.size
 have HB := Aside0.mk hB
 clear hB
 have H : (if (l0.length : Int) < 2 then (some l0) else (g5_.l0 k l0 1)) = some r := h
 clear h
 by_cases c2 : (l0.length : Int) < 2
 ·
  rw [if_pos c2] at H
  have c2b0 : decide ((l0.length : Int) < 2) = true := decide_eq_true c2
  have c2b1 : decide (l0.length < 2) = true := decide_eq_true (by omega)
  clear c2
  obtain rfl := Option.some.inj H
  obtain ⟨Ao3, co3, eo3⟩ := Kd.R_slice HO0.out
  subst eo3
  go_enter Tryd.func28, Tryd.ntmps28
  go_wp2
  repeat (go_quiet (fail); try go_wp2)
  go_ret
  exact ⟨_, zE, by (with_reducible repeat (first | apply Kd.R_alloc | apply Kd.R_drewN | apply Kd.R_drew)); exact HO0.out, zB, zH⟩
 rw [if_neg c2] at H
 have c2b0 : decide ((l0.length : Int) < 2) = false := decide_eq_false c2
 have c2b1 : decide (l0.length < 2) = false := decide_eq_false (by omega)
 clear c2
 have H' := Aside0.mk H
 clear H
 obtain ⟨Ao4, co4, eo4⟩ := Kd.R_slice HO0.out
 subst eo4
 go_enter Tryd.func28, Tryd.ntmps28
 go_wp2
 repeat (go_quiet (fail); try go_wp2)
 go_loopg [3] k (fun kq v3 w' => ∃ (x0_1 : List Int) (x3_1 : Int), v3 = .int .i64 x3_1 ∧ Aside0 (g5_.l0 kq x0_1 x3_1 = some r) ∧ Aside0 (kq ≤ k) ∧ Aside0 (Kd.R (Kd.int .i64) 3 w' w0.heap.size (fun k_ => (P0_ k_ ∨ w.heap.size ≤ k_)) (.slice Ao4 l0.length co4) x0_1) ∧ Aside0 (Kept w w' (fun k_ => P0_ k_)) ∧ Aside0 (Below w0.heap.size w0 w'))
 case atStart => exact ⟨(l0), (1), zR, H', ⟨Nat.le_refl _⟩, ⟨zO HO0⟩, ⟨zH⟩, ⟨zB⟩⟩
 clear H'
 try clear c2
 try clear c2b0
 try clear c2b1
 try clear p2
 obtain ⟨x0_1, x3_1, rfl, HA, HK1, HO_0, HK, HB⟩ := hrel
 have hl0_1 := (Kd.R_reads' HO_0.out).1
 rw [hl0_1] at HO_0
 (try simp only [hl0_1])
 rcases gk with _ | k1
 · exact absurd HA.out (by simp [g5_.l0])
 have H := HA.out
 clear HA
 simp only [g5_.l0] at H
 by_cases c5 : x3_1 < (x0_1.length : Int)
 rotate_left
 ·
  rw [if_neg c5] at H
  have c5b0 : decide (x3_1 < (x0_1.length : Int)) = false := decide_eq_false c5
  have c5b0h := c5b0
  (try simp only [hl0_1] at c5b0h)
  clear c5
  obtain rfl := Option.some.inj H
  go_wp2
  repeat (go_quiet (fail); try go_wp2)
  go_ret
  exact ⟨_, zE, by (with_reducible repeat (first | apply Kd.R_alloc | apply Kd.R_drewN | apply Kd.R_drew)); exact HO_0.out, zB, zH⟩
 rw [if_pos c5] at H
 have c5b0 : decide (x3_1 < (x0_1.length : Int)) = true := decide_eq_true c5
 have c5b0h := c5b0
 (try simp only [hl0_1] at c5b0h)
 clear c5
 by_cases c6 : 0 ≤ x3_1
 rotate_left
 · rw [if_neg c6] at H; exact absurd H (by simp)
 rw [if_pos c6] at H
 have c6b0 : decide (0 ≤ x3_1) = true := decide_eq_true c6
 clear c6
 obtain ⟨ji7, hji7⟩ : ∃ j_ : Int, (wrap64 (x3_1 - 1)) = j_ := ⟨_, rfl⟩
 replace H : (if 0 ≤ (ji7) then (if (ji7) < (x0_1.length : Int) then (if (rd x0_1 x3_1) = (rd x0_1 (ji7)) then (if x3_1 ≤ (x0_1.length : Int) then (g5_.l1 k1 x0_1 x3_1 (x0_1.drop (x3_1 : Int).toNat) 1) else (none)) else (g5_.l0 k1 x0_1 (wrap64 (x3_1 + 1)))) else (none)) else (none)) = some r := by first | (rw [hji7] at H; exact H) | (simp only [hji7] at H ⊢; exact H)
 have hji7w : (IntKind.i64.wrap (x3_1 - 1)) = ji7 := (i64_w _).trans hji7
 by_cases c8 : 0 ≤ (ji7)
 rotate_left
 · rw [if_neg c8] at H; exact absurd H (by simp)
 rw [if_pos c8] at H
 have c8b0 : decide (0 ≤ (ji7)) = true := decide_eq_true c8
 clear c8
 by_cases c9 : (ji7) < (x0_1.length : Int)
 rotate_left
 · rw [if_neg c9] at H; exact absurd H (by simp)
 rw [if_pos c9] at H
 have c9b0 : decide ((ji7) < (x0_1.length : Int)) = true := decide_eq_true c9
 have c9b0h := c9b0
 (try simp only [hl0_1] at c9b0h)
 clear c9
 by_cases c10 : (rd x0_1 x3_1) = (rd x0_1 (ji7))
 rotate_left
 ·
  rw [if_neg c10] at H
  have c10b0 : ((rd x0_1 x3_1) == (rd x0_1 (ji7))) = false := beq_eq_false_iff_ne.mpr c10
  have c10b1 : ((rd x0_1 x3_1) != (rd x0_1 (ji7))) = true := bne_iff_ne.mpr c10
  have H' := Aside0.mk H
  clear H
  have p171 : 0 ≤ (x3_1 : Int) := od
  have q171 : x3_1 < (x0_1.length : Int) := od
  obtain ⟨ad171, e171, hx171_0⟩ := Kd.at_int (Kd.R_reads' HO_0.out).2.2 x3_1 p171 q171
  cases e171
  replace p171 := eq_true p171
  replace q171 := eq_true q171
  have p172 : 0 ≤ ((ji7) : Int) := od
  have q172 : (ji7) < (x0_1.length : Int) := od
  obtain ⟨ad172, e172, hx172_0⟩ := Kd.at_int (Kd.R_reads' HO_0.out).2.2 (ji7) p172 q172
  obtain rfl : ad171 = ad172 := (by injection e172)
  replace p172 := eq_true p172
  replace q172 := eq_true q172
  go_wp2
  repeat (go_quiet (fail); try go_wp2)
  (try simp only [← hl0_1])
  go_roundg k1
  case measure => have := HK1.out; omega
  case rel => exact ⟨(x0_1), (wrap64 (x3_1 + 1)), zR, H', ⟨by have := HK1.out; omega⟩, ⟨by (try simp only [hl0_1]); (with_reducible repeat (first | apply Kd.R_alloc | apply Kd.R_drewN | apply Kd.R_drew)); exact HO_0.out⟩, ⟨zH⟩, ⟨zB⟩⟩
 rw [if_pos c10] at H
 have c10b0 : ((rd x0_1 x3_1) == (rd x0_1 (ji7))) = true := beq_iff_eq.mpr c10
 have c10b1 : ((rd x0_1 x3_1) != (rd x0_1 (ji7))) = false := bne_eq_false_iff_eq.mpr c10
 clear c10
 have c11b0 := eq_true (od : 0 ≤ x3_1)
 by_cases c12 : x3_1 ≤ (x0_1.length : Int)
 rotate_left
 · rw [if_neg c12] at H; exact absurd H (by simp)
 rw [if_pos c12] at H
 have c12b0 := eq_true c12
 have c12b1 : decide (x3_1 ≤ (x0_1.length : Int)) = true := decide_eq_true c12
 have c12b1h := c12b1
 (try simp only [hl0_1] at c12b1h)
 clear c12
 obtain ⟨y173, hy173⟩ : ∃ y_ : List Int, y_ = (x0_1.drop (x3_1 : Int).toNat) := ⟨_, rfl⟩
 replace H : (g5_.l1 k1 x0_1 x3_1 y173 1) = some r := by first | (rw [hy173]; with_reducible exact H) | (have H2_ := (Option.bind_some _ _).symm.trans H; rw [hy173]; with_reducible exact H2_) | (have H2_ := (Option.bind_some _ _).symm.trans H; with_reducible exact H2_) | with_reducible exact H | (rw [hy173]; exact H) | exact H
 have Ny173 := Aside0.mk hy173
 clear hy173
 have H' := Aside0.mk H
 clear H
 have p171 : 0 ≤ (x3_1 : Int) := od
 have q171 : x3_1 < (x0_1.length : Int) := od
 obtain ⟨ad171, e171, hx171_0⟩ := Kd.at_int (Kd.R_reads' HO_0.out).2.2 x3_1 p171 q171
 cases e171
 replace p171 := eq_true p171
 replace q171 := eq_true q171
 have p172 : 0 ≤ ((ji7) : Int) := od
 have q172 : (ji7) < (x0_1.length : Int) := od
 obtain ⟨ad172, e172, hx172_0⟩ := Kd.at_int (Kd.R_reads' HO_0.out).2.2 (ji7) p172 q172
 obtain rfl : ad171 = ad172 := (by injection e172)
 replace p172 := eq_true p172
 replace q172 := eq_true q172
 have q13 : (x3_1 : Int) ≤ ((x0_1.length : Int) : Int) := od
 obtain ⟨i013, hi013, _, hsz13, _⟩ := info_parts info3
 have hroom13 : x0_1.length ≤ co4 := (Kd.R_reads' HO_0.out).2.1
 have hC13 : Kd.C (Kd.int .i64) _ (some ad171) x0_1.length x0_1 := (Kd.R_reads' HO_0.out).2.2
 have q013 : (0 : Int) ≤ (x3_1 : Int) := od
 have hcut13 := cut_from (P := Tryd.prog) 23 3 .i64 Tryd.underlying23 hi013 1 hsz13 (some ad171) x0_1.length co4 x3_1 q013 q13
 have hr13 := Kd.C_drop (m := (x3_1 : Int).toNat) (c := co4) hC13 (by omega) hroom13
 obtain ⟨A13, hA13⟩ : ∃ A1, A1 = (if co4 = (x3_1 : Int).toNat then (some ad171) else ((some ad171) : Option Addr).map (·.add ((x3_1 : Int).toNat * 1))) := ⟨_, rfl⟩
 obtain ⟨c13, hc13⟩ : ∃ c1, c1 = co4 - (x3_1 : Int).toNat := ⟨_, rfl⟩
 have hy13 : y173.length = x0_1.length - (x3_1 : Int).toNat := (by rw [Ny173.out, List.length_drop] <;> omega)
 rw [show (x0_1).drop (x3_1 : Int).toNat = y173 from Ny173.out.symm] at hr13
 replace hr13 : Kd.C (Kd.int .i64) _ A13 y173.length y173 := (by rw [hA13]; exact hr13)
 rw [← hy13, ← hA13, ← hc13] at hcut13
 have HR176 := Aside0.mk hr13
 have HC176 := Aside0.mk (show y173.length ≤ c13 from by rw [hy13, hc13]; exact Nat.sub_le_sub_right hroom13 _)
 clear hr13 hC13 hroom13 hi013 hsz13 hc13
 have KY13 := Aside0.mk hy13
 have KA13 := Aside0.mk hA13
 clear hy13 hA13
 have KL13 := Aside0.mk (show (x3_1 : Int).toNat ≤ x0_1.length from by omega)
 have CI0 : 0 ≤ x3_1 ∧ x3_1 ≤ (x0_1.length : Int) ∧ (x0_1.length : Int) ≤ 9223372036854775807 := ⟨q013, q13, by have hb_ := (Kd.R_reads' HO_0.out).2.2.2.1; omega⟩
 replace q13 := eq_true q13
 go_wp2
 repeat (go_quiet (fail); try go_wp2)
 go_loopg [3, 5] k1 (fun kq v3 v5 w' => ∃ (x0_2 : List Int) (x3_2 : Int) (x5_2 : Int), v3 = .int .i64 x3_2 ∧ v5 = .int .i64 x5_2 ∧ Aside0 (g5_.l1 kq x0_2 x3_2 y173 x5_2 = some r) ∧ Aside0 (CInv x3_1 x0_2 x3_2 x5_2 y173) ∧ Aside0 (kq ≤ k1) ∧ Aside0 (Kd.R (Kd.int .i64) 3 w' w0.heap.size (fun k_ => (P0_ k_ ∨ w.heap.size ≤ k_)) (.slice (some ad171) x0_1.length co4) x0_2) ∧ Aside0 (Kept w w' (fun k_ => P0_ k_)) ∧ Aside0 (Below w0.heap.size w0 w'))
 case atStart => exact ⟨(x0_1), (x3_1), (1), zR, zR, H', ⟨CInv.start CI0.1 CI0.2.1 Ny173.out CI0.2.2⟩, ⟨Nat.le_refl _⟩, ⟨by (try simp only [hl0_1]); (with_reducible repeat (first | apply Kd.R_alloc | apply Kd.R_drewN | apply Kd.R_drew)); exact HO_0.out⟩, ⟨zH⟩, ⟨zB⟩⟩
 clear H'
 try clear c1
 try clear p1
 try clear q1
 try clear hx1
 try clear c2
 try clear c2b0
 try clear c2b1
 try clear p2
 try clear c5
 try clear c5b0
 try clear c6
 try clear c6b0
 try clear p6
 try clear c8
 try clear c8b0
 try clear c9
 try clear c9b0
 try clear c10
 try clear c10b0
 try clear c10b1
 try clear c11
 try clear c11b0
 try clear c12
 try clear c12b0
 try clear c12b1
 try clear c13
 try clear q13
 try clear hx171_0
 try clear hx172_0
 try clear p171
 try clear p172
 try clear p2
 try clear q013
 try clear q13
 try clear q171
 try clear q172
 obtain ⟨x0_2, x3_2, x5_2, rfl, rfl, HA, HC2, HK2, HO_0, HK, HB⟩ := hrel
 have hl0_2 := (Kd.R_reads' HO_0.out).1
 rw [hl0_2] at HO_0
 (try simp only [hl0_2])
 rcases gk with _ | k2
 · exact absurd HA.out (by simp [g5_.l1])
 have H := HA.out
 clear HA
 simp only [g5_.l1] at H
 by_cases c14 : x5_2 < (y173.length : Int)
 rotate_left
 ·
  rw [if_neg c14] at H
  have c14b0 : decide (x5_2 < (y173.length : Int)) = false := decide_eq_false c14
  have c14b0h := c14b0
  (try simp only [hl0_1, hl0_2] at c14b0h)
  clear c14
  by_cases c25 : 0 ≤ x3_2
  rotate_left
  · rw [if_neg c25] at H; exact absurd H (by simp)
  rw [if_pos c25] at H
  have c25b0 := eq_true c25
  have c25b1 : decide (0 ≤ x3_2) = true := decide_eq_true c25
  clear c25
  by_cases c26 : x3_2 ≤ (x0_2.length : Int)
  rotate_left
  · rw [if_neg c26] at H; exact absurd H (by simp)
  rw [if_pos c26] at H
  have c26b0 := eq_true c26
  have c26b1 : decide (x3_2 ≤ (x0_2.length : Int)) = true := decide_eq_true c26
  have c26b1h := c26b1
  (try simp only [hl0_1, hl0_2] at c26b1h)
  clear c26
  obtain ⟨y181, hy181⟩ : ∃ y_ : List Int, y_ = (x0_2.drop (x3_2 : Int).toNat) := ⟨_, rfl⟩
  replace H : ((some (x0_2.take (x3_2 : Int).toNat ++ List.replicate (x0_2.length - (x3_2 : Int).toNat) 0 : List Int)).bind fun y185 => (if x3_2 ≤ (y185.length : Int) then (some (y185.take (x3_2 : Int).toNat)) else (none))) = some r := by first | (rw [hy181]; with_reducible exact H) | (have H2_ := (Option.bind_some _ _).symm.trans H; rw [hy181]; with_reducible exact H2_) | (have H2_ := (Option.bind_some _ _).symm.trans H; with_reducible exact H2_) | with_reducible exact H | (rw [hy181]; exact H) | exact H
  have Ny181 := Aside0.mk hy181
  clear hy181
  obtain ⟨y185, hy185⟩ : ∃ y_ : List Int, y_ = (x0_2.take (x3_2 : Int).toNat ++ List.replicate (x0_2.length - (x3_2 : Int).toNat) 0) := ⟨_, rfl⟩
  replace H : (if x3_2 ≤ (y185.length : Int) then (some (y185.take (x3_2 : Int).toNat)) else (none)) = some r := by first | (rw [hy185]; with_reducible exact H) | (have H2_ := (Option.bind_some _ _).symm.trans H; rw [hy185]; with_reducible exact H2_) | (have H2_ := (Option.bind_some _ _).symm.trans H; with_reducible exact H2_) | with_reducible exact H | (rw [hy185]; exact H) | exact H
  have Ny185 := Aside0.mk hy185
  clear hy185
  by_cases c27 : x3_2 ≤ (y185.length : Int)
  rotate_left
  · rw [if_neg c27] at H; exact absurd H (by simp)
  rw [if_pos c27] at H
  have c27b0 := eq_true c27
  have c27b1 : decide (x3_2 ≤ (y185.length : Int)) = true := decide_eq_true c27
  have c27b1h := c27b1
  (try simp only [hl0_1, hl0_2] at c27b1h)
  clear c27
  obtain ⟨y188, hy188⟩ : ∃ y_ : List Int, y_ = (y185.take (x3_2 : Int).toNat) := ⟨_, rfl⟩
  replace H : (some y188) = some r := by first | (rw [hy188]; with_reducible exact H) | (have H2_ := (Option.bind_some _ _).symm.trans H; rw [hy188]; with_reducible exact H2_) | (have H2_ := (Option.bind_some _ _).symm.trans H; with_reducible exact H2_) | with_reducible exact H | (rw [hy188]; exact H) | exact H
  have Ny188 := Aside0.mk hy188
  clear hy188
  obtain rfl := Option.some.inj H
  have q28 : (x3_2 : Int) ≤ ((x0_2.length : Int) : Int) := od
  obtain ⟨i028, hi028, _, hsz28, _⟩ := info_parts info3
  have hroom28 : x0_2.length ≤ co4 := (Kd.R_reads' HO_0.out).2.1
  have hC28 : Kd.C (Kd.int .i64) _ (some ad171) x0_2.length x0_2 := (Kd.R_reads' HO_0.out).2.2
  have q028 : (0 : Int) ≤ (x3_2 : Int) := od
  have hcut28 := cut_from (P := Tryd.prog) 23 3 .i64 Tryd.underlying23 hi028 1 hsz28 (some ad171) x0_2.length co4 x3_2 q028 q28
  have hr28 := Kd.C_drop (m := (x3_2 : Int).toNat) (c := co4) hC28 (by omega) hroom28
  obtain ⟨A28, hA28⟩ : ∃ A1, A1 = (if co4 = (x3_2 : Int).toNat then (some ad171) else ((some ad171) : Option Addr).map (·.add ((x3_2 : Int).toNat * 1))) := ⟨_, rfl⟩
  obtain ⟨c28, hc28⟩ : ∃ c1, c1 = co4 - (x3_2 : Int).toNat := ⟨_, rfl⟩
  have hy28 : y181.length = x0_2.length - (x3_2 : Int).toNat := (by rw [Ny181.out, List.length_drop] <;> omega)
  rw [show (x0_2).drop (x3_2 : Int).toNat = y181 from Ny181.out.symm] at hr28
  replace hr28 : Kd.C (Kd.int .i64) _ A28 y181.length y181 := (by rw [hA28]; exact hr28)
  rw [← hy28, ← hA28, ← hc28] at hcut28
  have HR184 := Aside0.mk hr28
  have HC184 := Aside0.mk (show y181.length ≤ c28 from by rw [hy28, hc28]; exact Nat.sub_le_sub_right hroom28 _)
  clear hr28 hC28 hroom28 hi028 hsz28 hc28
  have KY28 := Aside0.mk hy28
  have KA28 := Aside0.mk hA28
  clear hy28 hA28
  have KL28 := Aside0.mk (show (x3_2 : Int).toNat ≤ x0_2.length from by omega)
  replace q28 := eq_true q28
  go_wp2_with (first | ((with_reducible refine gate_builtin (b := .clear) (xs := #[.tmp 56]) rfl ?_); have hj_ : 0 ≤ (x3_2 : Int) := od; have hl_ : (x3_2 : Int) ≤ (x0_2.length : Int) := od; refine Kd.R_clear (Kd.int .i64) (w0 := w0) w0.heap.size rfl (.tmp 56) 23 3 (.int .i64 0) 0 rfl Tryd.underlying23 info3 rfl (by decide) (fun _ _ _ => rfl) (A0 := (some ad171)) (n := x0_2.length) (c := co4) (k := (x3_2 : Int).toNat) rfl ?hA ?hm (zO HO_0) ?hk zB (below_size zB) ?_; (case hA => exact KA28.out); (case hm => have ha_ := KY28.out; omega); (case hk => omega); intro w29 ho hb hg; clear hl_; (try clear hj_); rw [← Ny185.out] at ho; have hn_ : x0_2.length = y185.length := (Kd.R_reads' ho).1; rw [hn_] at ho ⊢; clear hn_; have n0_ := Aside0.mk (ho); have n1_ := Aside0.mk (hb); have n2_ := Aside0.mk (Kept.of_grown (S := (fun k_ => P0_ k_)) hg zH (fun k_ e_ => (HO_0.out.1 k_ e_))); clear HO_0; clear HB; clear HK; have HO_0 := n0_; have HB := n1_; have HK := n2_; clear n0_ n1_ n2_; clear ho hb hg; have q31 : (x3_2 : Int) ≤ ((y185.length : Int) : Int) := od; obtain ⟨i031, hi031, _, hsz31, _⟩ := info_parts info3; have hcut31 := cut_to (P := Tryd.prog) 23 3 .i64 Tryd.underlying23 hi031 (some ad171) y185.length co4 x3_2 (od) q31 (Kd.R_reads' HO_0.out).2.1; have hr31 := Kd.R_take (m := (x3_2 : Int).toNat) HO_0.out (by omega); have hy31 : y188.length = (x3_2 : Int).toNat := (by rw [Ny188.out, List.length_take]; omega); rw [← Ny188.out] at hr31; rw [← hy31] at hr31 hcut31; clear hy31 hi031 hsz31 HO_0; have HO190 := Aside0.mk hr31; clear hr31; replace q31 := eq_true q31))
  repeat (go_quiet (first | ((with_reducible refine gate_builtin (b := .clear) (xs := #[.tmp 56]) rfl ?_); have hj_ : 0 ≤ (x3_2 : Int) := od; have hl_ : (x3_2 : Int) ≤ (x0_2.length : Int) := od; refine Kd.R_clear (Kd.int .i64) (w0 := w0) w0.heap.size rfl (.tmp 56) 23 3 (.int .i64 0) 0 rfl Tryd.underlying23 info3 rfl (by decide) (fun _ _ _ => rfl) (A0 := (some ad171)) (n := x0_2.length) (c := co4) (k := (x3_2 : Int).toNat) rfl ?hA ?hm (zO HO_0) ?hk zB (below_size zB) ?_; (case hA => exact KA28.out); (case hm => have ha_ := KY28.out; omega); (case hk => omega); intro w29 ho hb hg; clear hl_; (try clear hj_); rw [← Ny185.out] at ho; have hn_ : x0_2.length = y185.length := (Kd.R_reads' ho).1; rw [hn_] at ho ⊢; clear hn_; have n0_ := Aside0.mk (ho); have n1_ := Aside0.mk (hb); have n2_ := Aside0.mk (Kept.of_grown (S := (fun k_ => P0_ k_)) hg zH (fun k_ e_ => (HO_0.out.1 k_ e_))); clear HO_0; clear HB; clear HK; have HO_0 := n0_; have HB := n1_; have HK := n2_; clear n0_ n1_ n2_; clear ho hb hg; have q31 : (x3_2 : Int) ≤ ((y185.length : Int) : Int) := od; obtain ⟨i031, hi031, _, hsz31, _⟩ := info_parts info3; have hcut31 := cut_to (P := Tryd.prog) 23 3 .i64 Tryd.underlying23 hi031 (some ad171) y185.length co4 x3_2 (od) q31 (Kd.R_reads' HO_0.out).2.1; have hr31 := Kd.R_take (m := (x3_2 : Int).toNat) HO_0.out (by omega); have hy31 : y188.length = (x3_2 : Int).toNat := (by rw [Ny188.out, List.length_take]; omega); rw [← Ny188.out] at hr31; rw [← hy31] at hr31 hcut31; clear hy31 hi031 hsz31 HO_0; have HO190 := Aside0.mk hr31; clear hr31; replace q31 := eq_true q31)); try go_wp2_with (first | ((with_reducible refine gate_builtin (b := .clear) (xs := #[.tmp 56]) rfl ?_); have hj_ : 0 ≤ (x3_2 : Int) := od; have hl_ : (x3_2 : Int) ≤ (x0_2.length : Int) := od; refine Kd.R_clear (Kd.int .i64) (w0 := w0) w0.heap.size rfl (.tmp 56) 23 3 (.int .i64 0) 0 rfl Tryd.underlying23 info3 rfl (by decide) (fun _ _ _ => rfl) (A0 := (some ad171)) (n := x0_2.length) (c := co4) (k := (x3_2 : Int).toNat) rfl ?hA ?hm (zO HO_0) ?hk zB (below_size zB) ?_; (case hA => exact KA28.out); (case hm => have ha_ := KY28.out; omega); (case hk => omega); intro w29 ho hb hg; clear hl_; (try clear hj_); rw [← Ny185.out] at ho; have hn_ : x0_2.length = y185.length := (Kd.R_reads' ho).1; rw [hn_] at ho ⊢; clear hn_; have n0_ := Aside0.mk (ho); have n1_ := Aside0.mk (hb); have n2_ := Aside0.mk (Kept.of_grown (S := (fun k_ => P0_ k_)) hg zH (fun k_ e_ => (HO_0.out.1 k_ e_))); clear HO_0; clear HB; clear HK; have HO_0 := n0_; have HB := n1_; have HK := n2_; clear n0_ n1_ n2_; clear ho hb hg; have q31 : (x3_2 : Int) ≤ ((y185.length : Int) : Int) := od; obtain ⟨i031, hi031, _, hsz31, _⟩ := info_parts info3; have hcut31 := cut_to (P := Tryd.prog) 23 3 .i64 Tryd.underlying23 hi031 (some ad171) y185.length co4 x3_2 (od) q31 (Kd.R_reads' HO_0.out).2.1; have hr31 := Kd.R_take (m := (x3_2 : Int).toNat) HO_0.out (by omega); have hy31 : y188.length = (x3_2 : Int).toNat := (by rw [Ny188.out, List.length_take]; omega); rw [← Ny188.out] at hr31; rw [← hy31] at hr31 hcut31; clear hy31 hi031 hsz31 HO_0; have HO190 := Aside0.mk hr31; clear hr31; replace q31 := eq_true q31)))
  go_ret
  exact ⟨_, by first | rfl | (simp [errW_none, errW_some] <;> rfl) | (simp only [← hji7]; first | rfl | (simp [errW_none, errW_some] <;> rfl)) | (simp [*, errW_none, errW_some] <;> rfl), by (with_reducible repeat (first | apply Kd.R_alloc | apply Kd.R_drewN | apply Kd.R_drew)); exact HO190.out, zB, zH⟩
 rw [if_pos c14] at H
 have c14b0 : decide (x5_2 < (y173.length : Int)) = true := decide_eq_true c14
 have c14b0h := c14b0
 (try simp only [hl0_1, hl0_2] at c14b0h)
 clear c14
 by_cases c15 : 0 ≤ x5_2
 rotate_left
 · rw [if_neg c15] at H; exact absurd H (by simp)
 rw [if_pos c15] at H
 have c15b0 : decide (0 ≤ x5_2) = true := decide_eq_true c15
 clear c15
 obtain ⟨ji16, hji16⟩ : ∃ j_ : Int, (wrap64 (x5_2 - 1)) = j_ := ⟨_, rfl⟩
 replace H : (if 0 ≤ (ji16) then (if (ji16) < (y173.length : Int) then (if (rd y173 x5_2) = (rd y173 (ji16)) then (g5_.l1 k2 x0_2 x3_2 y173 (wrap64 (x5_2 + 1))) else (if 0 ≤ x3_2 then (if x3_2 < (x0_2.length : Int) then (g5_.l1 k2 (x0_2.set (x3_2 : Int).toNat (rd y173 x5_2)) (wrap64 (x3_2 + 1)) y173 (wrap64 (x5_2 + 1))) else (none)) else (none))) else (none)) else (none)) = some r := by first | (rw [hji16] at H; exact H) | (simp only [hji16] at H ⊢; exact H)
 have hji16w : (IntKind.i64.wrap (x5_2 - 1)) = ji16 := (i64_w _).trans hji16
 by_cases c17 : 0 ≤ (ji16)
 rotate_left
 · rw [if_neg c17] at H; exact absurd H (by simp)
 rw [if_pos c17] at H
 have c17b0 : decide (0 ≤ (ji16)) = true := decide_eq_true c17
 clear c17
 by_cases c18 : (ji16) < (y173.length : Int)
 rotate_left
 · rw [if_neg c18] at H; exact absurd H (by simp)
 rw [if_pos c18] at H
 have c18b0 : decide ((ji16) < (y173.length : Int)) = true := decide_eq_true c18
 have c18b0h := c18b0
 (try simp only [hl0_1, hl0_2] at c18b0h)
 clear c18
 by_cases c19 : (rd y173 x5_2) = (rd y173 (ji16))
 ·
  rw [if_pos c19] at H
  have c19b0 : ((rd y173 x5_2) == (rd y173 (ji16))) = true := beq_iff_eq.mpr c19
  have c19b1 : ((rd y173 x5_2) != (rd y173 (ji16))) = false := bne_eq_false_iff_eq.mpr c19
  clear c19
  have H' := Aside0.mk H
  clear H
  have p177 : 0 ≤ (x5_2 : Int) := od
  have q177 : x5_2 < (y173.length : Int) := od
  obtain ⟨ad177, e177, hx177_0⟩ := Kd.at_int HR176.out x5_2 p177 q177
  cases e177
  replace hx177_0 := CInv.read HC2.out HO_0.out KA13.out x5_2 (by omega) q177
  replace p177 := eq_true p177
  replace q177 := eq_true q177
  have p178 : 0 ≤ ((ji16) : Int) := od
  have q178 : (ji16) < (y173.length : Int) := od
  obtain ⟨ad178, e178, hx178_0⟩ := Kd.at_int HR176.out (ji16) p178 q178
  obtain rfl : ad177 = ad178 := (by injection e178)
  replace hx178_0 := CInv.read HC2.out HO_0.out KA13.out (ji16) (by have q_ := of_eq_true q177; have z_ := HC2.out.2.1; have y_ := HC2.out.2.2.2.1; have x_ := HC2.out.2.2.2.2.1; have i_ := HC2.out.1; rw [← hji16, w64_in (by omega) (by omega)]; exact Int.le_refl _) q178
  replace p178 := eq_true p178
  replace q178 := eq_true q178
  go_wp2
  repeat (go_quiet (fail); try go_wp2)
  (try simp only [← hl0_2])
  go_roundg k2
  case measure => have := HK1.out; have := HK2.out; omega
  case rel => exact ⟨(x0_2), (x3_2), (wrap64 (x5_2 + 1)), zR, zR, H', ⟨by (try simp only [hl0_1]); (try simp only [hl0_2]); exact CInv.skip HC2.out (of_eq_true q177)⟩, ⟨by have := HK1.out; have := HK2.out; omega⟩, ⟨by (try simp only [hl0_1]); (try simp only [hl0_2]); (with_reducible repeat (first | apply Kd.R_alloc | apply Kd.R_drewN | apply Kd.R_drew)); exact HO_0.out⟩, ⟨zH⟩, ⟨zB⟩⟩
 rw [if_neg c19] at H
 have c19b0 : ((rd y173 x5_2) == (rd y173 (ji16))) = false := beq_eq_false_iff_ne.mpr c19
 have c19b1 : ((rd y173 x5_2) != (rd y173 (ji16))) = true := bne_iff_ne.mpr c19
 by_cases c20 : 0 ≤ x3_2
 rotate_left
 · rw [if_neg c20] at H; exact absurd H (by simp)
 rw [if_pos c20] at H
 have c20b0 : decide (0 ≤ x3_2) = true := decide_eq_true c20
 clear c20
 by_cases c21 : x3_2 < (x0_2.length : Int)
 rotate_left
 · rw [if_neg c21] at H; exact absurd H (by simp)
 rw [if_pos c21] at H
 have c21b0 : decide (x3_2 < (x0_2.length : Int)) = true := decide_eq_true c21
 have c21b0h := c21b0
 (try simp only [hl0_1, hl0_2] at c21b0h)
 clear c21
 obtain ⟨y180, hy180⟩ : ∃ y_ : List Int, y_ = (x0_2.set (x3_2 : Int).toNat (rd y173 x5_2)) := ⟨_, rfl⟩
 replace H : (g5_.l1 k2 y180 (wrap64 (x3_2 + 1)) y173 (wrap64 (x5_2 + 1))) = some r := by first | (rw [hy180]; with_reducible exact H) | (have H2_ := (Option.bind_some _ _).symm.trans H; rw [hy180]; with_reducible exact H2_) | (have H2_ := (Option.bind_some _ _).symm.trans H; with_reducible exact H2_) | with_reducible exact H | (rw [hy180]; exact H) | exact H
 have Ny180 := Aside0.mk hy180
 clear hy180
 have H' := Aside0.mk H
 clear H
 have p177 : 0 ≤ (x5_2 : Int) := od
 have q177 : x5_2 < (y173.length : Int) := od
 obtain ⟨ad177, e177, hx177_0⟩ := Kd.at_int HR176.out x5_2 p177 q177
 cases e177
 replace hx177_0 := CInv.read HC2.out HO_0.out KA13.out x5_2 (by omega) q177
 replace p177 := eq_true p177
 replace q177 := eq_true q177
 have p178 : 0 ≤ ((ji16) : Int) := od
 have q178 : (ji16) < (y173.length : Int) := od
 obtain ⟨ad178, e178, hx178_0⟩ := Kd.at_int HR176.out (ji16) p178 q178
 obtain rfl : ad177 = ad178 := (by injection e178)
 replace hx178_0 := CInv.read HC2.out HO_0.out KA13.out (ji16) (by have q_ := of_eq_true q177; have z_ := HC2.out.2.1; have y_ := HC2.out.2.2.2.1; have x_ := HC2.out.2.2.2.2.1; have i_ := HC2.out.1; rw [← hji16, w64_in (by omega) (by omega)]; exact Int.le_refl _) q178
 replace p178 := eq_true p178
 replace q178 := eq_true q178
 have p179 : 0 ≤ (x5_2 : Int) := od
 have q179 : x5_2 < (y173.length : Int) := od
 obtain ⟨ad179, e179, hx179_0⟩ := Kd.at_int HR176.out x5_2 p179 q179
 obtain rfl : ad177 = ad179 := (by injection e179)
 replace hx179_0 := CInv.read HC2.out HO_0.out KA13.out x5_2 (by omega) q179
 replace p179 := eq_true p179
 replace q179 := eq_true q179
 have p22 : 0 ≤ (x3_2 : Int) := od
 have q22 : (x3_2 : Int) < ((x0_2.length : Int) : Int) := od
 obtain ⟨go22, co22, eo22, gb22, gl22, cl22, HG22⟩ := Kd.R_form HO_0.out (by omega)
 (first | cases eo22 | (injection eo22 with ea_ en_ ec_; (first | subst ea_ | (injection ea_ with ea_; subst ea_)); subst ec_; clear en_))
 have GB22 := Aside0.mk gb22
 have GG22 := Aside0.mk HG22
 clear gb22 gl22 HG22
 have HMgo22 := Aside0.mk (show (P0_ go22 ∨ w.heap.size ≤ go22) from (HO_0.out.1 _ rfl))
 (first | simp only [add_plain] at hx171_0 | skip)
 (first | simp only [add_plain] at hx172_0 | skip)
 obtain ⟨hx22_0, hf22_0⟩ := Kd.R_celln 0 HO_0.out (x3_2 : Int) p22 q22
 replace p22 := eq_true p22
 replace q22 := eq_true q22
 have HP23 := Kd.R_putg HO_0.out (x3_2 : Int) (rd y173 x5_2)
 go_wp2_with (first | ((with_reducible refine gate_store (t := 3) (p := 51) rfl ?_); (try (rw [drewN_self wr]; generalize hq_ : World.drewN wr _ = wr; have n0_ := Aside0.mk (Kd.R_at hq_ HO_0.out); have n1_ := Aside0.mk (kept_at hq_ HK.out); have n2_ := Aside0.mk (below_at hq_ HB.out); clear hq_ HO_0 HK HB; have HO_0 := n0_; have HK := n1_; have HB := n2_; clear n0_ n1_ n2_; (try (have HP23 := Kd.R_putg HO_0.out (x3_2 : Int) (rd y173 x5_2))); (try (obtain ⟨hx22_0, hf22_0⟩ := Kd.R_celln 0 HO_0.out (x3_2 : Int) (of_eq_true p22) (of_eq_true q22))))); refine store_event (t := 3) (p := 51) (v := ?vo_w24) (w1 := (wr.setCell ⟨go22, (x3_2 : Int).toNat, none⟩ (.int .i64 (rd y173 x5_2)))) ?hg ?ho ?hn ?hr ?_; (case ho => rfl); (case hg => rfl); (case hn => rfl); (case hr => first | (go_simp; done) | (go_simp; rfl)); intro w24 hw; have hg : wr.grownBy w24 (some go22) := (by rw [hw]; exact HP23.2); have hp_ : Kd.R (Kd.int .i64) 3 w24 w0.heap.size (fun k_ => (P0_ k_ ∨ w.heap.size ≤ k_)) (.slice (some ⟨go22, 0, none⟩) x0_2.length co4) y180 := (by rw [hw, Ny180.out]; exact HP23.1); clear HP23; have n0_ := Aside0.mk (hp_); have n1_ := Aside0.mk ((by rw [hw]; exact below_set (HB.out) GB22.out : Below w0.heap.size w0 w24)); have n2_ := Aside0.mk (Kept.of_grown (S := (fun k_ => P0_ k_)) hg zH (fun k_ e_ => (HO_0.out.1 k_ e_))); clear HO_0; clear HB; clear HK; have HO_0 := n0_; have HB := n1_; have HK := n2_; clear n0_ n1_ n2_; clear hg hw hp_))
 repeat (go_quiet (first | ((with_reducible refine gate_store (t := 3) (p := 51) rfl ?_); (try (rw [drewN_self wr]; generalize hq_ : World.drewN wr _ = wr; have n0_ := Aside0.mk (Kd.R_at hq_ HO_0.out); have n1_ := Aside0.mk (kept_at hq_ HK.out); have n2_ := Aside0.mk (below_at hq_ HB.out); clear hq_ HO_0 HK HB; have HO_0 := n0_; have HK := n1_; have HB := n2_; clear n0_ n1_ n2_; (try (have HP23 := Kd.R_putg HO_0.out (x3_2 : Int) (rd y173 x5_2))); (try (obtain ⟨hx22_0, hf22_0⟩ := Kd.R_celln 0 HO_0.out (x3_2 : Int) (of_eq_true p22) (of_eq_true q22))))); refine store_event (t := 3) (p := 51) (v := ?vo_w24) (w1 := (wr.setCell ⟨go22, (x3_2 : Int).toNat, none⟩ (.int .i64 (rd y173 x5_2)))) ?hg ?ho ?hn ?hr ?_; (case ho => rfl); (case hg => rfl); (case hn => rfl); (case hr => first | (go_simp; done) | (go_simp; rfl)); intro w24 hw; have hg : wr.grownBy w24 (some go22) := (by rw [hw]; exact HP23.2); have hp_ : Kd.R (Kd.int .i64) 3 w24 w0.heap.size (fun k_ => (P0_ k_ ∨ w.heap.size ≤ k_)) (.slice (some ⟨go22, 0, none⟩) x0_2.length co4) y180 := (by rw [hw, Ny180.out]; exact HP23.1); clear HP23; have n0_ := Aside0.mk (hp_); have n1_ := Aside0.mk ((by rw [hw]; exact below_set (HB.out) GB22.out : Below w0.heap.size w0 w24)); have n2_ := Aside0.mk (Kept.of_grown (S := (fun k_ => P0_ k_)) hg zH (fun k_ e_ => (HO_0.out.1 k_ e_))); clear HO_0; clear HB; clear HK; have HO_0 := n0_; have HB := n1_; have HK := n2_; clear n0_ n1_ n2_; clear hg hw hp_)); try go_wp2_with (first | ((with_reducible refine gate_store (t := 3) (p := 51) rfl ?_); (try (rw [drewN_self wr]; generalize hq_ : World.drewN wr _ = wr; have n0_ := Aside0.mk (Kd.R_at hq_ HO_0.out); have n1_ := Aside0.mk (kept_at hq_ HK.out); have n2_ := Aside0.mk (below_at hq_ HB.out); clear hq_ HO_0 HK HB; have HO_0 := n0_; have HK := n1_; have HB := n2_; clear n0_ n1_ n2_; (try (have HP23 := Kd.R_putg HO_0.out (x3_2 : Int) (rd y173 x5_2))); (try (obtain ⟨hx22_0, hf22_0⟩ := Kd.R_celln 0 HO_0.out (x3_2 : Int) (of_eq_true p22) (of_eq_true q22))))); refine store_event (t := 3) (p := 51) (v := ?vo_w24) (w1 := (wr.setCell ⟨go22, (x3_2 : Int).toNat, none⟩ (.int .i64 (rd y173 x5_2)))) ?hg ?ho ?hn ?hr ?_; (case ho => rfl); (case hg => rfl); (case hn => rfl); (case hr => first | (go_simp; done) | (go_simp; rfl)); intro w24 hw; have hg : wr.grownBy w24 (some go22) := (by rw [hw]; exact HP23.2); have hp_ : Kd.R (Kd.int .i64) 3 w24 w0.heap.size (fun k_ => (P0_ k_ ∨ w.heap.size ≤ k_)) (.slice (some ⟨go22, 0, none⟩) x0_2.length co4) y180 := (by rw [hw, Ny180.out]; exact HP23.1); clear HP23; have n0_ := Aside0.mk (hp_); have n1_ := Aside0.mk ((by rw [hw]; exact below_set (HB.out) GB22.out : Below w0.heap.size w0 w24)); have n2_ := Aside0.mk (Kept.of_grown (S := (fun k_ => P0_ k_)) hg zH (fun k_ e_ => (HO_0.out.1 k_ e_))); clear HO_0; clear HB; clear HK; have HO_0 := n0_; have HB := n1_; have HK := n2_; clear n0_ n1_ n2_; clear hg hw hp_)))
 (try simp only [← hl0_2])
 (try rw [show (⟨go22, x3_1.toNat, none⟩ : Addr) = Addr.add ⟨go22, 0, none⟩ x3_1.toNat from by simp [Addr.add]])
 (try rw [show (⟨go22, ji7.toNat, none⟩ : Addr) = Addr.add ⟨go22, 0, none⟩ ji7.toNat from by simp [Addr.add]])
 go_roundg k2
 case measure => have := HK1.out; have := HK2.out; omega
 case rel => exact ⟨(y180), (wrap64 (x3_2 + 1)), (wrap64 (x5_2 + 1)), zR, zR, H', ⟨CInv.put HC2.out (of_eq_true q177) (of_eq_true p22) Ny180.out⟩, ⟨by have := HK1.out; have := HK2.out; omega⟩, ⟨by (try simp only [hl0_1]); (try simp only [hl0_2]); (with_reducible repeat (first | apply Kd.R_alloc | apply Kd.R_drewN | apply Kd.R_drew)); exact HO_0.out⟩, ⟨zH⟩, ⟨zB⟩⟩
end Go.Proofs.YtplcdbhklepkgaaDoor.PG
