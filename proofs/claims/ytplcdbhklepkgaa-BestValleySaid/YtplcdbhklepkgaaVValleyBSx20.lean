-- Made by gen.py, a program of this session's, over the kit's print.
import Derived.Test.YtplcdbhklepkgaaVValleyShort
import Derived.Test.YtplcdbhklepkgaaVValleyBSx0
import Derived.Test.YtplcdbhklepkgaaVValleyBSx2
import Derived.Test.YtplcdbhklepkgaaVValleyBSx8
import Derived.Test.YtplcdbhklepkgaaVValleyBSx9
import Derived.Test.YtplcdbhklepkgaaVValleyBSx17
import Derived.Test.YtplcdbhklepkgaaVValleyBSx18
import Derived.Test.YtplcdbhklepkgaaVValleyBSx19
namespace Go.Proofs.Ytplcdbhklepkgaa.BS
open Go.RowKit Go.Proofs.YtplcdbhklepkgaaW.PrintWords Go.Proofs.YtplcdbhklepkgaaW.PrintLast Go.Proofs.YtplcdbhklepkgaaW.PrintMore Go.Proofs.Ytplcdbhklepkgaa.GenWords
attribute [local go_sem] max2_int min2_int max_two min_two max_three min_three max_four min_four   -- for this text's walks alone
set_option linter.unusedVariables false
set_option linter.unusedSimpArgs false

/-! ### g1_: function 7 -/
mutual
def g1_.j0 : Nat → Int → Int → Bool → Int → List (S71) → Option (Bool)
  | 0, _, _, _, _, _ => none
  | k + 1, x1, x2, x30, x893000, x893001 => if x30 = true then (some false) else ((g5_.f k x893000 x893001 7).bind fun bt903 => (if (IntKind.u64.wrap (bt903.1)) = 0 then (none) else (if 0 ≤ bt903.1 then (if (bt903.1 : Int).toNat ≤ 11728124029610 then (g1_.l0 k (wrap64 (Int.tmod (IntKind.u64.wrap (x1)) (IntKind.u64.wrap (bt903.1)))) (List.replicate (bt903.1 : Int).toNat z52) (wrap64 (1 + (Go.bits .and .i64 x2 3))) 0 bt903.1 bt903.2) else (none)) else (none))))
def g1_.l0 : Nat → Int → List (S52) → Int → Int → Int → List (S71) → Option (Bool)
  | 0, _, _, _, _, _, _ => none
  | k + 1, x1, x10, x45, x46, x893000, x893001 => if x46 < x45 then ((best_Round.f k x893000 x893001 x1 x10).bind fun bt910 => (if bt910.2 = 0 then (if (bt910.1.length : Int) = x893000 then (g1_.l0 k x1 bt910.1 x45 (wrap64 (x46 + 1)) x893000 x893001) else (some false)) else (some false))) else (g1_.l1 k x1 x10 (x10.length : Int) 0 x893000 x893001)
def g1_.l1 : Nat → Int → List (S52) → Int → Int → Int → List (S71) → Option (Bool)
  | 0, _, _, _, _, _, _ => none
  | k + 1, x1, x66, x67, x68, x893000, x893001 => if x68 < x67 then (if 0 ≤ x68 then (if x68 < (x66.length : Int) then (g1_.l2 k x1 x68 false x66 x67 x68 ((rd_T52 x66 x68).f0) (((rd_T52 x66 x68).f0).length : Int) 0 x893000 x893001 ((rd_T52 x66 x68).f0)) else (none)) else (none)) else (some true)
def g1_.l2 : Nat → Int → Int → Bool → List (S52) → Int → Int → List Int → Int → Int → Int → List (S71) → List Int → Option (Bool)
  | 0, _, _, _, _, _, _, _, _, _, _, _, _ => none
  | k + 1, x1, x13, x15, x66, x67, x68, x74, x75, x76, x893000, x893001, x916000 => if x76 < x75 then (if 0 ≤ x76 then (if x76 < (x74.length : Int) then (if x76 = 0 then (if (rd x74 x76) = x13 then (if x76 = (wrap64 ((x916000.length : Int) - 1)) then (if (rd x74 x76) = x1 then (if x76 ≤ (x916000.length : Int) then ((g15_.f k (x916000.take (x76 : Int).toNat) (rd x74 x76)).bind fun t918 => (g1_.j4 k x1 x13 x15 x76 (rd x74 x76) x66 x67 x68 x74 x75 x76 t918 x893000 x893001 x916000)) else (none)) else (g1_.j4 k x1 x13 x15 x76 (rd x74 x76) x66 x67 x68 x74 x75 x76 true x893000 x893001 x916000)) else (if x76 ≤ (x916000.length : Int) then ((g15_.f k (x916000.take (x76 : Int).toNat) (rd x74 x76)).bind fun t920 => (g1_.j4 k x1 x13 x15 x76 (rd x74 x76) x66 x67 x68 x74 x75 x76 t920 x893000 x893001 x916000)) else (none))) else (g1_.j4 k x1 x13 x15 x76 (rd x74 x76) x66 x67 x68 x74 x75 x76 true x893000 x893001 x916000)) else (if x76 = (wrap64 ((x916000.length : Int) - 1)) then (if (rd x74 x76) = x1 then (if x76 ≤ (x916000.length : Int) then ((g15_.f k (x916000.take (x76 : Int).toNat) (rd x74 x76)).bind fun t922 => (g1_.j4 k x1 x13 x15 x76 (rd x74 x76) x66 x67 x68 x74 x75 x76 t922 x893000 x893001 x916000)) else (none)) else (g1_.j4 k x1 x13 x15 x76 (rd x74 x76) x66 x67 x68 x74 x75 x76 true x893000 x893001 x916000)) else (if x76 ≤ (x916000.length : Int) then ((g15_.f k (x916000.take (x76 : Int).toNat) (rd x74 x76)).bind fun t924 => (g1_.j4 k x1 x13 x15 x76 (rd x74 x76) x66 x67 x68 x74 x75 x76 t924 x893000 x893001 x916000)) else (none)))) else (none)) else (none)) else (g1_.l1 k x1 x66 x67 (wrap64 (x68 + 1)) x893000 x893001)
def g1_.j4 : Nat → Int → Int → Bool → Int → Int → List (S52) → Int → Int → List Int → Int → Int → Bool → Int → List (S71) → List Int → Option (Bool)
  | 0, _, _, _, _, _, _, _, _, _, _, _, _, _, _, _ => none
  | k + 1, x1, x13, x15, x16, x17, x66, x67, x68, x74, x75, x76, x108, x893000, x893001, x916000 => if x108 = true then (some false) else (if x16 = 0 then (g1_.l2 k x1 x13 x15 x66 x67 x68 x74 x75 (wrap64 (x76 + 1)) x893000 x893001 x916000) else (if 0 ≤ (wrap64 (x16 - 1)) then (if (wrap64 (x16 - 1)) < (x916000.length : Int) then ((g9_.f k x893000 x893001 (rd x916000 (wrap64 (x16 - 1))) x17).bind fun t926 => (if t926 = 0 then (some false) else (if x15 = true then (if t926 = 1 then (g1_.l2 k x1 x13 true x66 x67 x68 x74 x75 (wrap64 (x76 + 1)) x893000 x893001 x916000) else (some false)) else (g1_.l2 k x1 x13 (t926 != 3) x66 x67 x68 x74 x75 (wrap64 (x76 + 1)) x893000 x893001 x916000)))) else (none)) else (none)))
end
def g1_.f (k : Nat) (a0_0 : Int) (l0_1 : List (S71)) (a1 : Int) (a2 : Int) : Option (Bool) := (g16_.f k).bind fun bt893 => ((best_Settle.f k bt893.1 bt893.2 0 50).bind fun bt897 => ((g18_.f k).bind fun t902 => (if t902 = true then (g1_.j0 k a1 a2 (bt897.2.2 != 12) a0_0 l0_1) else (g1_.j0 k a1 a2 true a0_0 l0_1))))
theorem g1_.mono_l : ∀ k, (∀ y0 y1 y2 y3 y4, LeO (g1_.j0 k y0 y1 y2 y3 y4) (g1_.j0 (k + 1) y0 y1 y2 y3 y4)) ∧ (∀ y0 y1 y2 y3 y4 y5, LeO (g1_.l0 k y0 y1 y2 y3 y4 y5) (g1_.l0 (k + 1) y0 y1 y2 y3 y4 y5)) ∧ (∀ y0 y1 y2 y3 y4 y5, LeO (g1_.l1 k y0 y1 y2 y3 y4 y5) (g1_.l1 (k + 1) y0 y1 y2 y3 y4 y5)) ∧ (∀ y0 y1 y2 y3 y4 y5 y6 y7 y8 y9 y10 y11, LeO (g1_.l2 k y0 y1 y2 y3 y4 y5 y6 y7 y8 y9 y10 y11) (g1_.l2 (k + 1) y0 y1 y2 y3 y4 y5 y6 y7 y8 y9 y10 y11)) ∧ (∀ y0 y1 y2 y3 y4 y5 y6 y7 y8 y9 y10 y11 y12 y13 y14, LeO (g1_.j4 k y0 y1 y2 y3 y4 y5 y6 y7 y8 y9 y10 y11 y12 y13 y14) (g1_.j4 (k + 1) y0 y1 y2 y3 y4 y5 y6 y7 y8 y9 y10 y11 y12 y13 y14))
  | 0 => ⟨fun _ _ _ _ _ r h => by simp [g1_.j0] at h, fun _ _ _ _ _ _ r h => by simp [g1_.l0] at h, fun _ _ _ _ _ _ r h => by simp [g1_.l1] at h, fun _ _ _ _ _ _ _ _ _ _ _ _ r h => by simp [g1_.l2] at h, fun _ _ _ _ _ _ _ _ _ _ _ _ _ _ _ r h => by simp [g1_.j4] at h⟩
  | k + 1 => by
    obtain ⟨ih0, ih1, ih2, ih3, ih4⟩ := g1_.mono_l k
    refine ⟨?_, ?_, ?_, ?_, ?_⟩
    · intro y0 y1 y2 y3 y4
      unfold g1_.j0
      repeat' (with_reducible first | exact ih0 _ _ _ _ _ | exact ih1 _ _ _ _ _ _ | exact ih2 _ _ _ _ _ _ | exact ih3 _ _ _ _ _ _ _ _ _ _ _ _ | exact ih4 _ _ _ _ _ _ _ _ _ _ _ _ _ _ _ | exact best_Round.mono _ _ _ _ _ | exact best_Settle.mono _ _ _ _ _ | exact g18_.mono _ | exact g16_.mono _ | exact g5_.mono _ _ _ _ | exact g9_.mono _ _ _ _ _ | exact g15_.mono _ _ _ | exact LeO.refl _ | exact LeO.none _ | refine LeO.ite ?_ ?_ | refine LeO.bind ?_ (fun _ => ?_))
    · intro y0 y1 y2 y3 y4 y5
      unfold g1_.l0
      repeat' (with_reducible first | exact ih0 _ _ _ _ _ | exact ih1 _ _ _ _ _ _ | exact ih2 _ _ _ _ _ _ | exact ih3 _ _ _ _ _ _ _ _ _ _ _ _ | exact ih4 _ _ _ _ _ _ _ _ _ _ _ _ _ _ _ | exact best_Round.mono _ _ _ _ _ | exact best_Settle.mono _ _ _ _ _ | exact g18_.mono _ | exact g16_.mono _ | exact g5_.mono _ _ _ _ | exact g9_.mono _ _ _ _ _ | exact g15_.mono _ _ _ | exact LeO.refl _ | exact LeO.none _ | refine LeO.ite ?_ ?_ | refine LeO.bind ?_ (fun _ => ?_))
    · intro y0 y1 y2 y3 y4 y5
      unfold g1_.l1
      repeat' (with_reducible first | exact ih0 _ _ _ _ _ | exact ih1 _ _ _ _ _ _ | exact ih2 _ _ _ _ _ _ | exact ih3 _ _ _ _ _ _ _ _ _ _ _ _ | exact ih4 _ _ _ _ _ _ _ _ _ _ _ _ _ _ _ | exact best_Round.mono _ _ _ _ _ | exact best_Settle.mono _ _ _ _ _ | exact g18_.mono _ | exact g16_.mono _ | exact g5_.mono _ _ _ _ | exact g9_.mono _ _ _ _ _ | exact g15_.mono _ _ _ | exact LeO.refl _ | exact LeO.none _ | refine LeO.ite ?_ ?_ | refine LeO.bind ?_ (fun _ => ?_))
    · intro y0 y1 y2 y3 y4 y5 y6 y7 y8 y9 y10 y11
      unfold g1_.l2
      repeat' (with_reducible first | exact ih0 _ _ _ _ _ | exact ih1 _ _ _ _ _ _ | exact ih2 _ _ _ _ _ _ | exact ih3 _ _ _ _ _ _ _ _ _ _ _ _ | exact ih4 _ _ _ _ _ _ _ _ _ _ _ _ _ _ _ | exact best_Round.mono _ _ _ _ _ | exact best_Settle.mono _ _ _ _ _ | exact g18_.mono _ | exact g16_.mono _ | exact g5_.mono _ _ _ _ | exact g9_.mono _ _ _ _ _ | exact g15_.mono _ _ _ | exact LeO.refl _ | exact LeO.none _ | refine LeO.ite ?_ ?_ | refine LeO.bind ?_ (fun _ => ?_))
    · intro y0 y1 y2 y3 y4 y5 y6 y7 y8 y9 y10 y11 y12 y13 y14
      unfold g1_.j4
      repeat' (with_reducible first | exact ih0 _ _ _ _ _ | exact ih1 _ _ _ _ _ _ | exact ih2 _ _ _ _ _ _ | exact ih3 _ _ _ _ _ _ _ _ _ _ _ _ | exact ih4 _ _ _ _ _ _ _ _ _ _ _ _ _ _ _ | exact best_Round.mono _ _ _ _ _ | exact best_Settle.mono _ _ _ _ _ | exact g18_.mono _ | exact g16_.mono _ | exact g5_.mono _ _ _ _ | exact g9_.mono _ _ _ _ _ | exact g15_.mono _ _ _ | exact LeO.refl _ | exact LeO.none _ | refine LeO.ite ?_ ?_ | refine LeO.bind ?_ (fun _ => ?_))
theorem g1_.mono : ∀ a0 a1 a2 a3 k, LeO (g1_.f k a0 a1 a2 a3) (g1_.f (k + 1) a0 a1 a2 a3) := by
  intro a0 a1 a2 a3 k
  obtain ⟨ih0, ih1, ih2, ih3, ih4⟩ := g1_.mono_l k
  unfold g1_.f
  repeat' (with_reducible first | exact ih0 _ _ _ _ _ | exact ih1 _ _ _ _ _ _ | exact ih2 _ _ _ _ _ _ | exact ih3 _ _ _ _ _ _ _ _ _ _ _ _ | exact ih4 _ _ _ _ _ _ _ _ _ _ _ _ _ _ _ | exact best_Round.mono _ _ _ _ _ | exact best_Settle.mono _ _ _ _ _ | exact g18_.mono _ | exact g16_.mono _ | exact g5_.mono _ _ _ _ | exact g9_.mono _ _ _ _ _ | exact g15_.mono _ _ _ | exact LeO.refl _ | exact LeO.none _ | refine LeO.ite ?_ ?_ | refine LeO.bind ?_ (fun _ => ?_))
def g1_.T24 : Bool × List (List Nat × List Nat) := (true, [([], []), ([], []), ([1], [1]), ([], []), ([3], [3]), ([2, 4], [2, 4]), ([5], [5]), ([], []), ([0, 6, 7], [0, 6, 7]), ([8, 8, 0, 1, 2, 3, 4, 5, 6, 7, 8], [8])])
def g1_.B24 : List Nat := [0, 0, 2, 0, 8, 30, 62, 0, 255, 511]
theorem g1_.tab24 : rtab .any (opsOf Try.f7 24) = g1_.T24 := by kernel_rfl
theorem g1_.bits24 : waitsOk g1_.T24.2 g1_.B24 = true := by kernel_rfl
set_option maxHeartbeats 8000000 in
set_option maxRecDepth 100000 in
theorem g1_.calls (k : Nat) (a0_0 : Int) (A0_1 : Option Addr) (c0_1 : Nat) (l0_1 : List (S71)) (a1 : Int) (a2 : Int) (r : Bool) (w : World) (hr0_1 : Kd.C k71 w A0_1 l0_1.length l0_1) (hc0_1 : l0_1.length ≤ c0_1) (h : g1_.f k a0_0 l0_1 a1 a2 = some r) :
 Calls Try.prog 7 #[.agg #[.int .i64 a0_0, .slice A0_1 l0_1.length c0_1], .int .i64 a1, .int .i64 a2] w fun e w' => e = .returned (.bool r) ∧ Below w.heap.size w w' := by
 have hu42 := Try.underlying42
 have hu3 := Try.underlying3
 have hu52 := Try.underlying52
 have hu33 := Try.underlying33
 have HR0_1 := Aside0.mk hr0_1
 have HC0_1 := Aside0.mk hc0_1
 clear hr0_1 hc0_1
 have HB := Aside0.mk (Below.refl w.heap.size w)
 have H : ((g16_.f k).bind fun bt893 => ((best_Settle.f k bt893.1 bt893.2 0 50).bind fun bt897 => ((g18_.f k).bind fun t902 => (if t902 = true then (g1_.j0 k a1 a2 (bt897.2.2 != 12) a0_0 l0_1) else (g1_.j0 k a1 a2 true a0_0 l0_1))))) = some r := h
 clear h
 replace H := Option.bind_eq_some_iff.mp H
 obtain ⟨⟨t893, t894⟩, A40, H⟩ := H
 replace H : ((best_Settle.f k t893 t894 0 50).bind fun bt897 => ((g18_.f k).bind fun t902 => (if t902 = true then (g1_.j0 k a1 a2 (bt897.2.2 != 12) a0_0 l0_1) else (g1_.j0 k a1 a2 true a0_0 l0_1)))) = some r := H
 have A4 := Aside0.mk A40
 clear A40
 replace H := Option.bind_eq_some_iff.mp H
 obtain ⟨⟨t897, t900, t901⟩, A50, H⟩ := H
 replace H : ((g18_.f k).bind fun t902 => (if t902 = true then (g1_.j0 k a1 a2 (t901 != 12) a0_0 l0_1) else (g1_.j0 k a1 a2 true a0_0 l0_1))) = some r := H
 have A5 := Aside0.mk A50
 clear A50
 have HC6 := Aside0.mk H
 clear H
 go_enter Try.func7, Try.ntmps7
 go_upto_region 2 with (first | ((with_reducible refine gate_dst (N := 3) rfl ?_); (try (refine gate_guard (by rfl) ?_; dsimp only)); refine bx 3 (#[.int .i64 a0_0, .slice A0_1 l0_1.length c0_1]) 42 ?_; intro gb892 hg w7 hbox hb; have n0_ := Aside0.mk (below_step zB hb); have n1_ := Aside0.mk (hbox); have n2_ := Aside0.mk ((zG hg : w.heap.size ≤ gb892)); have n3_ := Aside0.mk ((zG hg : w.heap.size ≤ gb892)); clear HB; have HB := n0_; have BK892 := n1_; have GW892 := n2_; have GE892 := n3_; clear n0_ n1_ n2_ n3_; clear hb hbox hg) | ((with_reducible refine gate_callee (f := 15) rfl ?_); refine goesL_ (some 20) rfl rfl Try.func15 (by kernel_rfl) rfl #[] rfl zM ?_; (with_reducible refine (g16_.calls k  t893 t894 _ A4.out).mono ?_); rintro e w8 ⟨v895, rfl, ho0, hb⟩; refine ⟨_, rfl, ?_⟩; have n0_ := Aside0.mk (Kd.R_lower ho0 (below_size zB)); have n1_ := Aside0.mk (blk_below (g := gb892) (o := .cells #[.int .i64 a0_0, .slice A0_1 l0_1.length c0_1] 42 (0, 0)) (zK BK892) hb); have n2_ := Aside0.mk (below_step zB hb); clear BK892; clear HB; have HO896 := n0_; have BK892 := n1_; have HB := n2_; clear n0_ n1_ n2_; (try clear hb); (try clear hb2); (try clear hk); (try clear hi); (try clear ho0); obtain ⟨Ao9, co9, eo9⟩ := Kd.R_slice HO896.out; subst eo9) | ((with_reducible refine gate_callee (f := 14) rfl ?_); refine goesL_ (some 21) rfl rfl Try.func14 (by kernel_rfl) rfl #[.agg #[.int .i64 t893, .slice Ao9 t894.length co9], .int .i64 0, .int .i64 50] rfl zM ?_; (with_reducible refine (best_Settle.calls k t893 _ _ t894 0 50 t897 t900 t901 _ ?side1 ?side2 A5.out).mono ?_); (case side1 => repeat (first | exact (Kd.R_reads' HO896.out).2.2 | (with_reducible refine Kd.C_alloc ?_ _) | (with_reducible refine Kd.C_drewN ?_ _) | (with_reducible refine Kd.C_drew ?_))); (case side2 => exact (Kd.R_reads' HO896.out).2.1); rintro e w10 ⟨v898, rfl, ho0, hb⟩; refine ⟨_, rfl, ?_⟩; have n0_ := Aside0.mk (Kd.R_below (zO HO896) hb); have n1_ := Aside0.mk (Kd.S_lower ho0 (below_size zB)); have n2_ := Aside0.mk (blk_below (g := gb892) (o := .cells #[.int .i64 a0_0, .slice A0_1 l0_1.length c0_1] 42 (0, 0)) (zK BK892) hb); have n3_ := Aside0.mk (below_step zB hb); clear HO896; clear BK892; clear HB; have HO896 := n0_; have HO899 := n1_; have BK892 := n2_; have HB := n3_; clear n0_ n1_ n2_ n3_; (try clear hb); (try clear hb2); (try clear hk); (try clear hi); (try clear ho0)))
 (try simp only [Act.put, List.setIfInBounds_toArray, List.set_cons_zero, List.set_cons_succ])
 go_cut [30] (fun v30 wc => ∃ (kq : Nat) (x30_5 : Bool), v30 = .bool x30_5 ∧ Aside0 (g1_.j0 kq a1 a2 x30_5 a0_0 l0_1 = some r) ∧ Aside0 (kq ≤ k) ∧ Aside0 (wc.heap[gb892]? = some (.cells #[.int .i64 a0_0, (.slice A0_1 l0_1.length c0_1)] 42 (0, 0))) ∧ Aside0 (Below w.heap.size w wc))
 case first =>
  have H := HC6.out
  clear HC6
  replace H := Option.bind_eq_some_iff.mp H
  obtain ⟨t902, A110, H⟩ := H
  replace H : (if t902 = true then (g1_.j0 k a1 a2 (t901 != 12) a0_0 l0_1) else (g1_.j0 k a1 a2 true a0_0 l0_1)) = some r := H
  have A11 := Aside0.mk A110
  clear A110
  by_cases c12 : t902 = true
  ·
   subst c12
   have H1 : (g1_.j0 k a1 a2 (t901 != 12) a0_0 l0_1) = some r := by rw [if_pos rfl] at H; exact H
   clear H
   have H := H1
   clear H1
   have H' := Aside0.mk H
   clear H
   go_wp2_with (first | ((with_reducible refine gate_callee (f := 16) rfl ?_); refine goesL_ (some 25) rfl rfl Try.func16 (by kernel_rfl) rfl #[] rfl zM ?_; (with_reducible refine (g18_.calls k  true _ A11.out).mono ?_); rintro e w13 ⟨rfl, hb⟩; refine ⟨_, rfl, ?_⟩; have n0_ := Aside0.mk (Kd.R_below (zO HO896) hb); have n1_ := Aside0.mk (Kd.S_below (zS HO899) hb); have n2_ := Aside0.mk (blk_below (g := gb892) (o := .cells #[.int .i64 a0_0, .slice A0_1 l0_1.length c0_1] 42 (0, 0)) (zK BK892) hb); have n3_ := Aside0.mk (below_step zB hb); clear HO896; clear HO899; clear BK892; clear HB; have HO896 := n0_; have HO899 := n1_; have BK892 := n2_; have HB := n3_; clear n0_ n1_ n2_ n3_; (try clear hb); (try clear hb2); (try clear hk); (try clear hi)))
   go_meet
   case rel => exact ⟨_, ((t901 != 12)), zR, H', ⟨by first | omega | exact Nat.le_refl _⟩, ⟨zK BK892⟩, ⟨zB⟩⟩
  replace c12 := Bool.eq_false_iff.mpr c12
  subst c12
  have H1 : (g1_.j0 k a1 a2 true a0_0 l0_1) = some r := by rw [if_neg (show ¬ (false = true) by decide)] at H; exact H
  clear H
  have H := H1
  clear H1
  have H' := Aside0.mk H
  clear H
  go_wp2_with (first | ((with_reducible refine gate_callee (f := 16) rfl ?_); refine goesL_ (some 25) rfl rfl Try.func16 (by kernel_rfl) rfl #[] rfl zM ?_; (with_reducible refine (g18_.calls k  false _ A11.out).mono ?_); rintro e w14 ⟨rfl, hb⟩; refine ⟨_, rfl, ?_⟩; have n0_ := Aside0.mk (Kd.R_below (zO HO896) hb); have n1_ := Aside0.mk (Kd.S_below (zS HO899) hb); have n2_ := Aside0.mk (blk_below (g := gb892) (o := .cells #[.int .i64 a0_0, .slice A0_1 l0_1.length c0_1] 42 (0, 0)) (zK BK892) hb); have n3_ := Aside0.mk (below_step zB hb); clear HO896; clear HO899; clear BK892; clear HB; have HO896 := n0_; have HO899 := n1_; have BK892 := n2_; have HB := n3_; clear n0_ n1_ n2_ n3_; (try clear hb); (try clear hb2); (try clear hk); (try clear hi)))
  go_meet
  case rel => exact ⟨_, (true), zR, H', ⟨by first | omega | exact Nat.le_refl _⟩, ⟨zK BK892⟩, ⟨zB⟩⟩
 clear HC6
 try clear c1
 try clear p2
 try clear c7
 try clear c12
 try clear c14
 obtain ⟨kq, x30_5, rfl, HA, HJ5, BK892, HB⟩ := hcut
 rcases kq with _ | kj5
 · exact absurd HA.out (by simp [g1_.j0])
 have H := HA.out
 clear HA
 simp only [g1_.j0] at H
 by_cases c15 : x30_5 = true
 ·
  subst c15
  have H1 : (some false) = some r := by rw [if_pos rfl] at H; exact H
  clear H
  have H := H1
  clear H1
  obtain rfl := Option.some.inj H
  go_wp2
  go_ret
  exact ⟨zE, zB⟩
 replace c15 := Bool.eq_false_iff.mpr c15
 subst c15
 have H1 : ((g5_.f kj5 a0_0 l0_1 7).bind fun bt903 => (if (IntKind.u64.wrap (bt903.1)) = 0 then (none) else (if 0 ≤ bt903.1 then (if (bt903.1 : Int).toNat ≤ 11728124029610 then (g1_.l0 kj5 (wrap64 (Int.tmod (IntKind.u64.wrap (a1)) (IntKind.u64.wrap (bt903.1)))) (List.replicate (bt903.1 : Int).toNat z52) (wrap64 (1 + (Go.bits .and .i64 a2 3))) 0 bt903.1 bt903.2) else (none)) else (none)))) = some r := by rw [if_neg (show ¬ (false = true) by decide)] at H; exact H
 clear H
 have H := H1
 clear H1
 replace H := Option.bind_eq_some_iff.mp H
 obtain ⟨⟨t903, t904⟩, A160, H⟩ := H
 replace H : (if (IntKind.u64.wrap (t903)) = 0 then (none) else (if 0 ≤ t903 then (if (t903 : Int).toNat ≤ 11728124029610 then (g1_.l0 kj5 (wrap64 (Int.tmod (IntKind.u64.wrap (a1)) (IntKind.u64.wrap (t903)))) (List.replicate (t903 : Int).toNat z52) (wrap64 (1 + (Go.bits .and .i64 a2 3))) 0 t903 t904) else (none)) else (none))) = some r := H
 have A16 := Aside0.mk A160
 clear A160
 by_cases c17 : (IntKind.u64.wrap (t903)) = 0
 · rw [if_pos c17] at H; exact absurd H (by simp)
 rw [if_neg c17] at H
 have c17b0 : ((IntKind.u64.wrap (t903)) == 0) = false := beq_eq_false_iff_ne.mpr c17
 have c17b1 : ((IntKind.u64.wrap (t903)) != 0) = true := bne_iff_ne.mpr c17
 by_cases c18 : 0 ≤ t903
 rotate_left
 · rw [if_neg c18] at H; exact absurd H (by simp)
 rw [if_pos c18] at H
 have c18b0 := eq_true c18
 have c18b1 : decide (0 ≤ t903) = true := decide_eq_true c18
 clear c18
 by_cases c19 : (t903 : Int).toNat ≤ 11728124029610
 rotate_left
 · rw [if_neg c19] at H; exact absurd H (by simp)
 rw [if_pos c19] at H
 have c19b0 := eq_true c19
 have c19b1 : decide ((t903 : Int).toNat ≤ 11728124029610) = true := decide_eq_true c19
 clear c19
 obtain ⟨y907, hy907⟩ : ∃ y_ : List (S52), y_ = (List.replicate (t903 : Int).toNat z52) := ⟨_, rfl⟩
 replace H : (g1_.l0 kj5 (wrap64 (Int.tmod (IntKind.u64.wrap (a1)) (IntKind.u64.wrap (t903)))) y907 (wrap64 (1 + (Go.bits .and .i64 a2 3))) 0 t903 t904) = some r := by first | (rw [hy907]; with_reducible exact H) | (have H2_ := (Option.bind_some _ _).symm.trans H; rw [hy907]; with_reducible exact H2_) | (have H2_ := (Option.bind_some _ _).symm.trans H; with_reducible exact H2_) | with_reducible exact H | (rw [hy907]; exact H) | exact H
 have Ny907 := Aside0.mk hy907
 clear hy907
 have H' := Aside0.mk H
 clear H
 have hcz20_0 : wc.cell? ⟨gb892, 0, none⟩ = some (.int .i64 a0_0) := zT BK892 0
 have hcz20_1 : wc.cell? ⟨gb892, 1, none⟩ = some (.slice A0_1 l0_1.length c0_1) := zT BK892 1
 have hfz20_0 := blk_frozen BK892.out 0
 have hfz20_1 := blk_frozen BK892.out 1
 go_wp2_with (first | ((with_reducible refine gate_callee (f := 17) rfl ?_); refine goesL_ (some 32) rfl rfl Try.func17 (by kernel_rfl) rfl #[.agg #[.int .i64 a0_0, .slice A0_1 l0_1.length c0_1], .int .i64 7] rfl zM ?_; (with_reducible refine (g5_.calls kj5 a0_0 _ _ l0_1 7 t903 t904 _ ?side1 ?side2 A16.out).mono ?_); (case side1 => exact zC HR0_1 HB); (case side2 => exact HC0_1.out); rintro e w21 ⟨v905, rfl, ho0, hb⟩; refine ⟨_, rfl, ?_⟩; have n0_ := Aside0.mk (Kd.R_lower ho0 (below_size zB)); have n1_ := Aside0.mk (blk_below (g := gb892) (o := .cells #[.int .i64 a0_0, .slice A0_1 l0_1.length c0_1] 42 (0, 0)) (zK BK892) hb); have n2_ := Aside0.mk (below_step zB hb); clear BK892; clear HB; have HO906 := n0_; have BK892 := n1_; have HB := n2_; clear n0_ n1_ n2_; (try clear hb); (try clear hb2); (try clear hk); (try clear hi); (try clear ho0); have hcz22_0 : w21.cell? ⟨gb892, 0, none⟩ = some (.int .i64 a0_0) := zT BK892 0; have hcz22_1 : w21.cell? ⟨gb892, 1, none⟩ = some (.slice A0_1 l0_1.length c0_1) := zT BK892 1; have hfz22_0 := blk_frozen BK892.out 0; have hfz22_1 := blk_frozen BK892.out 1; obtain ⟨Ao23, co23, eo23⟩ := Kd.R_slice HO906.out; subst eo23) | ((with_reducible refine gate_dst (N := 42) rfl ?_); (try (refine gate_guard (by rfl) ?_; dsimp only)); refine Kd.S_make k52 _ 52 rfl (N := 42) rfl 43 _ _ rfl t903 rfl rfl Try.underlying43 (.agg #[(.slice none 0 0)]) 24 info52 rfl (by decide) (by omega) z52 (ok := fun _ => True) (okp := fun _ => True) (k52_mkM _ _ _ z52 (Kd.R_nil _ _ _ _ _)) (fun _ hk => hk) trivial (od) (Nat.le_trans (Nat.mul_le_mul_right _ (od : t903.toNat ≤ 11728124029610)) (by omega)) (Below.refl _ _) (Nat.le_refl _) ?_; intro v908 w24 ho25 hb hg_ hnew_; clear hg_ hnew_; (first | rw [← Ny907.out] at ho25 | (simp only [Int.reduceToNat] at ho25; rw [← Ny907.out] at ho25)); have n0_ := Aside0.mk (Kd.R_below (by (with_reducible repeat (first | apply Kd.R_alloc | apply Kd.R_drewN | apply Kd.R_drew)); exact (Kd.R_mono (Kd.R_far (p := ⟨gb892, 1, none⟩) (Kd.R_far (p := ⟨gb892, 0, none⟩) (Kd.R_types HO906.out BK892.out (by decide)) (fun _ hk => hk.2) (.int .i64 t903)) (fun _ hk => hk.2) (.slice Ao23 t904.length co23)) (fun _ h_ => h_.1))) hb); have n1_ := Aside0.mk (Kd.S_lower ho25 (below_size zB)); have n2_ := Aside0.mk (blk_below (g := gb892) (o := .cells #[.int .i64 t903, .slice Ao23 t904.length co23] 42 (0, 0)) (by (with_reducible repeat (first | refine blk_drewN ?_ _ | refine blk_drew ?_ | refine blk_alloc ?_ _)); refine blk_put (cs := #[.int .i64 t903, .slice A0_1 l0_1.length c0_1]) ?_ 1 _ rfl; (with_reducible repeat (first | refine blk_drewN ?_ _ | refine blk_drew ?_ | refine blk_alloc ?_ _)); refine blk_put (cs := #[.int .i64 a0_0, .slice A0_1 l0_1.length c0_1]) ?_ 0 _ rfl; (with_reducible repeat (first | refine blk_drewN ?_ _ | refine blk_drew ?_ | refine blk_alloc ?_ _)); exact BK892.out) hb); have n3_ := Aside0.mk (below_step zB hb); clear HO906; clear BK892; clear HB; have HO906 := n0_; have HO909 := n1_; have BK892 := n2_; have HB := n3_; clear n0_ n1_ n2_ n3_; clear hb ho25))
 go_loopg [10, 46] kj5 (fun kq v10 v46 w' => ∃ (x10_2 : List (S52)) (x46_2 : Int), v46 = .int .i64 x46_2 ∧ Aside0 (g1_.l0 kq (wrap64 (Int.tmod (IntKind.u64.wrap (a1)) (IntKind.u64.wrap (t903)))) x10_2 (wrap64 (1 + (Go.bits .and .i64 a2 3))) x46_2 t903 t904 = some r) ∧ Aside0 (kq ≤ kj5) ∧ Aside0 (Kd.S k52 52 w' w.heap.size (fun _ => True) v10 x10_2) ∧ Aside0 (Kd.R k71 71 w' w.heap.size (fun _ => True) (.slice Ao23 t904.length co23) t904) ∧ Aside0 (w'.heap[gb892]? = some (.cells #[.int .i64 t903, (.slice Ao23 t904.length co23)] 42 (0, 0))) ∧ Aside0 (Below w.heap.size w w'))
 case atStart => exact ⟨(y907), (0), zR, H', ⟨Nat.le_refl _⟩, ⟨zS HO909⟩, ⟨zO HO906⟩, ⟨zK BK892⟩, ⟨zB⟩⟩
 clear H'
 try clear c1
 try clear p2
 try clear p6
 try clear c7
 try clear c12
 try clear c14
 try clear c15
 try clear c16
 try clear c17
 try clear c17b0
 try clear c17b1
 try clear c18
 try clear c18b0
 try clear c18b1
 try clear c19
 try clear c19b0
 try clear c19b1
 try clear hcz20_0
 try clear hcz20_1
 try clear hcz22_0
 try clear hcz22_1
 try clear hfz20_0
 try clear hfz20_1
 try clear hfz22_0
 try clear hfz22_1
 try clear p2
 obtain ⟨x10_2, x46_2, rfl, HA, HK2, HO_10, HO_893001, BK892, HB⟩ := hrel
 rcases gk with _ | k2
 · exact absurd HA.out (by simp [g1_.l0])
 have H := HA.out
 clear HA
 simp only [g1_.l0] at H
 by_cases c26 : x46_2 < (wrap64 (1 + (Go.bits .and .i64 a2 3)))
 ·
  rw [if_pos c26] at H
  have c26b0 : decide (x46_2 < (wrap64 (1 + (Go.bits .and .i64 a2 3)))) = true := decide_eq_true c26
  clear c26
  replace H := Option.bind_eq_some_iff.mp H
  obtain ⟨⟨t910, t913⟩, A270, H⟩ := H
  replace H : (if t913 = 0 then (if (t910.length : Int) = t903 then (g1_.l0 k2 (wrap64 (Int.tmod (IntKind.u64.wrap (a1)) (IntKind.u64.wrap (t903)))) t910 (wrap64 (1 + (Go.bits .and .i64 a2 3))) (wrap64 (x46_2 + 1)) t903 t904) else (some false)) else (some false)) = some r := H
  have A27 := Aside0.mk A270
  clear A270
  by_cases c28 : t913 = 0
  rotate_left
  ·
   rw [if_neg c28] at H
   have c28b0 : (t913 == 0) = false := beq_eq_false_iff_ne.mpr c28
   have c28b1 : (t913 != 0) = true := bne_iff_ne.mpr c28
   obtain rfl := Option.some.inj H
   have hcz40_0 : wr.cell? ⟨gb892, 0, none⟩ = some (.int .i64 t903) := zT BK892 0
   have hcz40_1 : wr.cell? ⟨gb892, 1, none⟩ = some (.slice Ao23 t904.length co23) := zT BK892 1
   have hfz40_0 := blk_frozen BK892.out 0
   have hfz40_1 := blk_frozen BK892.out 1
   obtain ⟨Ao41, co41, eo41⟩ := Kd.S_slice HO_10.out
   subst eo41
   go_wp2_with (first | ((with_reducible refine gate_callee (f := 18) rfl ?_); refine goesL_ (some 52) rfl rfl Try.func18 (by kernel_rfl) rfl #[.agg #[.int .i64 t903, .slice Ao23 t904.length co23], .int .i64 (wrap64 (Int.tmod (IntKind.u64.wrap (a1)) (IntKind.u64.wrap (t903)))), .slice Ao41 x10_2.length co41] rfl zM ?_; (with_reducible refine (best_Round.calls k2 t903 _ _ t904 (wrap64 (Int.tmod (IntKind.u64.wrap (a1)) (IntKind.u64.wrap (t903)))) _ _ x10_2 t910 t913 _ ?side1 ?side2 ?side3 ?side4 A27.out).mono ?_); (case side1 => repeat (first | exact (Kd.R_reads' HO_893001.out).2.2 | (with_reducible refine Kd.C_alloc ?_ _) | (with_reducible refine Kd.C_drewN ?_ _) | (with_reducible refine Kd.C_drew ?_))); (case side2 => exact (Kd.R_reads' HO_893001.out).2.1); (case side3 => repeat (first | exact (Kd.S_reads' HO_10.out).2.2 | (with_reducible refine Kd.C_alloc ?_ _) | (with_reducible refine Kd.C_drewN ?_ _) | (with_reducible refine Kd.C_drew ?_))); (case side4 => exact (Kd.S_reads' HO_10.out).2.1); rintro e w42 ⟨v911, rfl, ho0, hb⟩; refine ⟨_, rfl, ?_⟩; have n0_ := Aside0.mk (Kd.S_elder' (zS HO_10) (Kd.S_base ho0) hb); have n1_ := Aside0.mk (Kd.R_below (zO HO_893001) hb); have n2_ := Aside0.mk (Kd.S_lower (Kd.S_new' ho0 (Kd.S_lt (zS HO_10))) (below_size zB)); have n3_ := Aside0.mk (blk_below (g := gb892) (o := .cells #[.int .i64 t903, .slice Ao23 t904.length co23] 42 (0, 0)) (zK BK892) hb); have n4_ := Aside0.mk (below_step zB hb); clear HO_10; clear HO_893001; clear BK892; clear HB; have HO_10 := n0_; have HO_893001 := n1_; have HO912 := n2_; have BK892 := n3_; have HB := n4_; clear n0_ n1_ n2_ n3_ n4_; (try clear hb); (try clear hb2); (try clear hk); (try clear hi); (try clear ho0)))
   go_ret
   exact ⟨zE, zB⟩
  rw [if_pos c28] at H
  have c28b0 : (t913 == 0) = true := beq_iff_eq.mpr c28
  have c28b1 : (t913 != 0) = false := bne_eq_false_iff_eq.mpr c28
  clear c28
  by_cases c29 : (t910.length : Int) = t903
  rotate_left
  ·
   rw [if_neg c29] at H
   have c29b0 : ((t910.length : Int) == t903) = false := beq_eq_false_iff_ne.mpr c29
   have c29b1 : ((t910.length : Int) != t903) = true := bne_iff_ne.mpr c29
   obtain rfl := Option.some.inj H
   have hcz35_0 : wr.cell? ⟨gb892, 0, none⟩ = some (.int .i64 t903) := zT BK892 0
   have hcz35_1 : wr.cell? ⟨gb892, 1, none⟩ = some (.slice Ao23 t904.length co23) := zT BK892 1
   have hfz35_0 := blk_frozen BK892.out 0
   have hfz35_1 := blk_frozen BK892.out 1
   obtain ⟨Ao36, co36, eo36⟩ := Kd.S_slice HO_10.out
   subst eo36
   go_wp2_with (first | ((with_reducible refine gate_callee (f := 18) rfl ?_); refine goesL_ (some 52) rfl rfl Try.func18 (by kernel_rfl) rfl #[.agg #[.int .i64 t903, .slice Ao23 t904.length co23], .int .i64 (wrap64 (Int.tmod (IntKind.u64.wrap (a1)) (IntKind.u64.wrap (t903)))), .slice Ao36 x10_2.length co36] rfl zM ?_; (with_reducible refine (best_Round.calls k2 t903 _ _ t904 (wrap64 (Int.tmod (IntKind.u64.wrap (a1)) (IntKind.u64.wrap (t903)))) _ _ x10_2 t910 t913 _ ?side1 ?side2 ?side3 ?side4 A27.out).mono ?_); (case side1 => repeat (first | exact (Kd.R_reads' HO_893001.out).2.2 | (with_reducible refine Kd.C_alloc ?_ _) | (with_reducible refine Kd.C_drewN ?_ _) | (with_reducible refine Kd.C_drew ?_))); (case side2 => exact (Kd.R_reads' HO_893001.out).2.1); (case side3 => repeat (first | exact (Kd.S_reads' HO_10.out).2.2 | (with_reducible refine Kd.C_alloc ?_ _) | (with_reducible refine Kd.C_drewN ?_ _) | (with_reducible refine Kd.C_drew ?_))); (case side4 => exact (Kd.S_reads' HO_10.out).2.1); rintro e w37 ⟨v911, rfl, ho0, hb⟩; refine ⟨_, rfl, ?_⟩; have n0_ := Aside0.mk (Kd.S_elder' (zS HO_10) (Kd.S_base ho0) hb); have n1_ := Aside0.mk (Kd.R_below (zO HO_893001) hb); have n2_ := Aside0.mk (Kd.S_lower (Kd.S_new' ho0 (Kd.S_lt (zS HO_10))) (below_size zB)); have n3_ := Aside0.mk (blk_below (g := gb892) (o := .cells #[.int .i64 t903, .slice Ao23 t904.length co23] 42 (0, 0)) (zK BK892) hb); have n4_ := Aside0.mk (below_step zB hb); clear HO_10; clear HO_893001; clear BK892; clear HB; have HO_10 := n0_; have HO_893001 := n1_; have HO912 := n2_; have BK892 := n3_; have HB := n4_; clear n0_ n1_ n2_ n3_ n4_; (try clear hb); (try clear hb2); (try clear hk); (try clear hi); (try clear ho0); obtain ⟨Ao38, co38, eo38⟩ := Kd.S_slice HO912.out; subst eo38; have hcz39_0 : w37.cell? ⟨gb892, 0, none⟩ = some (.int .i64 t903) := zT BK892 0; have hcz39_1 : w37.cell? ⟨gb892, 1, none⟩ = some (.slice Ao23 t904.length co23) := zT BK892 1; have hfz39_0 := blk_frozen BK892.out 0; have hfz39_1 := blk_frozen BK892.out 1))
   go_ret
   exact ⟨zE, zB⟩
  rw [if_pos c29] at H
  have c29b0 : ((t910.length : Int) == t903) = true := beq_iff_eq.mpr c29
  have c29b1 : ((t910.length : Int) != t903) = false := bne_eq_false_iff_eq.mpr c29
  clear c29
  have H' := Aside0.mk H
  clear H
  have hcz30_0 : wr.cell? ⟨gb892, 0, none⟩ = some (.int .i64 t903) := zT BK892 0
  have hcz30_1 : wr.cell? ⟨gb892, 1, none⟩ = some (.slice Ao23 t904.length co23) := zT BK892 1
  have hfz30_0 := blk_frozen BK892.out 0
  have hfz30_1 := blk_frozen BK892.out 1
  obtain ⟨Ao31, co31, eo31⟩ := Kd.S_slice HO_10.out
  subst eo31
  go_wp2_with (first | ((with_reducible refine gate_callee (f := 18) rfl ?_); refine goesL_ (some 52) rfl rfl Try.func18 (by kernel_rfl) rfl #[.agg #[.int .i64 t903, .slice Ao23 t904.length co23], .int .i64 (wrap64 (Int.tmod (IntKind.u64.wrap (a1)) (IntKind.u64.wrap (t903)))), .slice Ao31 x10_2.length co31] rfl zM ?_; (with_reducible refine (best_Round.calls k2 t903 _ _ t904 (wrap64 (Int.tmod (IntKind.u64.wrap (a1)) (IntKind.u64.wrap (t903)))) _ _ x10_2 t910 t913 _ ?side1 ?side2 ?side3 ?side4 A27.out).mono ?_); (case side1 => repeat (first | exact (Kd.R_reads' HO_893001.out).2.2 | (with_reducible refine Kd.C_alloc ?_ _) | (with_reducible refine Kd.C_drewN ?_ _) | (with_reducible refine Kd.C_drew ?_))); (case side2 => exact (Kd.R_reads' HO_893001.out).2.1); (case side3 => repeat (first | exact (Kd.S_reads' HO_10.out).2.2 | (with_reducible refine Kd.C_alloc ?_ _) | (with_reducible refine Kd.C_drewN ?_ _) | (with_reducible refine Kd.C_drew ?_))); (case side4 => exact (Kd.S_reads' HO_10.out).2.1); rintro e w32 ⟨v911, rfl, ho0, hb⟩; refine ⟨_, rfl, ?_⟩; have n0_ := Aside0.mk (Kd.S_elder' (zS HO_10) (Kd.S_base ho0) hb); have n1_ := Aside0.mk (Kd.R_below (zO HO_893001) hb); have n2_ := Aside0.mk (Kd.S_lower (Kd.S_new' ho0 (Kd.S_lt (zS HO_10))) (below_size zB)); have n3_ := Aside0.mk (blk_below (g := gb892) (o := .cells #[.int .i64 t903, .slice Ao23 t904.length co23] 42 (0, 0)) (zK BK892) hb); have n4_ := Aside0.mk (below_step zB hb); clear HO_10; clear HO_893001; clear BK892; clear HB; have HO_10 := n0_; have HO_893001 := n1_; have HO912 := n2_; have BK892 := n3_; have HB := n4_; clear n0_ n1_ n2_ n3_ n4_; (try clear hb); (try clear hb2); (try clear hk); (try clear hi); (try clear ho0); obtain ⟨Ao33, co33, eo33⟩ := Kd.S_slice HO912.out; subst eo33; have hcz34_0 : w32.cell? ⟨gb892, 0, none⟩ = some (.int .i64 t903) := zT BK892 0; have hcz34_1 : w32.cell? ⟨gb892, 1, none⟩ = some (.slice Ao23 t904.length co23) := zT BK892 1; have hfz34_0 := blk_frozen BK892.out 0; have hfz34_1 := blk_frozen BK892.out 1))
  go_roundg k2
  case measure => have := HJ5.out; have := HK2.out; omega
  case rel => exact ⟨(t910), (wrap64 (x46_2 + 1)), zR, H', ⟨by have := HJ5.out; have := HK2.out; omega⟩, ⟨by (with_reducible repeat (first | apply Kd.S_alloc | apply Kd.S_drewN | apply Kd.S_drew)); exact Kd.S_mono HO912.out (fun _ hk => trivial)⟩, ⟨zO HO_893001⟩, ⟨zK BK892⟩, ⟨zB⟩⟩
 rw [if_neg c26] at H
 have c26b0 : decide (x46_2 < (wrap64 (1 + (Go.bits .and .i64 a2 3)))) = false := decide_eq_false c26
 clear c26
 have H' := Aside0.mk H
 clear H
 obtain ⟨Ao43, co43, eo43⟩ := Kd.S_slice HO_10.out
 subst eo43
 go_wp2
 go_loopg [68] k2 (fun kq v68 w' => ∃ (x68_3 : Int), v68 = .int .i64 x68_3 ∧ Aside0 (g1_.l1 kq (wrap64 (Int.tmod (IntKind.u64.wrap (a1)) (IntKind.u64.wrap (t903)))) x10_2 (x10_2.length : Int) x68_3 t903 t904 = some r) ∧ Aside0 (kq ≤ k2) ∧ Aside0 (Kd.S k52 52 w' w.heap.size (fun _ => True) (.slice Ao43 x10_2.length co43) x10_2) ∧ Aside0 (Kd.R k71 71 w' w.heap.size (fun _ => True) (.slice Ao23 t904.length co23) t904) ∧ Aside0 (w'.heap[gb892]? = some (.cells #[.int .i64 t903, (.slice Ao23 t904.length co23)] 42 (0, 0))) ∧ Aside0 (Below w.heap.size w w'))
 case atStart => exact ⟨(0), zR, H', ⟨Nat.le_refl _⟩, ⟨zS HO_10⟩, ⟨zO HO_893001⟩, ⟨zK BK892⟩, ⟨zB⟩⟩
 clear H'
 try clear c1
 try clear c2
 try clear p2
 try clear p6
 try clear c7
 try clear c12
 try clear c14
 try clear c15
 try clear c16
 try clear c17
 try clear c17b0
 try clear c17b1
 try clear c18
 try clear c18b0
 try clear c18b1
 try clear c19
 try clear c19b0
 try clear c19b1
 try clear c26
 try clear c26b0
 try clear c28
 try clear c28b0
 try clear c28b1
 try clear c29
 try clear c29b0
 try clear c29b1
 try clear hcz20_0
 try clear hcz20_1
 try clear hcz22_0
 try clear hcz22_1
 try clear hcz30_0
 try clear hcz30_1
 try clear hcz34_0
 try clear hcz34_1
 try clear hcz35_0
 try clear hcz35_1
 try clear hcz39_0
 try clear hcz39_1
 try clear hcz40_0
 try clear hcz40_1
 try clear hfz20_0
 try clear hfz20_1
 try clear hfz22_0
 try clear hfz22_1
 try clear hfz30_0
 try clear hfz30_1
 try clear hfz34_0
 try clear hfz34_1
 try clear hfz35_0
 try clear hfz35_1
 try clear hfz39_0
 try clear hfz39_1
 try clear hfz40_0
 try clear hfz40_1
 try clear p2
 try clear p6
 obtain ⟨x68_3, rfl, HA, HK3, HO_66, HO_893001, BK892, HB⟩ := hrel
 rcases gk with _ | k3
 · exact absurd HA.out (by simp [g1_.l1])
 have H := HA.out
 clear HA
 simp only [g1_.l1] at H
 by_cases c44 : x68_3 < (x10_2.length : Int)
 rotate_left
 ·
  rw [if_neg c44] at H
  have c44b0 : decide (x68_3 < (x10_2.length : Int)) = false := decide_eq_false c44
  clear c44
  obtain rfl := Option.some.inj H
  go_wp2
  go_ret
  exact ⟨zE, zB⟩
 rw [if_pos c44] at H
 have c44b0 : decide (x68_3 < (x10_2.length : Int)) = true := decide_eq_true c44
 clear c44
 by_cases c45 : 0 ≤ x68_3
 rotate_left
 · rw [if_neg c45] at H; exact absurd H (by simp)
 rw [if_pos c45] at H
 have c45b0 : decide (0 ≤ x68_3) = true := decide_eq_true c45
 clear c45
 by_cases c46 : x68_3 < (x10_2.length : Int)
 rotate_left
 · rw [if_neg c46] at H; exact absurd H (by simp)
 rw [if_pos c46] at H
 have c46b0 : decide (x68_3 < (x10_2.length : Int)) = true := decide_eq_true c46
 clear c46
 have H' := Aside0.mk H
 clear H
 have p914 : 0 ≤ (x68_3 : Int) := od
 have q914 : x68_3 < (x10_2.length : Int) := od
 obtain ⟨ad914, A914_0, c914_0, e914, hx914_0, hl914_0, hi914_0⟩ := at_T52 (Kd.S_reads' HO_66.out).2.2 x68_3 p914 q914
 cases e914
 obtain ⟨ce914, hce914, hMe914, hcc914⟩ := Kd.S_get HO_66.out z52 x68_3 p914 (by first | exact q914 | exact od | (have e_ := (Kd.S_reads' HO_66.out).1; omega))
 obtain ⟨ve914_0, rfl, ge914_0⟩ := k52_openM hMe914
 have hv914_0 := hcc914 0 _ rfl
 rw [Nat.add_zero, show (k52).sz = 1 from rfl, Nat.mul_one] at hv914_0
 replace hv914_0 := Option.some.inj (hv914_0.symm.trans hx914_0)
 rw [hv914_0] at ge914_0
 have HL914_0 := Aside0.mk (show Kd.R (Kd.int .i64) 3 _ _ _ _ ((rd_T52 x10_2 x68_3).f0) from ge914_0)
 clear hv914_0 ge914_0
 clear hcc914 hce914
 have HR914_0 := Aside0.mk hi914_0
 have HC914_0 := Aside0.mk hl914_0
 clear hi914_0 hl914_0
 replace p914 := eq_true p914
 replace q914 := eq_true q914
 go_wp2_with (first | ((with_reducible refine gate_dst (N := 14) rfl ?_); (try (refine gate_guard (by rfl) ?_; dsimp only)); refine bx 14 (#[.slice none 0 0]) 52 ?_; intro gb915 hg w47 hbox hb; have n0_ := Aside0.mk (Kd.S_below (Kd.S_elderB (zS HO_66) gb915 (Nat.le_of_eq hg.symm)) hb); have n1_ := Aside0.mk (Kd.R_below (zO HO_893001) hb); have n2_ := Aside0.mk (Kd.R_below (zO HL914_0) hb); have n3_ := Aside0.mk (blk_below (g := gb892) (o := .cells #[.int .i64 t903, .slice Ao23 t904.length co23] 42 (0, 0)) (zK BK892) hb); have n4_ := Aside0.mk (Kd.C_below (by repeat (first | (with_reducible exact HR914_0.out) | (with_reducible refine Kd.C_alloc ?_ _) | (with_reducible refine Kd.C_drewN ?_ _) | (with_reducible refine Kd.C_drew ?_) | exact HR914_0.out)) hb); have n5_ := Aside0.mk (below_step zB hb); have n6_ := Aside0.mk (hbox); have n7_ := Aside0.mk ((zG hg : w.heap.size ≤ gb915)); have n8_ := Aside0.mk ((zG hg : w.heap.size ≤ gb915)); have n9_ := Aside0.mk ((by rw [hg]; exact Nat.ne_of_lt (blk_lt (g := gb892) (o := .cells #[.int .i64 t903, .slice Ao23 t904.length co23] 42 (0, 0)) (zK BK892)) : gb892 ≠ gb915)); have n10_ := Aside0.mk ((by rw [hg]; exact Nat.ne_of_gt (blk_lt (g := gb892) (o := .cells #[.int .i64 t903, .slice Ao23 t904.length co23] 42 (0, 0)) (zK BK892)) : gb915 ≠ gb892)); clear HO_66; clear HO_893001; clear HL914_0; clear BK892; clear HR914_0; clear HB; have HO_66 := n0_; have HO_893001 := n1_; have HL914_0 := n2_; have BK892 := n3_; have HR914_0 := n4_; have HB := n5_; have BK915 := n6_; have GW915 := n7_; have GE915 := n8_; have NB892_915 := n9_; have NB915_892 := n10_; clear n0_ n1_ n2_ n3_ n4_ n5_ n6_ n7_ n8_ n9_ n10_; clear hb hbox hg; have hnb48 := NB915_892.out; have hnc48 := NB892_915.out; have hcz49_0 : w47.cell? ⟨gb915, 0, none⟩ = some (.slice none 0 0) := zT BK915 0; have hfz49_0 := blk_frozen BK915.out 0))
 go_loopg [15, 76] k3 (fun kq v15 v76 w' => ∃ (x15_4 : Bool) (x76_4 : Int), v15 = .bool x15_4 ∧ v76 = .int .i64 x76_4 ∧ Aside0 (g1_.l2 kq (wrap64 (Int.tmod (IntKind.u64.wrap (a1)) (IntKind.u64.wrap (t903)))) x68_3 x15_4 x10_2 (x10_2.length : Int) x68_3 ((rd_T52 x10_2 x68_3).f0) (((rd_T52 x10_2 x68_3).f0).length : Int) x76_4 t903 t904 ((rd_T52 x10_2 x68_3).f0) = some r) ∧ Aside0 (kq ≤ k3) ∧ Aside0 (Kd.S k52 52 w' w.heap.size (fun k_ => k_ ≠ gb915) (.slice (some ad914) x10_2.length co43) x10_2) ∧ Aside0 (Kd.R k71 71 w' w.heap.size (fun _ => True) (.slice Ao23 t904.length co23) t904) ∧ Aside0 (w'.heap[gb892]? = some (.cells #[.int .i64 t903, (.slice Ao23 t904.length co23)] 42 (0, 0))) ∧ Aside0 (w'.heap[gb915]? = some (.cells #[(.slice A914_0 ((rd_T52 x10_2 x68_3).f0).length c914_0)] 52 (0, 0))) ∧ Aside0 (Kd.C (Kd.int .i64) w' A914_0 ((rd_T52 x10_2 x68_3).f0).length ((rd_T52 x10_2 x68_3).f0)) ∧ Aside0 (Below w.heap.size w w'))
 case atStart => exact ⟨(false), (0), zR, zR, H', ⟨Nat.le_refl _⟩, ⟨by (with_reducible repeat (first | apply Kd.S_alloc | apply Kd.S_drewN | apply Kd.S_drew)); exact Kd.S_mono (Kd.S_far (p := ⟨gb915, 0, none⟩) (Kd.S_mono HO_66.out (fun k_ hk => (⟨hk, hk.2⟩ : _ ∧ k_ ≠ gb915))) (fun _ hk => hk.2) (.slice A914_0 ((rd_T52 x10_2 x68_3).f0).length c914_0)) (fun _ hk => hk.1.2)⟩, ⟨by (with_reducible repeat (first | apply Kd.R_alloc | apply Kd.R_drewN | apply Kd.R_drew)); exact Kd.R_mono (Kd.R_far (p := ⟨gb915, 0, none⟩) (Kd.R_types HO_893001.out BK915.out (by decide)) (fun _ hk => hk.2) (.slice A914_0 ((rd_T52 x10_2 x68_3).f0).length c914_0)) (fun _ hk => trivial)⟩, ⟨by (with_reducible repeat (first | refine blk_drewN ?_ _ | refine blk_drew ?_ | refine blk_alloc ?_ _)); refine blk_far ?_ NB892_915.out _; (with_reducible repeat (first | refine blk_drewN ?_ _ | refine blk_drew ?_ | refine blk_alloc ?_ _)); exact BK892.out⟩, ⟨by (with_reducible repeat (first | refine blk_drewN ?_ _ | refine blk_drew ?_ | refine blk_alloc ?_ _)); refine blk_put (cs := #[.slice none 0 0]) ?_ 0 _ rfl; (with_reducible repeat (first | refine blk_drewN ?_ _ | refine blk_drew ?_ | refine blk_alloc ?_ _)); exact BK915.out⟩, ⟨(Kd.R_reads' (by (with_reducible repeat (first | apply Kd.R_alloc | apply Kd.R_drewN | apply Kd.R_drew)); exact (Kd.R_mono (Kd.R_far (p := ⟨gb915, 0, none⟩) (Kd.R_types HL914_0.out BK915.out (by decide)) (fun _ hk => hk.2) (.slice A914_0 ((rd_T52 x10_2 x68_3).f0).length c914_0)) (fun _ h_ => h_.1)))).2.2⟩, ⟨zB⟩⟩
 clear H'
 try clear c1
 try clear c2
 try clear p2
 try clear c4
 try clear p6
 try clear c7
 try clear c9
 try clear p9
 try clear q9
 try clear hx9
 try clear c12
 try clear c14
 try clear c15
 try clear c16
 try clear c17
 try clear c17b0
 try clear c17b1
 try clear c18
 try clear c18b0
 try clear c18b1
 try clear c19
 try clear c19b0
 try clear c19b1
 try clear c26
 try clear c26b0
 try clear c28
 try clear c28b0
 try clear c28b1
 try clear c29
 try clear c29b0
 try clear c29b1
 try clear c44
 try clear c44b0
 try clear c45
 try clear c45b0
 try clear c46
 try clear c46b0
 try clear c48
 try clear hcz20_0
 try clear hcz20_1
 try clear hcz22_0
 try clear hcz22_1
 try clear hcz30_0
 try clear hcz30_1
 try clear hcz34_0
 try clear hcz34_1
 try clear hcz35_0
 try clear hcz35_1
 try clear hcz39_0
 try clear hcz39_1
 try clear hcz40_0
 try clear hcz40_1
 try clear hcz49_0
 try clear hfz20_0
 try clear hfz20_1
 try clear hfz22_0
 try clear hfz22_1
 try clear hfz30_0
 try clear hfz30_1
 try clear hfz34_0
 try clear hfz34_1
 try clear hfz35_0
 try clear hfz35_1
 try clear hfz39_0
 try clear hfz39_1
 try clear hfz40_0
 try clear hfz40_1
 try clear hfz49_0
 try clear hx914_0
 try clear p2
 try clear p6
 try clear p914
 try clear q914
 obtain ⟨x15_4, x76_4, rfl, rfl, HA, HK4, HO_66, HO_893001, BK892, BK915, HR914_0, HB⟩ := hrel
 rcases gk with _ | k4
 · exact absurd HA.out (by simp [g1_.l2])
 have H := HA.out
 clear HA
 simp only [g1_.l2] at H
 by_cases c50 : x76_4 < (((rd_T52 x10_2 x68_3).f0).length : Int)
 rotate_left
 ·
  rw [if_neg c50] at H
  have c50b0 : decide (x76_4 < (((rd_T52 x10_2 x68_3).f0).length : Int)) = false := decide_eq_false c50
  clear c50
  have H' := Aside0.mk H
  clear H
  go_wp2
  go_roundg k4
  case measure => have := HJ5.out; have := HK2.out; have := HK3.out; have := HK4.out; omega
  case rel => exact ⟨(wrap64 (x68_3 + 1)), zR, H', ⟨by have := HJ5.out; have := HK2.out; have := HK3.out; have := HK4.out; omega⟩, ⟨by (with_reducible repeat (first | apply Kd.S_alloc | apply Kd.S_drewN | apply Kd.S_drew)); exact Kd.S_mono HO_66.out (fun _ hk => trivial)⟩, ⟨zO HO_893001⟩, ⟨zK BK892⟩, ⟨zB⟩⟩
 rw [if_pos c50] at H
 have c50b0 : decide (x76_4 < (((rd_T52 x10_2 x68_3).f0).length : Int)) = true := decide_eq_true c50
 clear c50
 by_cases c51 : 0 ≤ x76_4
 rotate_left
 · rw [if_neg c51] at H; exact absurd H (by simp)
 rw [if_pos c51] at H
 have c51b0 : decide (0 ≤ x76_4) = true := decide_eq_true c51
 clear c51
 by_cases c52 : x76_4 < (((rd_T52 x10_2 x68_3).f0).length : Int)
 rotate_left
 · rw [if_neg c52] at H; exact absurd H (by simp)
 rw [if_pos c52] at H
 have c52b0 : decide (x76_4 < (((rd_T52 x10_2 x68_3).f0).length : Int)) = true := decide_eq_true c52
 clear c52
 have HC53 := Aside0.mk H
 clear H
 have p916 : 0 ≤ (x76_4 : Int) := od
 have q916 : x76_4 < (((rd_T52 x10_2 x68_3).f0).length : Int) := od
 obtain ⟨ad916, e916, hx916_0⟩ := Kd.at_int HR914_0.out x76_4 p916 q916
 cases e916
 try replace hx916_0 := zL HB hx916_0
 replace p916 := eq_true p916
 replace q916 := eq_true q916
 go_upto_region 21 with (fail)
 go_cut [108] (fun v108 wc => ∃ (kq : Nat) (x108_52 : Bool), v108 = .bool x108_52 ∧ Aside0 (g1_.j4 kq (wrap64 (Int.tmod (IntKind.u64.wrap (a1)) (IntKind.u64.wrap (t903)))) x68_3 x15_4 x76_4 (rd ((rd_T52 x10_2 x68_3).f0) x76_4) x10_2 (x10_2.length : Int) x68_3 ((rd_T52 x10_2 x68_3).f0) (((rd_T52 x10_2 x68_3).f0).length : Int) x76_4 x108_52 t903 t904 ((rd_T52 x10_2 x68_3).f0) = some r) ∧ Aside0 (kq ≤ k4) ∧ Aside0 (Kd.S k52 52 wc w.heap.size (fun k_ => k_ ≠ gb915) (.slice (some ad914) x10_2.length co43) x10_2) ∧ Aside0 (Kd.R k71 71 wc w.heap.size (fun _ => True) (.slice Ao23 t904.length co23) t904) ∧ Aside0 (wc.heap[gb892]? = some (.cells #[.int .i64 t903, (.slice Ao23 t904.length co23)] 42 (0, 0))) ∧ Aside0 (wc.heap[gb915]? = some (.cells #[(.slice (some ad916) ((rd_T52 x10_2 x68_3).f0).length c914_0)] 52 (0, 0))) ∧ Aside0 (Kd.C (Kd.int .i64) wc (some ad916) ((rd_T52 x10_2 x68_3).f0).length ((rd_T52 x10_2 x68_3).f0)) ∧ Aside0 (Below w.heap.size w wc))
 case first =>
  have H := HC53.out
  clear HC53
  by_cases c54 : x76_4 = 0
  rotate_left
  ·
   rw [if_neg c54] at H
   have c54b0 : (x76_4 == 0) = false := beq_eq_false_iff_ne.mpr c54
   have c54b1 : (x76_4 != 0) = true := bne_iff_ne.mpr c54
   (first | rw [c54b0] | (simp only [i64_w, i32_w]; rw [c54b0]) | skip)
   by_cases c72 : x76_4 = (wrap64 ((((rd_T52 x10_2 x68_3).f0).length : Int) - 1))
   rotate_left
   ·
    rw [if_neg c72] at H
    have c72b0 : (x76_4 == (wrap64 ((((rd_T52 x10_2 x68_3).f0).length : Int) - 1))) = false := beq_eq_false_iff_ne.mpr c72
    have c72b1 : (x76_4 != (wrap64 ((((rd_T52 x10_2 x68_3).f0).length : Int) - 1))) = true := bne_iff_ne.mpr c72
    have c82b0 := eq_true (od : 0 ≤ x76_4)
    by_cases c83 : x76_4 ≤ (((rd_T52 x10_2 x68_3).f0).length : Int)
    rotate_left
    · rw [if_neg c83] at H; exact absurd H (by simp)
    rw [if_pos c83] at H
    have c83b0 := eq_true c83
    have c83b1 : decide (x76_4 ≤ (((rd_T52 x10_2 x68_3).f0).length : Int)) = true := decide_eq_true c83
    clear c83
    replace H := Option.bind_eq_some_iff.mp H
    obtain ⟨t924, A840, H⟩ := H
    replace H : (g1_.j4 k4 (wrap64 (Int.tmod (IntKind.u64.wrap (a1)) (IntKind.u64.wrap (t903)))) x68_3 x15_4 x76_4 (rd ((rd_T52 x10_2 x68_3).f0) x76_4) x10_2 (x10_2.length : Int) x68_3 ((rd_T52 x10_2 x68_3).f0) (((rd_T52 x10_2 x68_3).f0).length : Int) x76_4 t924 t903 t904 ((rd_T52 x10_2 x68_3).f0)) = some r := H
    have A84 := Aside0.mk A840
    clear A840
    have H' := Aside0.mk H
    clear H
    have hnb85 := NB915_892.out
    have hnc85 := NB892_915.out
    have hcz86_0 : wr.cell? ⟨gb915, 0, none⟩ = some (.slice (some ad916) ((rd_T52 x10_2 x68_3).f0).length c914_0) := zT BK915 0
    have hfz86_0 := blk_frozen BK915.out 0
    obtain ⟨i087, hi087, _, hsz87, _⟩ := info_parts info3
    obtain ⟨hcut87, hA87, hC87⟩ := print_take_of (P := Try.prog) (Value.int .i64) 0 33 3 .i64 Try.underlying33 hi087 hsz87 (some ad916) c914_0 ((rd_T52 x10_2 x68_3).f0) x76_4 (od) (od) HC914_0.out
    have HR923 := Aside0.mk (Kd.C_of_reads (h1 := fun _ => rfl) (hA87 _ (Kd.reads_of_C HR914_0.out)))
    have HC923 := Aside0.mk hC87
    clear hA87 hC87 hi087 hsz87
    go_wp2_with (first | (go_at_call 22; refine calls_of_args (args' := #[.slice (some ad916) (((rd_T52 x10_2 x68_3).f0).take (x76_4 : Int).toNat).length c914_0, .int .i64 (rd ((rd_T52 x10_2 x68_3).f0) x76_4)]) (by first | (rw [show (((rd_T52 x10_2 x68_3).f0).take (x76_4 : Int).toNat).length = x76_4.toNat from (by rw [List.length_take]; have h_ : (x76_4 : Int) ≤ (((rd_T52 x10_2 x68_3).f0).length : Int) := od; omega)] <;> rfl) | rfl) ?_; (with_reducible refine (g15_.calls k4 _ _ (((rd_T52 x10_2 x68_3).f0).take (x76_4 : Int).toNat) (rd ((rd_T52 x10_2 x68_3).f0) x76_4) t924 _ ?side1 ?side2 A84.out).mono ?_); (case side1 => repeat (first | exact HR923.out | exact HR923.out | exact (Kd.C_below HR923.out HB.out) | (with_reducible refine Kd.C_alloc ?_ _) | (with_reducible refine Kd.C_drewN ?_ _) | (with_reducible refine Kd.C_drew ?_))); (case side2 => exact HC923.out); rintro e w' ⟨rfl, ⟨nd, rfl⟩⟩))
    go_meet
    case rel => exact ⟨_, (t924), zR, H', ⟨by have := HJ5.out; have := HK2.out; have := HK3.out; have := HK4.out; first | omega | exact Nat.le_refl _⟩, ⟨zS HO_66⟩, ⟨zO HO_893001⟩, ⟨zK BK892⟩, ⟨zK BK915⟩, ⟨by repeat (first | (with_reducible exact HR914_0.out) | (with_reducible refine Kd.C_alloc ?_ _) | (with_reducible refine Kd.C_drewN ?_ _) | (with_reducible refine Kd.C_drew ?_) | exact HR914_0.out)⟩, ⟨zB⟩⟩
   rw [if_pos c72] at H
   have c72b0 : (x76_4 == (wrap64 ((((rd_T52 x10_2 x68_3).f0).length : Int) - 1))) = true := beq_iff_eq.mpr c72
   have c72b1 : (x76_4 != (wrap64 ((((rd_T52 x10_2 x68_3).f0).length : Int) - 1))) = false := bne_eq_false_iff_eq.mpr c72
   clear c72
   by_cases c73 : (rd ((rd_T52 x10_2 x68_3).f0) x76_4) = (wrap64 (Int.tmod (IntKind.u64.wrap (a1)) (IntKind.u64.wrap (t903))))
   rotate_left
   ·
    rw [if_neg c73] at H
    have c73b0 : ((rd ((rd_T52 x10_2 x68_3).f0) x76_4) == (wrap64 (Int.tmod (IntKind.u64.wrap (a1)) (IntKind.u64.wrap (t903))))) = false := beq_eq_false_iff_ne.mpr c73
    have c73b1 : ((rd ((rd_T52 x10_2 x68_3).f0) x76_4) != (wrap64 (Int.tmod (IntKind.u64.wrap (a1)) (IntKind.u64.wrap (t903))))) = true := bne_iff_ne.mpr c73
    have H' := Aside0.mk H
    clear H
    have hnb80 := NB915_892.out
    have hnc80 := NB892_915.out
    have hcz81_0 : wr.cell? ⟨gb915, 0, none⟩ = some (.slice (some ad916) ((rd_T52 x10_2 x68_3).f0).length c914_0) := zT BK915 0
    have hfz81_0 := blk_frozen BK915.out 0
    go_wp2
    go_meet
    case rel => exact ⟨_, (true), zR, H', ⟨by have := HJ5.out; have := HK2.out; have := HK3.out; have := HK4.out; first | omega | exact Nat.le_refl _⟩, ⟨zS HO_66⟩, ⟨zO HO_893001⟩, ⟨zK BK892⟩, ⟨zK BK915⟩, ⟨by repeat (first | (with_reducible exact HR914_0.out) | (with_reducible refine Kd.C_alloc ?_ _) | (with_reducible refine Kd.C_drewN ?_ _) | (with_reducible refine Kd.C_drew ?_) | exact HR914_0.out)⟩, ⟨zB⟩⟩
   rw [if_pos c73] at H
   have c73b0 : ((rd ((rd_T52 x10_2 x68_3).f0) x76_4) == (wrap64 (Int.tmod (IntKind.u64.wrap (a1)) (IntKind.u64.wrap (t903))))) = true := beq_iff_eq.mpr c73
   have c73b1 : ((rd ((rd_T52 x10_2 x68_3).f0) x76_4) != (wrap64 (Int.tmod (IntKind.u64.wrap (a1)) (IntKind.u64.wrap (t903))))) = false := bne_eq_false_iff_eq.mpr c73
   clear c73
   have c74b0 := eq_true (od : 0 ≤ x76_4)
   by_cases c75 : x76_4 ≤ (((rd_T52 x10_2 x68_3).f0).length : Int)
   rotate_left
   · rw [if_neg c75] at H; exact absurd H (by simp)
   rw [if_pos c75] at H
   have c75b0 := eq_true c75
   have c75b1 : decide (x76_4 ≤ (((rd_T52 x10_2 x68_3).f0).length : Int)) = true := decide_eq_true c75
   clear c75
   replace H := Option.bind_eq_some_iff.mp H
   obtain ⟨t922, A760, H⟩ := H
   replace H : (g1_.j4 k4 (wrap64 (Int.tmod (IntKind.u64.wrap (a1)) (IntKind.u64.wrap (t903)))) x68_3 x15_4 x76_4 (rd ((rd_T52 x10_2 x68_3).f0) x76_4) x10_2 (x10_2.length : Int) x68_3 ((rd_T52 x10_2 x68_3).f0) (((rd_T52 x10_2 x68_3).f0).length : Int) x76_4 t922 t903 t904 ((rd_T52 x10_2 x68_3).f0)) = some r := H
   have A76 := Aside0.mk A760
   clear A760
   have H' := Aside0.mk H
   clear H
   have hnb77 := NB915_892.out
   have hnc77 := NB892_915.out
   have hcz78_0 : wr.cell? ⟨gb915, 0, none⟩ = some (.slice (some ad916) ((rd_T52 x10_2 x68_3).f0).length c914_0) := zT BK915 0
   have hfz78_0 := blk_frozen BK915.out 0
   obtain ⟨i079, hi079, _, hsz79, _⟩ := info_parts info3
   obtain ⟨hcut79, hA79, hC79⟩ := print_take_of (P := Try.prog) (Value.int .i64) 0 33 3 .i64 Try.underlying33 hi079 hsz79 (some ad916) c914_0 ((rd_T52 x10_2 x68_3).f0) x76_4 (od) (od) HC914_0.out
   have HR921 := Aside0.mk (Kd.C_of_reads (h1 := fun _ => rfl) (hA79 _ (Kd.reads_of_C HR914_0.out)))
   have HC921 := Aside0.mk hC79
   clear hA79 hC79 hi079 hsz79
   go_wp2_with (first | (go_at_call 22; refine calls_of_args (args' := #[.slice (some ad916) (((rd_T52 x10_2 x68_3).f0).take (x76_4 : Int).toNat).length c914_0, .int .i64 (rd ((rd_T52 x10_2 x68_3).f0) x76_4)]) (by first | (rw [show (((rd_T52 x10_2 x68_3).f0).take (x76_4 : Int).toNat).length = x76_4.toNat from (by rw [List.length_take]; have h_ : (x76_4 : Int) ≤ (((rd_T52 x10_2 x68_3).f0).length : Int) := od; omega)] <;> rfl) | rfl) ?_; (with_reducible refine (g15_.calls k4 _ _ (((rd_T52 x10_2 x68_3).f0).take (x76_4 : Int).toNat) (rd ((rd_T52 x10_2 x68_3).f0) x76_4) t922 _ ?side1 ?side2 A76.out).mono ?_); (case side1 => repeat (first | exact HR921.out | exact HR921.out | exact (Kd.C_below HR921.out HB.out) | (with_reducible refine Kd.C_alloc ?_ _) | (with_reducible refine Kd.C_drewN ?_ _) | (with_reducible refine Kd.C_drew ?_))); (case side2 => exact HC921.out); rintro e w' ⟨rfl, ⟨nd, rfl⟩⟩))
   go_meet
   case rel => exact ⟨_, (t922), zR, H', ⟨by have := HJ5.out; have := HK2.out; have := HK3.out; have := HK4.out; first | omega | exact Nat.le_refl _⟩, ⟨zS HO_66⟩, ⟨zO HO_893001⟩, ⟨zK BK892⟩, ⟨zK BK915⟩, ⟨by repeat (first | (with_reducible exact HR914_0.out) | (with_reducible refine Kd.C_alloc ?_ _) | (with_reducible refine Kd.C_drewN ?_ _) | (with_reducible refine Kd.C_drew ?_) | exact HR914_0.out)⟩, ⟨zB⟩⟩
  rw [if_pos c54] at H
  have c54b0 : (x76_4 == 0) = true := beq_iff_eq.mpr c54
  have c54b1 : (x76_4 != 0) = false := bne_eq_false_iff_eq.mpr c54
  clear c54
  (first | rw [c54b0] | (simp only [i64_w, i32_w]; rw [c54b0]) | skip)
  by_cases c55 : (rd ((rd_T52 x10_2 x68_3).f0) x76_4) = x68_3
  rotate_left
  ·
   rw [if_neg c55] at H
   have c55b0 : ((rd ((rd_T52 x10_2 x68_3).f0) x76_4) == x68_3) = false := beq_eq_false_iff_ne.mpr c55
   have c55b1 : ((rd ((rd_T52 x10_2 x68_3).f0) x76_4) != x68_3) = true := bne_iff_ne.mpr c55
   have H' := Aside0.mk H
   clear H
   go_wp2
   go_meet
   case rel => exact ⟨_, (true), zR, H', ⟨by have := HJ5.out; have := HK2.out; have := HK3.out; have := HK4.out; first | omega | exact Nat.le_refl _⟩, ⟨zS HO_66⟩, ⟨zO HO_893001⟩, ⟨zK BK892⟩, ⟨zK BK915⟩, ⟨by repeat (first | (with_reducible exact HR914_0.out) | (with_reducible refine Kd.C_alloc ?_ _) | (with_reducible refine Kd.C_drewN ?_ _) | (with_reducible refine Kd.C_drew ?_) | exact HR914_0.out)⟩, ⟨zB⟩⟩
  rw [if_pos c55] at H
  have c55b0 : ((rd ((rd_T52 x10_2 x68_3).f0) x76_4) == x68_3) = true := beq_iff_eq.mpr c55
  have c55b1 : ((rd ((rd_T52 x10_2 x68_3).f0) x76_4) != x68_3) = false := bne_eq_false_iff_eq.mpr c55
  clear c55
  by_cases c56 : x76_4 = (wrap64 ((((rd_T52 x10_2 x68_3).f0).length : Int) - 1))
  rotate_left
  ·
   rw [if_neg c56] at H
   have c56b0 : (x76_4 == (wrap64 ((((rd_T52 x10_2 x68_3).f0).length : Int) - 1))) = false := beq_eq_false_iff_ne.mpr c56
   have c56b1 : (x76_4 != (wrap64 ((((rd_T52 x10_2 x68_3).f0).length : Int) - 1))) = true := bne_iff_ne.mpr c56
   have c66b0 := eq_true (od : 0 ≤ x76_4)
   by_cases c67 : x76_4 ≤ (((rd_T52 x10_2 x68_3).f0).length : Int)
   rotate_left
   · rw [if_neg c67] at H; exact absurd H (by simp)
   rw [if_pos c67] at H
   have c67b0 := eq_true c67
   have c67b1 : decide (x76_4 ≤ (((rd_T52 x10_2 x68_3).f0).length : Int)) = true := decide_eq_true c67
   clear c67
   replace H := Option.bind_eq_some_iff.mp H
   obtain ⟨t920, A680, H⟩ := H
   replace H : (g1_.j4 k4 (wrap64 (Int.tmod (IntKind.u64.wrap (a1)) (IntKind.u64.wrap (t903)))) x68_3 x15_4 x76_4 (rd ((rd_T52 x10_2 x68_3).f0) x76_4) x10_2 (x10_2.length : Int) x68_3 ((rd_T52 x10_2 x68_3).f0) (((rd_T52 x10_2 x68_3).f0).length : Int) x76_4 t920 t903 t904 ((rd_T52 x10_2 x68_3).f0)) = some r := H
   have A68 := Aside0.mk A680
   clear A680
   have H' := Aside0.mk H
   clear H
   have hnb69 := NB915_892.out
   have hnc69 := NB892_915.out
   have hcz70_0 : wr.cell? ⟨gb915, 0, none⟩ = some (.slice (some ad916) ((rd_T52 x10_2 x68_3).f0).length c914_0) := zT BK915 0
   have hfz70_0 := blk_frozen BK915.out 0
   obtain ⟨i071, hi071, _, hsz71, _⟩ := info_parts info3
   obtain ⟨hcut71, hA71, hC71⟩ := print_take_of (P := Try.prog) (Value.int .i64) 0 33 3 .i64 Try.underlying33 hi071 hsz71 (some ad916) c914_0 ((rd_T52 x10_2 x68_3).f0) x76_4 (od) (od) HC914_0.out
   have HR919 := Aside0.mk (Kd.C_of_reads (h1 := fun _ => rfl) (hA71 _ (Kd.reads_of_C HR914_0.out)))
   have HC919 := Aside0.mk hC71
   clear hA71 hC71 hi071 hsz71
   go_wp2_with (first | (go_at_call 22; refine calls_of_args (args' := #[.slice (some ad916) (((rd_T52 x10_2 x68_3).f0).take (x76_4 : Int).toNat).length c914_0, .int .i64 (rd ((rd_T52 x10_2 x68_3).f0) x76_4)]) (by first | (rw [show (((rd_T52 x10_2 x68_3).f0).take (x76_4 : Int).toNat).length = x76_4.toNat from (by rw [List.length_take]; have h_ : (x76_4 : Int) ≤ (((rd_T52 x10_2 x68_3).f0).length : Int) := od; omega)] <;> rfl) | rfl) ?_; (with_reducible refine (g15_.calls k4 _ _ (((rd_T52 x10_2 x68_3).f0).take (x76_4 : Int).toNat) (rd ((rd_T52 x10_2 x68_3).f0) x76_4) t920 _ ?side1 ?side2 A68.out).mono ?_); (case side1 => repeat (first | exact HR919.out | exact HR919.out | exact (Kd.C_below HR919.out HB.out) | (with_reducible refine Kd.C_alloc ?_ _) | (with_reducible refine Kd.C_drewN ?_ _) | (with_reducible refine Kd.C_drew ?_))); (case side2 => exact HC919.out); rintro e w' ⟨rfl, ⟨nd, rfl⟩⟩))
   go_meet
   case rel => exact ⟨_, (t920), zR, H', ⟨by have := HJ5.out; have := HK2.out; have := HK3.out; have := HK4.out; first | omega | exact Nat.le_refl _⟩, ⟨zS HO_66⟩, ⟨zO HO_893001⟩, ⟨zK BK892⟩, ⟨zK BK915⟩, ⟨by repeat (first | (with_reducible exact HR914_0.out) | (with_reducible refine Kd.C_alloc ?_ _) | (with_reducible refine Kd.C_drewN ?_ _) | (with_reducible refine Kd.C_drew ?_) | exact HR914_0.out)⟩, ⟨zB⟩⟩
  rw [if_pos c56] at H
  have c56b0 : (x76_4 == (wrap64 ((((rd_T52 x10_2 x68_3).f0).length : Int) - 1))) = true := beq_iff_eq.mpr c56
  have c56b1 : (x76_4 != (wrap64 ((((rd_T52 x10_2 x68_3).f0).length : Int) - 1))) = false := bne_eq_false_iff_eq.mpr c56
  clear c56
  by_cases c57 : (rd ((rd_T52 x10_2 x68_3).f0) x76_4) = (wrap64 (Int.tmod (IntKind.u64.wrap (a1)) (IntKind.u64.wrap (t903))))
  rotate_left
  ·
   rw [if_neg c57] at H
   have c57b0 : ((rd ((rd_T52 x10_2 x68_3).f0) x76_4) == (wrap64 (Int.tmod (IntKind.u64.wrap (a1)) (IntKind.u64.wrap (t903))))) = false := beq_eq_false_iff_ne.mpr c57
   have c57b1 : ((rd ((rd_T52 x10_2 x68_3).f0) x76_4) != (wrap64 (Int.tmod (IntKind.u64.wrap (a1)) (IntKind.u64.wrap (t903))))) = true := bne_iff_ne.mpr c57
   have H' := Aside0.mk H
   clear H
   have hnb64 := NB915_892.out
   have hnc64 := NB892_915.out
   have hcz65_0 : wr.cell? ⟨gb915, 0, none⟩ = some (.slice (some ad916) ((rd_T52 x10_2 x68_3).f0).length c914_0) := zT BK915 0
   have hfz65_0 := blk_frozen BK915.out 0
   go_wp2
   go_meet
   case rel => exact ⟨_, (true), zR, H', ⟨by have := HJ5.out; have := HK2.out; have := HK3.out; have := HK4.out; first | omega | exact Nat.le_refl _⟩, ⟨zS HO_66⟩, ⟨zO HO_893001⟩, ⟨zK BK892⟩, ⟨zK BK915⟩, ⟨by repeat (first | (with_reducible exact HR914_0.out) | (with_reducible refine Kd.C_alloc ?_ _) | (with_reducible refine Kd.C_drewN ?_ _) | (with_reducible refine Kd.C_drew ?_) | exact HR914_0.out)⟩, ⟨zB⟩⟩
  rw [if_pos c57] at H
  have c57b0 : ((rd ((rd_T52 x10_2 x68_3).f0) x76_4) == (wrap64 (Int.tmod (IntKind.u64.wrap (a1)) (IntKind.u64.wrap (t903))))) = true := beq_iff_eq.mpr c57
  have c57b1 : ((rd ((rd_T52 x10_2 x68_3).f0) x76_4) != (wrap64 (Int.tmod (IntKind.u64.wrap (a1)) (IntKind.u64.wrap (t903))))) = false := bne_eq_false_iff_eq.mpr c57
  clear c57
  have c58b0 := eq_true (od : 0 ≤ x76_4)
  by_cases c59 : x76_4 ≤ (((rd_T52 x10_2 x68_3).f0).length : Int)
  rotate_left
  · rw [if_neg c59] at H; exact absurd H (by simp)
  rw [if_pos c59] at H
  have c59b0 := eq_true c59
  have c59b1 : decide (x76_4 ≤ (((rd_T52 x10_2 x68_3).f0).length : Int)) = true := decide_eq_true c59
  clear c59
  replace H := Option.bind_eq_some_iff.mp H
  obtain ⟨t918, A600, H⟩ := H
  replace H : (g1_.j4 k4 (wrap64 (Int.tmod (IntKind.u64.wrap (a1)) (IntKind.u64.wrap (t903)))) x68_3 x15_4 x76_4 (rd ((rd_T52 x10_2 x68_3).f0) x76_4) x10_2 (x10_2.length : Int) x68_3 ((rd_T52 x10_2 x68_3).f0) (((rd_T52 x10_2 x68_3).f0).length : Int) x76_4 t918 t903 t904 ((rd_T52 x10_2 x68_3).f0)) = some r := H
  have A60 := Aside0.mk A600
  clear A600
  have H' := Aside0.mk H
  clear H
  have hnb61 := NB915_892.out
  have hnc61 := NB892_915.out
  have hcz62_0 : wr.cell? ⟨gb915, 0, none⟩ = some (.slice (some ad916) ((rd_T52 x10_2 x68_3).f0).length c914_0) := zT BK915 0
  have hfz62_0 := blk_frozen BK915.out 0
  obtain ⟨i063, hi063, _, hsz63, _⟩ := info_parts info3
  obtain ⟨hcut63, hA63, hC63⟩ := print_take_of (P := Try.prog) (Value.int .i64) 0 33 3 .i64 Try.underlying33 hi063 hsz63 (some ad916) c914_0 ((rd_T52 x10_2 x68_3).f0) x76_4 (od) (od) HC914_0.out
  have HR917 := Aside0.mk (Kd.C_of_reads (h1 := fun _ => rfl) (hA63 _ (Kd.reads_of_C HR914_0.out)))
  have HC917 := Aside0.mk hC63
  clear hA63 hC63 hi063 hsz63
  go_wp2_with (first | (go_at_call 22; refine calls_of_args (args' := #[.slice (some ad916) (((rd_T52 x10_2 x68_3).f0).take (x76_4 : Int).toNat).length c914_0, .int .i64 (rd ((rd_T52 x10_2 x68_3).f0) x76_4)]) (by first | (rw [show (((rd_T52 x10_2 x68_3).f0).take (x76_4 : Int).toNat).length = x76_4.toNat from (by rw [List.length_take]; have h_ : (x76_4 : Int) ≤ (((rd_T52 x10_2 x68_3).f0).length : Int) := od; omega)] <;> rfl) | rfl) ?_; (with_reducible refine (g15_.calls k4 _ _ (((rd_T52 x10_2 x68_3).f0).take (x76_4 : Int).toNat) (rd ((rd_T52 x10_2 x68_3).f0) x76_4) t918 _ ?side1 ?side2 A60.out).mono ?_); (case side1 => repeat (first | exact HR917.out | exact HR917.out | exact (Kd.C_below HR917.out HB.out) | (with_reducible refine Kd.C_alloc ?_ _) | (with_reducible refine Kd.C_drewN ?_ _) | (with_reducible refine Kd.C_drew ?_))); (case side2 => exact HC917.out); rintro e w' ⟨rfl, ⟨nd, rfl⟩⟩))
  go_meet
  case rel => exact ⟨_, (t918), zR, H', ⟨by have := HJ5.out; have := HK2.out; have := HK3.out; have := HK4.out; first | omega | exact Nat.le_refl _⟩, ⟨zS HO_66⟩, ⟨zO HO_893001⟩, ⟨zK BK892⟩, ⟨zK BK915⟩, ⟨by repeat (first | (with_reducible exact HR914_0.out) | (with_reducible refine Kd.C_alloc ?_ _) | (with_reducible refine Kd.C_drewN ?_ _) | (with_reducible refine Kd.C_drew ?_) | exact HR914_0.out)⟩, ⟨zB⟩⟩
 clear HC53
 try clear c1
 try clear c2
 try clear p2
 try clear c4
 try clear c5
 try clear c6
 try clear p6
 try clear c7
 try clear c8
 try clear c9
 try clear p9
 try clear q9
 try clear hx9
 try clear c12
 try clear c14
 try clear c15
 try clear c16
 try clear c17
 try clear c17b0
 try clear c17b1
 try clear c18
 try clear c18b0
 try clear c18b1
 try clear c19
 try clear c19b0
 try clear c19b1
 try clear c26
 try clear c26b0
 try clear c28
 try clear c28b0
 try clear c28b1
 try clear c29
 try clear c29b0
 try clear c29b1
 try clear c44
 try clear c44b0
 try clear c45
 try clear c45b0
 try clear c46
 try clear c46b0
 try clear c48
 try clear c50
 try clear c50b0
 try clear c51
 try clear c51b0
 try clear c52
 try clear c52b0
 try clear c54
 try clear c54b0
 try clear c54b1
 try clear c55
 try clear c55b0
 try clear c55b1
 try clear c56
 try clear c56b0
 try clear c56b1
 try clear c57
 try clear c57b0
 try clear c57b1
 try clear c58
 try clear c58b0
 try clear c59
 try clear c59b0
 try clear c59b1
 try clear c61
 try clear c64
 try clear p64
 try clear c66
 try clear c66b0
 try clear c67
 try clear c67b0
 try clear c67b1
 try clear c69
 try clear c72
 try clear c72b0
 try clear c72b1
 try clear c73
 try clear c73b0
 try clear c73b1
 try clear c74
 try clear c74b0
 try clear c75
 try clear c75b0
 try clear c75b1
 try clear c77
 try clear c80
 try clear c82
 try clear c82b0
 try clear c83
 try clear c83b0
 try clear c83b1
 try clear c85
 try clear hcz20_0
 try clear hcz20_1
 try clear hcz22_0
 try clear hcz22_1
 try clear hcz30_0
 try clear hcz30_1
 try clear hcz34_0
 try clear hcz34_1
 try clear hcz35_0
 try clear hcz35_1
 try clear hcz39_0
 try clear hcz39_1
 try clear hcz40_0
 try clear hcz40_1
 try clear hcz49_0
 try clear hcz62_0
 try clear hcz65_0
 try clear hcz70_0
 try clear hcz78_0
 try clear hcz81_0
 try clear hcz86_0
 try clear hfz20_0
 try clear hfz20_1
 try clear hfz22_0
 try clear hfz22_1
 try clear hfz30_0
 try clear hfz30_1
 try clear hfz34_0
 try clear hfz34_1
 try clear hfz35_0
 try clear hfz35_1
 try clear hfz39_0
 try clear hfz39_1
 try clear hfz40_0
 try clear hfz40_1
 try clear hfz49_0
 try clear hfz62_0
 try clear hfz65_0
 try clear hfz70_0
 try clear hfz78_0
 try clear hfz81_0
 try clear hfz86_0
 try clear hx914_0
 try clear hx916_0
 try clear p2
 try clear p6
 try clear p9
 try clear p914
 try clear p916
 try clear q9
 try clear q914
 try clear q916
 obtain ⟨kq, x108_52, rfl, HA, HJ52, HO_66, HO_893001, BK892, BK915, HR914_0, HB⟩ := hcut
 rcases kq with _ | kj52
 · exact absurd HA.out (by simp [g1_.j4])
 have H := HA.out
 clear HA
 simp only [g1_.j4] at H
 by_cases c88 : x108_52 = true
 ·
  subst c88
  have H1 : (some false) = some r := by rw [if_pos rfl] at H; exact H
  clear H
  have H := H1
  clear H1
  obtain rfl := Option.some.inj H
  go_wp2
  go_ret
  exact ⟨zE, zB⟩
 replace c88 := Bool.eq_false_iff.mpr c88
 subst c88
 have H1 : (if x76_4 = 0 then (g1_.l2 kj52 (wrap64 (Int.tmod (IntKind.u64.wrap (a1)) (IntKind.u64.wrap (t903)))) x68_3 x15_4 x10_2 (x10_2.length : Int) x68_3 ((rd_T52 x10_2 x68_3).f0) (((rd_T52 x10_2 x68_3).f0).length : Int) (wrap64 (x76_4 + 1)) t903 t904 ((rd_T52 x10_2 x68_3).f0)) else (if 0 ≤ (wrap64 (x76_4 - 1)) then (if (wrap64 (x76_4 - 1)) < (((rd_T52 x10_2 x68_3).f0).length : Int) then ((g9_.f kj52 t903 t904 (rd ((rd_T52 x10_2 x68_3).f0) (wrap64 (x76_4 - 1))) (rd ((rd_T52 x10_2 x68_3).f0) x76_4)).bind fun t926 => (if t926 = 0 then (some false) else (if x15_4 = true then (if t926 = 1 then (g1_.l2 kj52 (wrap64 (Int.tmod (IntKind.u64.wrap (a1)) (IntKind.u64.wrap (t903)))) x68_3 true x10_2 (x10_2.length : Int) x68_3 ((rd_T52 x10_2 x68_3).f0) (((rd_T52 x10_2 x68_3).f0).length : Int) (wrap64 (x76_4 + 1)) t903 t904 ((rd_T52 x10_2 x68_3).f0)) else (some false)) else (g1_.l2 kj52 (wrap64 (Int.tmod (IntKind.u64.wrap (a1)) (IntKind.u64.wrap (t903)))) x68_3 (t926 != 3) x10_2 (x10_2.length : Int) x68_3 ((rd_T52 x10_2 x68_3).f0) (((rd_T52 x10_2 x68_3).f0).length : Int) (wrap64 (x76_4 + 1)) t903 t904 ((rd_T52 x10_2 x68_3).f0))))) else (none)) else (none))) = some r := by rw [if_neg (show ¬ (false = true) by decide)] at H; exact H
 clear H
 have H := H1
 clear H1
 by_cases c89 : x76_4 = 0
 ·
  rw [if_pos c89] at H
  have c89b0 : (x76_4 == 0) = true := beq_iff_eq.mpr c89
  have c89b1 : (x76_4 != 0) = false := bne_eq_false_iff_eq.mpr c89
  clear c89
  have H' := Aside0.mk H
  clear H
  go_wp2
  go_roundg kj52
  case measure => have := HJ5.out; have := HK2.out; have := HK3.out; have := HK4.out; have := HJ52.out; omega
  case rel => exact ⟨(x15_4), (wrap64 (x76_4 + 1)), zR, zR, H', ⟨by have := HJ5.out; have := HK2.out; have := HK3.out; have := HK4.out; have := HJ52.out; omega⟩, ⟨zS HO_66⟩, ⟨zO HO_893001⟩, ⟨zK BK892⟩, ⟨zK BK915⟩, ⟨by repeat (first | (with_reducible exact HR914_0.out) | (with_reducible refine Kd.C_alloc ?_ _) | (with_reducible refine Kd.C_drewN ?_ _) | (with_reducible refine Kd.C_drew ?_) | exact HR914_0.out)⟩, ⟨zB⟩⟩
 rw [if_neg c89] at H
 have c89b0 : (x76_4 == 0) = false := beq_eq_false_iff_ne.mpr c89
 have c89b1 : (x76_4 != 0) = true := bne_iff_ne.mpr c89
 obtain ⟨ji90, hji90⟩ : ∃ j_ : Int, (wrap64 (x76_4 - 1)) = j_ := ⟨_, rfl⟩
 replace H : (if 0 ≤ (ji90) then (if (ji90) < (((rd_T52 x10_2 x68_3).f0).length : Int) then ((g9_.f kj52 t903 t904 (rd ((rd_T52 x10_2 x68_3).f0) (ji90)) (rd ((rd_T52 x10_2 x68_3).f0) x76_4)).bind fun t926 => (if t926 = 0 then (some false) else (if x15_4 = true then (if t926 = 1 then (g1_.l2 kj52 (wrap64 (Int.tmod (IntKind.u64.wrap (a1)) (IntKind.u64.wrap (t903)))) x68_3 true x10_2 (x10_2.length : Int) x68_3 ((rd_T52 x10_2 x68_3).f0) (((rd_T52 x10_2 x68_3).f0).length : Int) (wrap64 (x76_4 + 1)) t903 t904 ((rd_T52 x10_2 x68_3).f0)) else (some false)) else (g1_.l2 kj52 (wrap64 (Int.tmod (IntKind.u64.wrap (a1)) (IntKind.u64.wrap (t903)))) x68_3 (t926 != 3) x10_2 (x10_2.length : Int) x68_3 ((rd_T52 x10_2 x68_3).f0) (((rd_T52 x10_2 x68_3).f0).length : Int) (wrap64 (x76_4 + 1)) t903 t904 ((rd_T52 x10_2 x68_3).f0))))) else (none)) else (none)) = some r := by first | (rw [hji90] at H; exact H) | (simp only [hji90] at H ⊢; exact H)
 have hji90w : (IntKind.i64.wrap (x76_4 - 1)) = ji90 := (i64_w _).trans hji90
 by_cases c91 : 0 ≤ (ji90)
 rotate_left
 · rw [if_neg c91] at H; exact absurd H (by simp)
 rw [if_pos c91] at H
 have c91b0 : decide (0 ≤ (ji90)) = true := decide_eq_true c91
 clear c91
 by_cases c92 : (ji90) < (((rd_T52 x10_2 x68_3).f0).length : Int)
 rotate_left
 · rw [if_neg c92] at H; exact absurd H (by simp)
 rw [if_pos c92] at H
 have c92b0 : decide ((ji90) < (((rd_T52 x10_2 x68_3).f0).length : Int)) = true := decide_eq_true c92
 clear c92
 replace H := Option.bind_eq_some_iff.mp H
 obtain ⟨t926, A930, H⟩ := H
 replace H : (if t926 = 0 then (some false) else (if x15_4 = true then (if t926 = 1 then (g1_.l2 kj52 (wrap64 (Int.tmod (IntKind.u64.wrap (a1)) (IntKind.u64.wrap (t903)))) x68_3 true x10_2 (x10_2.length : Int) x68_3 ((rd_T52 x10_2 x68_3).f0) (((rd_T52 x10_2 x68_3).f0).length : Int) (wrap64 (x76_4 + 1)) t903 t904 ((rd_T52 x10_2 x68_3).f0)) else (some false)) else (g1_.l2 kj52 (wrap64 (Int.tmod (IntKind.u64.wrap (a1)) (IntKind.u64.wrap (t903)))) x68_3 (t926 != 3) x10_2 (x10_2.length : Int) x68_3 ((rd_T52 x10_2 x68_3).f0) (((rd_T52 x10_2 x68_3).f0).length : Int) (wrap64 (x76_4 + 1)) t903 t904 ((rd_T52 x10_2 x68_3).f0)))) = some r := H
 have A93 := Aside0.mk A930
 clear A930
 by_cases c94 : t926 = 0
 ·
  rw [if_pos c94] at H
  have c94b0 : (t926 == 0) = true := beq_iff_eq.mpr c94
  have c94b1 : (t926 != 0) = false := bne_eq_false_iff_eq.mpr c94
  clear c94
  obtain rfl := Option.some.inj H
  try go_wp2
  have n0_ := Aside0.mk (Kd.S_drew HO_66.out)
  have n1_ := Aside0.mk (Kd.R_drew HO_893001.out)
  have n2_ := Aside0.mk (blk_drew BK892.out)
  have n3_ := Aside0.mk (blk_drew BK915.out)
  have n4_ := Aside0.mk (Kd.C_drew HR914_0.out)
  have n5_ := Aside0.mk (below_drew1 HB.out)
  clear HO_66
  clear HO_893001
  clear BK892
  clear BK915
  clear HR914_0
  clear HB
  have HO_66 := n0_
  have HO_893001 := n1_
  have BK892 := n2_
  have BK915 := n3_
  have HR914_0 := n4_
  have HB := n5_
  clear n0_ n1_ n2_ n3_ n4_ n5_
  have p925 : 0 ≤ ((ji90) : Int) := od
  have q925 : (ji90) < (((rd_T52 x10_2 x68_3).f0).length : Int) := od
  obtain ⟨ad925, e925, hx925_0⟩ := Kd.at_int HR914_0.out (ji90) p925 q925
  have hw925_0 := hx925_0
  obtain rfl : ad916 = ad925 := (by injection e925)
  replace p925 := eq_true p925
  replace q925 := eq_true q925
  refine start_ (n := 10) (S := fun w' => w'.cell? ⟨gb892, 0, none⟩ = some (.int .i64 t903) ∧ w'.cell? ⟨gb892, 1, none⟩ = some (.slice Ao23 t904.length co23) ∧ w'.cell? ⟨gb915, 0, none⟩ = some (.slice (some ad916) ((rd_T52 x10_2 x68_3).f0).length c914_0) ∧ w'.cell? (ad916.add ((ji90)).toNat) = some (.int .i64 (rd ((rd_T52 x10_2 x68_3).f0) (ji90)))) (ds := []) (bm 10 0) (by kernel_rfl) rfl rfl ⟨zT BK892 0, zT BK892 1, zT BK915 0, (by obtain ⟨ad_, e_, h_⟩ := Kd.at_int HR914_0.out ji90 (of_eq_true p925) (of_eq_true q925); obtain rfl : ad916 = ad_ := (by injection e_); exact h_)⟩ (fun hHeld => ?_); refine with_tabW g1_.tab24 g1_.bits24 (fun HT_ HW_ => ?_)
  generalize wc.drew = w95 at HO_66 HO_893001 BK892 BK915 HR914_0 HB hx925_0 hHeld ⊢
  refine pu 1 (some 112) (bm 10 2) HT_ ?_
  refine pu 3 (some 114) (bm 10 10) HT_ ?_
  refine pu 4 (some 115) (bm 10 26) HT_ ?_
  refine pu 7 (some 118) (bm 10 154) HT_ ?_
  refine tk 0 (some 111) (bm 10 155) HT_ HW_ hHeld ?_
  refine tk 2 (some 113) (bm 10 159) HT_ HW_ hHeld ?_
  refine pu 5 (some 116) (bm 10 191) HT_ ?_
  refine tk 6 (some 117) (bm 10 255) HT_ HW_ hHeld ?_
  refine one_ (i := 8) (N := some 119) (bm 10 511) rfl rfl (one_of HT_.out (by kernel_rfl)) (by decide) (fun K hK => ?_)
  refine goes_ Try.func23 (by kernel_rfl) rfl #[.agg #[.int .i64 t903, .slice Ao23 t904.length co23], .int .i64 (rd ((rd_T52 x10_2 x68_3).f0) (ji90)), .int .i64 (rd ((rd_T52 x10_2 x68_3).f0) x76_4)] (by rfl) rfl rfl (by (try simp only [List.map_toArray, List.map_cons, List.map_nil]); first | done | (simp only [hji90]; rfl) | rfl | (simp only [List.length_drop, List.length_take]; rfl)) ?_
  with_reducible refine (g9_.calls kj52 t903 _ _ t904 (rd ((rd_T52 x10_2 x68_3).f0) (ji90)) (rd ((rd_T52 x10_2 x68_3).f0) x76_4) t926 _ ?side1 ?side2 A93.out).mono ?_
  (case side1 => repeat (first | exact (Kd.R_reads' HO_893001.out).2.2 | (with_reducible refine Kd.C_alloc ?_ _) | (with_reducible refine Kd.C_drewN ?_ _) | (with_reducible refine Kd.C_drew ?_)))
  (case side2 => exact (Kd.R_reads' HO_893001.out).2.1)
  rintro e w96 ⟨rfl, hb⟩
  refine ⟨_, rfl, ?_⟩
  have n0_ := Aside0.mk (Kd.S_below (zS HO_66) hb)
  have n1_ := Aside0.mk (Kd.R_below (zO HO_893001) hb)
  have n2_ := Aside0.mk (blk_below (g := gb892) (o := .cells #[.int .i64 t903, .slice Ao23 t904.length co23] 42 (0, 0)) (zK BK892) hb)
  have n3_ := Aside0.mk (blk_below (g := gb915) (o := .cells #[.slice (some ad916) ((rd_T52 x10_2 x68_3).f0).length c914_0] 52 (0, 0)) (zK BK915) hb)
  have n4_ := Aside0.mk (Kd.C_below (by repeat (first | (with_reducible exact HR914_0.out) | (with_reducible refine Kd.C_alloc ?_ _) | (with_reducible refine Kd.C_drewN ?_ _) | (with_reducible refine Kd.C_drew ?_) | exact HR914_0.out)) hb)
  have n5_ := Aside0.mk (below_step zB hb)
  clear HO_66
  clear HO_893001
  clear BK892
  clear BK915
  clear HR914_0
  clear HB
  have HO_66 := n0_
  have HO_893001 := n1_
  have BK892 := n2_
  have BK915 := n3_
  have HR914_0 := n4_
  have HB := n5_
  clear n0_ n1_ n2_ n3_ n4_ n5_
  (try clear hb)
  (try clear hb2)
  (try clear hk)
  (try clear hi)
  refine hK.out _ _ ⟨zT BK892 0, zT BK892 1, zT BK915 0, (by obtain ⟨ad_, e_, h_⟩ := Kd.at_int HR914_0.out ji90 (of_eq_true p925) (of_eq_true q925); obtain rfl : ad916 = ad_ := (by injection e_); exact h_)⟩ (fun hHeld => ?_)
  clear hK K
  refine norm_ (a' := ?_) ?_ ?_
  rotate_left
  · show Act.put _ (some 119) _ = _; simp only [Act.put, sA, s0, sS, i64_w, i32_w]; rfl
  refine pu 9 (some 18) (bm 10 1023) HT_ ?_
  refine done_ (done_of HT_.out (by kernel_rfl)) ?_
  try go_wp2
  go_ret
  exact ⟨by first | rfl | (simp [errW_none, errW_some] <;> rfl) | (simp only [← hji90]; first | rfl | (simp [errW_none, errW_some] <;> rfl)) | (simp [*, errW_none, errW_some] <;> rfl), zB⟩
 rw [if_neg c94] at H
 have c94b0 : (t926 == 0) = false := beq_eq_false_iff_ne.mpr c94
 have c94b1 : (t926 != 0) = true := bne_iff_ne.mpr c94
 by_cases c97 : x15_4 = true
 rotate_left
 ·
  replace c97 := Bool.eq_false_iff.mpr c97
  subst c97
  have H1 : (g1_.l2 kj52 (wrap64 (Int.tmod (IntKind.u64.wrap (a1)) (IntKind.u64.wrap (t903)))) x68_3 (t926 != 3) x10_2 (x10_2.length : Int) x68_3 ((rd_T52 x10_2 x68_3).f0) (((rd_T52 x10_2 x68_3).f0).length : Int) (wrap64 (x76_4 + 1)) t903 t904 ((rd_T52 x10_2 x68_3).f0)) = some r := by rw [if_neg (show ¬ (false = true) by decide)] at H; exact H
  clear H
  have H := H1
  clear H1
  have H' := Aside0.mk H
  clear H
  try go_wp2
  have n0_ := Aside0.mk (Kd.S_drew HO_66.out)
  have n1_ := Aside0.mk (Kd.R_drew HO_893001.out)
  have n2_ := Aside0.mk (blk_drew BK892.out)
  have n3_ := Aside0.mk (blk_drew BK915.out)
  have n4_ := Aside0.mk (Kd.C_drew HR914_0.out)
  have n5_ := Aside0.mk (below_drew1 HB.out)
  clear HO_66
  clear HO_893001
  clear BK892
  clear BK915
  clear HR914_0
  clear HB
  have HO_66 := n0_
  have HO_893001 := n1_
  have BK892 := n2_
  have BK915 := n3_
  have HR914_0 := n4_
  have HB := n5_
  clear n0_ n1_ n2_ n3_ n4_ n5_
  have p925 : 0 ≤ ((ji90) : Int) := od
  have q925 : (ji90) < (((rd_T52 x10_2 x68_3).f0).length : Int) := od
  obtain ⟨ad925, e925, hx925_0⟩ := Kd.at_int HR914_0.out (ji90) p925 q925
  have hw925_0 := hx925_0
  obtain rfl : ad916 = ad925 := (by injection e925)
  replace p925 := eq_true p925
  replace q925 := eq_true q925
  refine start_ (n := 10) (S := fun w' => w'.cell? ⟨gb892, 0, none⟩ = some (.int .i64 t903) ∧ w'.cell? ⟨gb892, 1, none⟩ = some (.slice Ao23 t904.length co23) ∧ w'.cell? ⟨gb915, 0, none⟩ = some (.slice (some ad916) ((rd_T52 x10_2 x68_3).f0).length c914_0) ∧ w'.cell? (ad916.add ((ji90)).toNat) = some (.int .i64 (rd ((rd_T52 x10_2 x68_3).f0) (ji90)))) (ds := []) (bm 10 0) (by kernel_rfl) rfl rfl ⟨zT BK892 0, zT BK892 1, zT BK915 0, (by obtain ⟨ad_, e_, h_⟩ := Kd.at_int HR914_0.out ji90 (of_eq_true p925) (of_eq_true q925); obtain rfl : ad916 = ad_ := (by injection e_); exact h_)⟩ (fun hHeld => ?_); refine with_tabW g1_.tab24 g1_.bits24 (fun HT_ HW_ => ?_)
  generalize wc.drew = w103 at HO_66 HO_893001 BK892 BK915 HR914_0 HB hx925_0 hHeld ⊢
  refine pu 1 (some 112) (bm 10 2) HT_ ?_
  refine pu 3 (some 114) (bm 10 10) HT_ ?_
  refine pu 4 (some 115) (bm 10 26) HT_ ?_
  refine pu 7 (some 118) (bm 10 154) HT_ ?_
  refine tk 0 (some 111) (bm 10 155) HT_ HW_ hHeld ?_
  refine tk 2 (some 113) (bm 10 159) HT_ HW_ hHeld ?_
  refine pu 5 (some 116) (bm 10 191) HT_ ?_
  refine tk 6 (some 117) (bm 10 255) HT_ HW_ hHeld ?_
  refine one_ (i := 8) (N := some 119) (bm 10 511) rfl rfl (one_of HT_.out (by kernel_rfl)) (by decide) (fun K hK => ?_)
  refine goes_ Try.func23 (by kernel_rfl) rfl #[.agg #[.int .i64 t903, .slice Ao23 t904.length co23], .int .i64 (rd ((rd_T52 x10_2 x68_3).f0) (ji90)), .int .i64 (rd ((rd_T52 x10_2 x68_3).f0) x76_4)] (by rfl) rfl rfl (by (try simp only [List.map_toArray, List.map_cons, List.map_nil]); first | done | (simp only [hji90]; rfl) | rfl | (simp only [List.length_drop, List.length_take]; rfl)) ?_
  with_reducible refine (g9_.calls kj52 t903 _ _ t904 (rd ((rd_T52 x10_2 x68_3).f0) (ji90)) (rd ((rd_T52 x10_2 x68_3).f0) x76_4) t926 _ ?side1 ?side2 A93.out).mono ?_
  (case side1 => repeat (first | exact (Kd.R_reads' HO_893001.out).2.2 | (with_reducible refine Kd.C_alloc ?_ _) | (with_reducible refine Kd.C_drewN ?_ _) | (with_reducible refine Kd.C_drew ?_)))
  (case side2 => exact (Kd.R_reads' HO_893001.out).2.1)
  rintro e w104 ⟨rfl, hb⟩
  refine ⟨_, rfl, ?_⟩
  have n0_ := Aside0.mk (Kd.S_below (zS HO_66) hb)
  have n1_ := Aside0.mk (Kd.R_below (zO HO_893001) hb)
  have n2_ := Aside0.mk (blk_below (g := gb892) (o := .cells #[.int .i64 t903, .slice Ao23 t904.length co23] 42 (0, 0)) (zK BK892) hb)
  have n3_ := Aside0.mk (blk_below (g := gb915) (o := .cells #[.slice (some ad916) ((rd_T52 x10_2 x68_3).f0).length c914_0] 52 (0, 0)) (zK BK915) hb)
  have n4_ := Aside0.mk (Kd.C_below (by repeat (first | (with_reducible exact HR914_0.out) | (with_reducible refine Kd.C_alloc ?_ _) | (with_reducible refine Kd.C_drewN ?_ _) | (with_reducible refine Kd.C_drew ?_) | exact HR914_0.out)) hb)
  have n5_ := Aside0.mk (below_step zB hb)
  clear HO_66
  clear HO_893001
  clear BK892
  clear BK915
  clear HR914_0
  clear HB
  have HO_66 := n0_
  have HO_893001 := n1_
  have BK892 := n2_
  have BK915 := n3_
  have HR914_0 := n4_
  have HB := n5_
  clear n0_ n1_ n2_ n3_ n4_ n5_
  (try clear hb)
  (try clear hb2)
  (try clear hk)
  (try clear hi)
  refine hK.out _ _ ⟨zT BK892 0, zT BK892 1, zT BK915 0, (by obtain ⟨ad_, e_, h_⟩ := Kd.at_int HR914_0.out ji90 (of_eq_true p925) (of_eq_true q925); obtain rfl : ad916 = ad_ := (by injection e_); exact h_)⟩ (fun hHeld => ?_)
  clear hK K
  refine norm_ (a' := ?_) ?_ ?_
  rotate_left
  · show Act.put _ (some 119) _ = _; simp only [Act.put, sA, s0, sS, i64_w, i32_w]; rfl
  refine pu 9 (some 18) (bm 10 1023) HT_ ?_
  refine done_ (done_of HT_.out (by kernel_rfl)) ?_
  try go_wp2
  go_roundg kj52
  case measure => have := HJ5.out; have := HK2.out; have := HK3.out; have := HK4.out; have := HJ52.out; omega
  case rel => exact ⟨((t926 != 3)), (wrap64 (x76_4 + 1)), zR, zR, H', ⟨by have := HJ5.out; have := HK2.out; have := HK3.out; have := HK4.out; have := HJ52.out; omega⟩, ⟨zS HO_66⟩, ⟨zO HO_893001⟩, ⟨zK BK892⟩, ⟨zK BK915⟩, ⟨by repeat (first | (with_reducible exact HR914_0.out) | (with_reducible refine Kd.C_alloc ?_ _) | (with_reducible refine Kd.C_drewN ?_ _) | (with_reducible refine Kd.C_drew ?_) | exact HR914_0.out)⟩, ⟨zB⟩⟩
 subst c97
 have H1 : (if t926 = 1 then (g1_.l2 kj52 (wrap64 (Int.tmod (IntKind.u64.wrap (a1)) (IntKind.u64.wrap (t903)))) x68_3 true x10_2 (x10_2.length : Int) x68_3 ((rd_T52 x10_2 x68_3).f0) (((rd_T52 x10_2 x68_3).f0).length : Int) (wrap64 (x76_4 + 1)) t903 t904 ((rd_T52 x10_2 x68_3).f0)) else (some false)) = some r := by rw [if_pos rfl] at H; exact H
 clear H
 have H := H1
 clear H1
 by_cases c98 : t926 = 1
 rotate_left
 ·
  rw [if_neg c98] at H
  have c98b0 : (t926 == 1) = false := beq_eq_false_iff_ne.mpr c98
  have c98b1 : (t926 != 1) = true := bne_iff_ne.mpr c98
  obtain rfl := Option.some.inj H
  try go_wp2
  have n0_ := Aside0.mk (Kd.S_drew HO_66.out)
  have n1_ := Aside0.mk (Kd.R_drew HO_893001.out)
  have n2_ := Aside0.mk (blk_drew BK892.out)
  have n3_ := Aside0.mk (blk_drew BK915.out)
  have n4_ := Aside0.mk (Kd.C_drew HR914_0.out)
  have n5_ := Aside0.mk (below_drew1 HB.out)
  clear HO_66
  clear HO_893001
  clear BK892
  clear BK915
  clear HR914_0
  clear HB
  have HO_66 := n0_
  have HO_893001 := n1_
  have BK892 := n2_
  have BK915 := n3_
  have HR914_0 := n4_
  have HB := n5_
  clear n0_ n1_ n2_ n3_ n4_ n5_
  have p925 : 0 ≤ ((ji90) : Int) := od
  have q925 : (ji90) < (((rd_T52 x10_2 x68_3).f0).length : Int) := od
  obtain ⟨ad925, e925, hx925_0⟩ := Kd.at_int HR914_0.out (ji90) p925 q925
  have hw925_0 := hx925_0
  obtain rfl : ad916 = ad925 := (by injection e925)
  replace p925 := eq_true p925
  replace q925 := eq_true q925
  refine start_ (n := 10) (S := fun w' => w'.cell? ⟨gb892, 0, none⟩ = some (.int .i64 t903) ∧ w'.cell? ⟨gb892, 1, none⟩ = some (.slice Ao23 t904.length co23) ∧ w'.cell? ⟨gb915, 0, none⟩ = some (.slice (some ad916) ((rd_T52 x10_2 x68_3).f0).length c914_0) ∧ w'.cell? (ad916.add ((ji90)).toNat) = some (.int .i64 (rd ((rd_T52 x10_2 x68_3).f0) (ji90)))) (ds := []) (bm 10 0) (by kernel_rfl) rfl rfl ⟨zT BK892 0, zT BK892 1, zT BK915 0, (by obtain ⟨ad_, e_, h_⟩ := Kd.at_int HR914_0.out ji90 (of_eq_true p925) (of_eq_true q925); obtain rfl : ad916 = ad_ := (by injection e_); exact h_)⟩ (fun hHeld => ?_); refine with_tabW g1_.tab24 g1_.bits24 (fun HT_ HW_ => ?_)
  generalize wc.drew = w101 at HO_66 HO_893001 BK892 BK915 HR914_0 HB hx925_0 hHeld ⊢
  refine pu 1 (some 112) (bm 10 2) HT_ ?_
  refine pu 3 (some 114) (bm 10 10) HT_ ?_
  refine pu 4 (some 115) (bm 10 26) HT_ ?_
  refine pu 7 (some 118) (bm 10 154) HT_ ?_
  refine tk 0 (some 111) (bm 10 155) HT_ HW_ hHeld ?_
  refine tk 2 (some 113) (bm 10 159) HT_ HW_ hHeld ?_
  refine pu 5 (some 116) (bm 10 191) HT_ ?_
  refine tk 6 (some 117) (bm 10 255) HT_ HW_ hHeld ?_
  refine one_ (i := 8) (N := some 119) (bm 10 511) rfl rfl (one_of HT_.out (by kernel_rfl)) (by decide) (fun K hK => ?_)
  refine goes_ Try.func23 (by kernel_rfl) rfl #[.agg #[.int .i64 t903, .slice Ao23 t904.length co23], .int .i64 (rd ((rd_T52 x10_2 x68_3).f0) (ji90)), .int .i64 (rd ((rd_T52 x10_2 x68_3).f0) x76_4)] (by rfl) rfl rfl (by (try simp only [List.map_toArray, List.map_cons, List.map_nil]); first | done | (simp only [hji90]; rfl) | rfl | (simp only [List.length_drop, List.length_take]; rfl)) ?_
  with_reducible refine (g9_.calls kj52 t903 _ _ t904 (rd ((rd_T52 x10_2 x68_3).f0) (ji90)) (rd ((rd_T52 x10_2 x68_3).f0) x76_4) t926 _ ?side1 ?side2 A93.out).mono ?_
  (case side1 => repeat (first | exact (Kd.R_reads' HO_893001.out).2.2 | (with_reducible refine Kd.C_alloc ?_ _) | (with_reducible refine Kd.C_drewN ?_ _) | (with_reducible refine Kd.C_drew ?_)))
  (case side2 => exact (Kd.R_reads' HO_893001.out).2.1)
  rintro e w102 ⟨rfl, hb⟩
  refine ⟨_, rfl, ?_⟩
  have n0_ := Aside0.mk (Kd.S_below (zS HO_66) hb)
  have n1_ := Aside0.mk (Kd.R_below (zO HO_893001) hb)
  have n2_ := Aside0.mk (blk_below (g := gb892) (o := .cells #[.int .i64 t903, .slice Ao23 t904.length co23] 42 (0, 0)) (zK BK892) hb)
  have n3_ := Aside0.mk (blk_below (g := gb915) (o := .cells #[.slice (some ad916) ((rd_T52 x10_2 x68_3).f0).length c914_0] 52 (0, 0)) (zK BK915) hb)
  have n4_ := Aside0.mk (Kd.C_below (by repeat (first | (with_reducible exact HR914_0.out) | (with_reducible refine Kd.C_alloc ?_ _) | (with_reducible refine Kd.C_drewN ?_ _) | (with_reducible refine Kd.C_drew ?_) | exact HR914_0.out)) hb)
  have n5_ := Aside0.mk (below_step zB hb)
  clear HO_66
  clear HO_893001
  clear BK892
  clear BK915
  clear HR914_0
  clear HB
  have HO_66 := n0_
  have HO_893001 := n1_
  have BK892 := n2_
  have BK915 := n3_
  have HR914_0 := n4_
  have HB := n5_
  clear n0_ n1_ n2_ n3_ n4_ n5_
  (try clear hb)
  (try clear hb2)
  (try clear hk)
  (try clear hi)
  refine hK.out _ _ ⟨zT BK892 0, zT BK892 1, zT BK915 0, (by obtain ⟨ad_, e_, h_⟩ := Kd.at_int HR914_0.out ji90 (of_eq_true p925) (of_eq_true q925); obtain rfl : ad916 = ad_ := (by injection e_); exact h_)⟩ (fun hHeld => ?_)
  clear hK K
  refine norm_ (a' := ?_) ?_ ?_
  rotate_left
  · show Act.put _ (some 119) _ = _; simp only [Act.put, sA, s0, sS, i64_w, i32_w]; rfl
  refine pu 9 (some 18) (bm 10 1023) HT_ ?_
  refine done_ (done_of HT_.out (by kernel_rfl)) ?_
  try go_wp2
  go_ret
  exact ⟨by first | rfl | (simp [errW_none, errW_some] <;> rfl) | (simp only [← hji90]; first | rfl | (simp [errW_none, errW_some] <;> rfl)) | (simp [*, errW_none, errW_some] <;> rfl), zB⟩
 rw [if_pos c98] at H
 have c98b0 : (t926 == 1) = true := beq_iff_eq.mpr c98
 have c98b1 : (t926 != 1) = false := bne_eq_false_iff_eq.mpr c98
 clear c98
 have H' := Aside0.mk H
 clear H
 try go_wp2
 have n0_ := Aside0.mk (Kd.S_drew HO_66.out)
 have n1_ := Aside0.mk (Kd.R_drew HO_893001.out)
 have n2_ := Aside0.mk (blk_drew BK892.out)
 have n3_ := Aside0.mk (blk_drew BK915.out)
 have n4_ := Aside0.mk (Kd.C_drew HR914_0.out)
 have n5_ := Aside0.mk (below_drew1 HB.out)
 clear HO_66
 clear HO_893001
 clear BK892
 clear BK915
 clear HR914_0
 clear HB
 have HO_66 := n0_
 have HO_893001 := n1_
 have BK892 := n2_
 have BK915 := n3_
 have HR914_0 := n4_
 have HB := n5_
 clear n0_ n1_ n2_ n3_ n4_ n5_
 have p925 : 0 ≤ ((ji90) : Int) := od
 have q925 : (ji90) < (((rd_T52 x10_2 x68_3).f0).length : Int) := od
 obtain ⟨ad925, e925, hx925_0⟩ := Kd.at_int HR914_0.out (ji90) p925 q925
 have hw925_0 := hx925_0
 obtain rfl : ad916 = ad925 := (by injection e925)
 replace p925 := eq_true p925
 replace q925 := eq_true q925
 refine start_ (n := 10) (S := fun w' => w'.cell? ⟨gb892, 0, none⟩ = some (.int .i64 t903) ∧ w'.cell? ⟨gb892, 1, none⟩ = some (.slice Ao23 t904.length co23) ∧ w'.cell? ⟨gb915, 0, none⟩ = some (.slice (some ad916) ((rd_T52 x10_2 x68_3).f0).length c914_0) ∧ w'.cell? (ad916.add ((ji90)).toNat) = some (.int .i64 (rd ((rd_T52 x10_2 x68_3).f0) (ji90)))) (ds := []) (bm 10 0) (by kernel_rfl) rfl rfl ⟨zT BK892 0, zT BK892 1, zT BK915 0, (by obtain ⟨ad_, e_, h_⟩ := Kd.at_int HR914_0.out ji90 (of_eq_true p925) (of_eq_true q925); obtain rfl : ad916 = ad_ := (by injection e_); exact h_)⟩ (fun hHeld => ?_); refine with_tabW g1_.tab24 g1_.bits24 (fun HT_ HW_ => ?_)
 generalize wc.drew = w99 at HO_66 HO_893001 BK892 BK915 HR914_0 HB hx925_0 hHeld ⊢
 refine pu 1 (some 112) (bm 10 2) HT_ ?_
 refine pu 3 (some 114) (bm 10 10) HT_ ?_
 refine pu 4 (some 115) (bm 10 26) HT_ ?_
 refine pu 7 (some 118) (bm 10 154) HT_ ?_
 refine tk 0 (some 111) (bm 10 155) HT_ HW_ hHeld ?_
 refine tk 2 (some 113) (bm 10 159) HT_ HW_ hHeld ?_
 refine pu 5 (some 116) (bm 10 191) HT_ ?_
 refine tk 6 (some 117) (bm 10 255) HT_ HW_ hHeld ?_
 refine one_ (i := 8) (N := some 119) (bm 10 511) rfl rfl (one_of HT_.out (by kernel_rfl)) (by decide) (fun K hK => ?_)
 refine goes_ Try.func23 (by kernel_rfl) rfl #[.agg #[.int .i64 t903, .slice Ao23 t904.length co23], .int .i64 (rd ((rd_T52 x10_2 x68_3).f0) (ji90)), .int .i64 (rd ((rd_T52 x10_2 x68_3).f0) x76_4)] (by rfl) rfl rfl (by (try simp only [List.map_toArray, List.map_cons, List.map_nil]); first | done | (simp only [hji90]; rfl) | rfl | (simp only [List.length_drop, List.length_take]; rfl)) ?_
 with_reducible refine (g9_.calls kj52 t903 _ _ t904 (rd ((rd_T52 x10_2 x68_3).f0) (ji90)) (rd ((rd_T52 x10_2 x68_3).f0) x76_4) t926 _ ?side1 ?side2 A93.out).mono ?_
 (case side1 => repeat (first | exact (Kd.R_reads' HO_893001.out).2.2 | (with_reducible refine Kd.C_alloc ?_ _) | (with_reducible refine Kd.C_drewN ?_ _) | (with_reducible refine Kd.C_drew ?_)))
 (case side2 => exact (Kd.R_reads' HO_893001.out).2.1)
 rintro e w100 ⟨rfl, hb⟩
 refine ⟨_, rfl, ?_⟩
 have n0_ := Aside0.mk (Kd.S_below (zS HO_66) hb)
 have n1_ := Aside0.mk (Kd.R_below (zO HO_893001) hb)
 have n2_ := Aside0.mk (blk_below (g := gb892) (o := .cells #[.int .i64 t903, .slice Ao23 t904.length co23] 42 (0, 0)) (zK BK892) hb)
 have n3_ := Aside0.mk (blk_below (g := gb915) (o := .cells #[.slice (some ad916) ((rd_T52 x10_2 x68_3).f0).length c914_0] 52 (0, 0)) (zK BK915) hb)
 have n4_ := Aside0.mk (Kd.C_below (by repeat (first | (with_reducible exact HR914_0.out) | (with_reducible refine Kd.C_alloc ?_ _) | (with_reducible refine Kd.C_drewN ?_ _) | (with_reducible refine Kd.C_drew ?_) | exact HR914_0.out)) hb)
 have n5_ := Aside0.mk (below_step zB hb)
 clear HO_66
 clear HO_893001
 clear BK892
 clear BK915
 clear HR914_0
 clear HB
 have HO_66 := n0_
 have HO_893001 := n1_
 have BK892 := n2_
 have BK915 := n3_
 have HR914_0 := n4_
 have HB := n5_
 clear n0_ n1_ n2_ n3_ n4_ n5_
 (try clear hb)
 (try clear hb2)
 (try clear hk)
 (try clear hi)
 refine hK.out _ _ ⟨zT BK892 0, zT BK892 1, zT BK915 0, (by obtain ⟨ad_, e_, h_⟩ := Kd.at_int HR914_0.out ji90 (of_eq_true p925) (of_eq_true q925); obtain rfl : ad916 = ad_ := (by injection e_); exact h_)⟩ (fun hHeld => ?_)
 clear hK K
 refine norm_ (a' := ?_) ?_ ?_
 rotate_left
 · show Act.put _ (some 119) _ = _; simp only [Act.put, sA, s0, sS, i64_w, i32_w]; rfl
 refine pu 9 (some 18) (bm 10 1023) HT_ ?_
 refine done_ (done_of HT_.out (by kernel_rfl)) ?_
 try go_wp2
 go_roundg kj52
 case measure => have := HJ5.out; have := HK2.out; have := HK3.out; have := HK4.out; have := HJ52.out; omega
 case rel => exact ⟨(true), (wrap64 (x76_4 + 1)), zR, zR, H', ⟨by have := HJ5.out; have := HK2.out; have := HK3.out; have := HK4.out; have := HJ52.out; omega⟩, ⟨zS HO_66⟩, ⟨zO HO_893001⟩, ⟨zK BK892⟩, ⟨zK BK915⟩, ⟨by repeat (first | (with_reducible exact HR914_0.out) | (with_reducible refine Kd.C_alloc ?_ _) | (with_reducible refine Kd.C_drewN ?_ _) | (with_reducible refine Kd.C_drew ?_) | exact HR914_0.out)⟩, ⟨zB⟩⟩
end Go.Proofs.Ytplcdbhklepkgaa.BS
