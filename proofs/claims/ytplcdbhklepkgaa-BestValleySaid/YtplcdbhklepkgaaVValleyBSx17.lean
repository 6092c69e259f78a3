-- Made by gen.py, a program of this session's, over the kit's print.
import Derived.Test.YtplcdbhklepkgaaVValleyShort
import Derived.Test.YtplcdbhklepkgaaVValleyBSx0
import Derived.Test.YtplcdbhklepkgaaVValleyBSx11
import Derived.Test.YtplcdbhklepkgaaVValleyBSx13
import Derived.Test.YtplcdbhklepkgaaVValleyBSx14
import Derived.Test.YtplcdbhklepkgaaVValleyBSx15
import Derived.Test.YtplcdbhklepkgaaVValleyBSx16
namespace Go.Proofs.Ytplcdbhklepkgaa.BS
open Go.RowKit Go.Proofs.YtplcdbhklepkgaaW.PrintWords Go.Proofs.YtplcdbhklepkgaaW.PrintLast Go.Proofs.YtplcdbhklepkgaaW.PrintMore Go.Proofs.Ytplcdbhklepkgaa.GenWords
attribute [local go_sem] max2_int min2_int max_two min_two max_three min_three max_four min_four   -- for this text's walks alone
set_option linter.unusedVariables false
set_option linter.unusedSimpArgs false

def g34_.f (C : Cmp) (k : Nat) (l0 : List (S77)) (l1 : List Int)  : Option (List Int) := (g38_.f l1).bind fun t710 => ((g6_.f C k t710 l1 l0).bind fun t713 => (some t713))
theorem g34_.mono (C : Cmp) : ∀ a0 a1 k, LeO (g34_.f C k a0 a1) (g34_.f C (k + 1) a0 a1) := by
  intro a0 a1 k
  unfold g34_.f
  repeat' (with_reducible first | exact g6_.mono C _ _ _ _ | exact LeO.refl _ | exact LeO.none _ | refine LeO.ite ?_ ?_ | refine LeO.bind ?_ (fun _ => ?_))
set_option maxHeartbeats 8000000 in
set_option maxRecDepth 100000 in
theorem g34_.calls (C : Cmp) (k : Nat) (A0 : Option Addr) (c0 : Nat) (l0 : List (S77)) (A1 : Option Addr) (c1 : Nat) (l1 : List Int)  (r : List Int) (w : World) (hr0 : Kd.C k77 w A0 l0.length l0) (hc0 : l0.length ≤ c0) (hr1 : Kd.C (Kd.int .i64) w A1 l1.length l1) (hc1 : l1.length ≤ c1) (h : g34_.f C k l0 l1 = some r) :
 Calls Try.prog 49 #[.slice A0 l0.length c0, .slice A1 l1.length c1, .func (.func C.F) #[] #[]] w fun e w' => ∃ v0_ : Value, e = .returned (v0_) ∧ Kd.R (Kd.int .i64) 3 w' w.heap.size (fun _ => True) v0_ r ∧ Below w.heap.size w w' := by
 have hu78 := Try.underlying78
 have hu33 := Try.underlying33
 have HR0 := Aside0.mk hr0
 have HC0 := Aside0.mk hc0
 clear hr0 hc0
 have HR1 := Aside0.mk hr1
 have HC1 := Aside0.mk hc1
 clear hr1 hc1
 have HB := Aside0.mk (Below.refl w.heap.size w)
 have H : ((g38_.f l1).bind fun t710 => ((g6_.f C k t710 l1 l0).bind fun t713 => (some t713))) = some r := h
 clear h
 replace H := Option.bind_eq_some_iff.mp H
 obtain ⟨t710, A40, H⟩ := H
 replace H : ((g6_.f C k t710 l1 l0).bind fun t713 => (some t713)) = some r := H
 have A4 := Aside0.mk A40
 clear A40
 replace H := Option.bind_eq_some_iff.mp H
 obtain ⟨t713, A50, H⟩ := H
 replace H : (some t713) = some r := H
 have A5 := Aside0.mk A50
 clear A50
 obtain rfl := Option.some.inj H
 go_enter Try.func49, Try.ntmps49
 go_wp2_with (first | ((with_reducible refine gate_dst (N := 3) rfl ?_); refine bx 3 (#[.slice A0 l0.length c0]) 78 ?_; intro gb707 hg w6 hbox hb; have n0_ := Aside0.mk (below_step zB hb); have n1_ := Aside0.mk (hbox); have n2_ := Aside0.mk ((zG hg : w.heap.size ≤ gb707)); have n3_ := Aside0.mk ((zG hg : w.heap.size ≤ gb707)); clear HB; have HB := n0_; have BK707 := n1_; have GW707 := n2_; have GE707 := n3_; clear n0_ n1_ n2_ n3_; clear hb hbox hg) | ((with_reducible refine gate_dst (N := 4) rfl ?_); refine bx 4 (#[.slice A1 l1.length c1]) 33 ?_; intro gb708 hg w7 hbox hb; have n0_ := Aside0.mk (blk_below (g := gb707) (o := .cells #[.slice A0 l0.length c0] 78 (0, 0)) (zK BK707) hb); have n1_ := Aside0.mk (below_step zB hb); have n2_ := Aside0.mk (hbox); have n3_ := Aside0.mk ((zG hg : w.heap.size ≤ gb708)); have n4_ := Aside0.mk ((zG hg : w.heap.size ≤ gb708)); have n5_ := Aside0.mk ((by rw [hg]; exact Nat.ne_of_lt (blk_lt (g := gb707) (o := .cells #[.slice A0 l0.length c0] 78 (0, 0)) (zK BK707)) : gb707 ≠ gb708)); have n6_ := Aside0.mk ((by rw [hg]; exact Nat.ne_of_gt (blk_lt (g := gb707) (o := .cells #[.slice A0 l0.length c0] 78 (0, 0)) (zK BK707)) : gb708 ≠ gb707)); clear BK707; clear HB; have BK707 := n0_; have HB := n1_; have BK708 := n2_; have GW708 := n3_; have GE708 := n4_; have NB707_708 := n5_; have NB708_707 := n6_; clear n0_ n1_ n2_ n3_ n4_ n5_ n6_; clear hb hbox hg) | ((with_reducible refine gate_dst (N := 5) rfl ?_); refine bx 5 (#[.func (.func C.F) #[] #[]]) 96 ?_; intro gb709 hg w8 hbox hb; have n0_ := Aside0.mk (blk_below (g := gb707) (o := .cells #[.slice A0 l0.length c0] 78 (0, 0)) (zK BK707) hb); have n1_ := Aside0.mk (blk_below (g := gb708) (o := .cells #[.slice A1 l1.length c1] 33 (0, 0)) (zK BK708) hb); have n2_ := Aside0.mk (below_step zB hb); have n3_ := Aside0.mk (hbox); have n4_ := Aside0.mk ((zG hg : w.heap.size ≤ gb709)); have n5_ := Aside0.mk ((zG hg : w.heap.size ≤ gb709)); have n6_ := Aside0.mk ((by rw [hg]; exact Nat.ne_of_lt (blk_lt (g := gb707) (o := .cells #[.slice A0 l0.length c0] 78 (0, 0)) (zK BK707)) : gb707 ≠ gb709)); have n7_ := Aside0.mk ((by rw [hg]; exact Nat.ne_of_gt (blk_lt (g := gb707) (o := .cells #[.slice A0 l0.length c0] 78 (0, 0)) (zK BK707)) : gb709 ≠ gb707)); have n8_ := Aside0.mk ((by rw [hg]; exact Nat.ne_of_lt (blk_lt (g := gb708) (o := .cells #[.slice A1 l1.length c1] 33 (0, 0)) (zK BK708)) : gb708 ≠ gb709)); have n9_ := Aside0.mk ((by rw [hg]; exact Nat.ne_of_gt (blk_lt (g := gb708) (o := .cells #[.slice A1 l1.length c1] 33 (0, 0)) (zK BK708)) : gb709 ≠ gb708)); clear BK707; clear BK708; clear HB; have BK707 := n0_; have BK708 := n1_; have HB := n2_; have BK709 := n3_; have GW709 := n4_; have GE709 := n5_; have NB707_709 := n6_; have NB709_707 := n7_; have NB708_709 := n8_; have NB709_708 := n9_; clear n0_ n1_ n2_ n3_ n4_ n5_ n6_ n7_ n8_ n9_; clear hb hbox hg; have hnb9 := NB708_707.out; have hnc9 := NB707_708.out; have hnb10 := NB708_709.out; have hnc10 := NB709_708.out; have hcz11_0 : w8.cell? ⟨gb708, 0, none⟩ = some (.slice A1 l1.length c1) := zT BK708 0; have hfz11_0 := blk_frozen BK708.out 0) | ((with_reducible refine gate_callee (f := 62) rfl ?_); refine goesL_ (some 8) rfl rfl Try.func62 (by kernel_rfl) rfl #[.slice A1 l1.length c1] rfl zM ?_; (with_reducible refine (g38_.calls _ _ l1 t710 _ ?side1 ?side2 A4.out).mono ?_); (case side1 => exact zC HR1 HB); (case side2 => exact HC1.out); rintro e w12 ⟨v711, rfl, ho0, hb⟩; refine ⟨_, rfl, ?_⟩; have n0_ := Aside0.mk (Kd.R_lower ho0 (below_size zB)); have n1_ := Aside0.mk (blk_below (g := gb707) (o := .cells #[.slice A0 l0.length c0] 78 (0, 0)) (zK BK707) hb); have n2_ := Aside0.mk (blk_below (g := gb708) (o := .cells #[.slice A1 l1.length c1] 33 (0, 0)) (zK BK708) hb); have n3_ := Aside0.mk (blk_below (g := gb709) (o := .cells #[.func (.func C.F) #[] #[]] 96 (0, 0)) (zK BK709) hb); have n4_ := Aside0.mk (below_step zB hb); clear BK707; clear BK708; clear BK709; clear HB; have HO712 := n0_; have BK707 := n1_; have BK708 := n2_; have BK709 := n3_; have HB := n4_; clear n0_ n1_ n2_ n3_ n4_; (try clear hb); (try clear hb2); (try clear hk); (try clear hi); (try clear ho0); obtain ⟨Ao13, co13, eo13⟩ := Kd.R_slice HO712.out; subst eo13) | ((with_reducible refine gate_callee (f := 61) rfl ?_); refine goesL_ (some 10) rfl rfl Try.func61 (by kernel_rfl) rfl #[.slice Ao13 t710.length co13, .func (.func 63) #[] #[.pointer (some ⟨gb708, 0, none⟩), .pointer (some ⟨gb709, 0, none⟩), .pointer (some ⟨gb707, 0, none⟩)]] rfl zM ?_; (with_reducible refine (g6_.calls C k (fun k_ => some k_ = (.slice Ao13 t710.length co13 : Value).ownBlock) (.slice Ao13 t710.length co13) t710 gb708 gb709 gb707 A1 c1 l1  A0 c0 l0 t713 w _ ?side1 ?side2 ?side3 ?side4 ?side5 ?side6 ?side7 ?side8 ?side9 A5.out).mono ?_); (case side1 => repeat (first | (with_reducible first | exact HB.out | apply below_alloc | apply pw_below_drewN | apply below_drew1 | refine below_set ?_ GE707.out | refine below_set ?_ GE708.out | refine below_set ?_ GE709.out) | exact HB.out)); (case side2 => exact Kd.R_tight rfl HO712.out); (case side3 => exact Kd.C_kept_came (Kd.heap_int .i64) HR1.out zB (fun k_ hs_ => (fun e_ => Kd.R_base HO712.out k_ e_.symm) hs_)); (case side4 => exact HC1.out); (case side5 => exact Kd.C_kept_came k77_heap HR0.out zB (fun k_ hs_ => (fun e_ => Kd.R_base HO712.out k_ e_.symm) hs_)); (case side6 => exact HC0.out); (case side7 => intro W_ hk_; exact blk_kept (zK BK708) hk_ (fun hs_ => (fun e_ => (Kd.R_ne HO712.out BK708.out (by decide)) e_) hs_)); (case side8 => intro W_ hk_; exact blk_kept (zK BK709) hk_ (fun hs_ => (fun e_ => (Kd.R_ne HO712.out BK709.out (by decide)) e_) hs_)); (case side9 => intro W_ hk_; exact blk_kept (zK BK707) hk_ (fun hs_ => (fun e_ => (Kd.R_ne HO712.out BK707.out (by decide)) e_) hs_)); rintro e w14 ⟨v714, rfl, ho0, hb, hkp⟩; refine ⟨_, rfl, ?_⟩; have n0_ := Aside0.mk (blk_kept (zK BK707) hkp (fun hs_ => (fun e_ => (Kd.R_ne HO712.out BK707.out (by decide)) e_) hs_)); have n1_ := Aside0.mk (blk_kept (zK BK708) hkp (fun hs_ => (fun e_ => (Kd.R_ne HO712.out BK708.out (by decide)) e_) hs_)); have n2_ := Aside0.mk (blk_kept (zK BK709) hkp (fun hs_ => (fun e_ => (Kd.R_ne HO712.out BK709.out (by decide)) e_) hs_)); have n3_ := Aside0.mk (Kd.R_mono (ok' := fun k_ => True) ho0 (fun k_ hk_ => trivial)); have n4_ := Aside0.mk (hb); clear BK707; clear BK708; clear BK709; clear HB; clear HO712; have BK707 := n0_; have BK708 := n1_; have BK709 := n2_; have HO715 := n3_; have HB := n4_; clear n0_ n1_ n2_ n3_ n4_; (try clear hb); (try clear hkp); (try clear ho0)))
 go_ret
 exact ⟨_, zE, by (with_reducible repeat (first | apply Kd.R_alloc | apply Kd.R_drewN | apply Kd.R_drew)); exact HO715.out, zB⟩
def g27_.f (k : Nat) (l0 : List (S77)) (l1 : List Int)  : Option (List Int) := g34_.f c_1 k l0 l1
theorem g27_.mono : ∀ a0 a1 k, LeO (g27_.f k a0 a1) (g27_.f (k + 1) a0 a1) := g34_.mono c_1
theorem g27_.calls (k : Nat) (A0 : Option Addr) (c0 : Nat) (l0 : List (S77)) (A1 : Option Addr) (c1 : Nat) (l1 : List Int)  (r : List Int) (w : World) (hr0 : Kd.C k77 w A0 l0.length l0) (hc0 : l0.length ≤ c0) (hr1 : Kd.C (Kd.int .i64) w A1 l1.length l1) (hc1 : l1.length ≤ c1) (h : g27_.f k l0 l1 = some r) :
    Calls Try.prog 49 #[.slice A0 l0.length c0, .slice A1 l1.length c1, .func (.func 54) #[] #[]] w fun e w' => ∃ v0_ : Value, e = .returned (v0_) ∧ Kd.R (Kd.int .i64) 3 w' w.heap.size (fun _ => True) v0_ r ∧ Below w.heap.size w w' :=
  g34_.calls c_1 k A0 c0 l0 A1 c1 l1 r w hr0 hc0 hr1 hc1 h
def g28_.f (k : Nat) (l0 : List (S77)) (l1 : List Int)  : Option (List Int) := g34_.f c_2 k l0 l1
theorem g28_.mono : ∀ a0 a1 k, LeO (g28_.f k a0 a1) (g28_.f (k + 1) a0 a1) := g34_.mono c_2
theorem g28_.calls (k : Nat) (A0 : Option Addr) (c0 : Nat) (l0 : List (S77)) (A1 : Option Addr) (c1 : Nat) (l1 : List Int)  (r : List Int) (w : World) (hr0 : Kd.C k77 w A0 l0.length l0) (hc0 : l0.length ≤ c0) (hr1 : Kd.C (Kd.int .i64) w A1 l1.length l1) (hc1 : l1.length ≤ c1) (h : g28_.f k l0 l1 = some r) :
    Calls Try.prog 49 #[.slice A0 l0.length c0, .slice A1 l1.length c1, .func (.func 56) #[] #[]] w fun e w' => ∃ v0_ : Value, e = .returned (v0_) ∧ Kd.R (Kd.int .i64) 3 w' w.heap.size (fun _ => True) v0_ r ∧ Below w.heap.size w w' :=
  g34_.calls c_2 k A0 c0 l0 A1 c1 l1 r w hr0 hc0 hr1 hc1 h
def g29_.f (k : Nat) (l0 : List (S77)) (l1 : List Int)  : Option (List Int) := g34_.f c_3 k l0 l1
theorem g29_.mono : ∀ a0 a1 k, LeO (g29_.f k a0 a1) (g29_.f (k + 1) a0 a1) := g34_.mono c_3
theorem g29_.calls (k : Nat) (A0 : Option Addr) (c0 : Nat) (l0 : List (S77)) (A1 : Option Addr) (c1 : Nat) (l1 : List Int)  (r : List Int) (w : World) (hr0 : Kd.C k77 w A0 l0.length l0) (hc0 : l0.length ≤ c0) (hr1 : Kd.C (Kd.int .i64) w A1 l1.length l1) (hc1 : l1.length ≤ c1) (h : g29_.f k l0 l1 = some r) :
    Calls Try.prog 49 #[.slice A0 l0.length c0, .slice A1 l1.length c1, .func (.func 57) #[] #[]] w fun e w' => ∃ v0_ : Value, e = .returned (v0_) ∧ Kd.R (Kd.int .i64) 3 w' w.heap.size (fun _ => True) v0_ r ∧ Below w.heap.size w w' :=
  g34_.calls c_3 k A0 c0 l0 A1 c1 l1 r w hr0 hc0 hr1 hc1 h
def g30_.f (k : Nat) (l0 : List (S77)) (l1 : List Int)  : Option (List Int) := g34_.f c_4 k l0 l1
theorem g30_.mono : ∀ a0 a1 k, LeO (g30_.f k a0 a1) (g30_.f (k + 1) a0 a1) := g34_.mono c_4
theorem g30_.calls (k : Nat) (A0 : Option Addr) (c0 : Nat) (l0 : List (S77)) (A1 : Option Addr) (c1 : Nat) (l1 : List Int)  (r : List Int) (w : World) (hr0 : Kd.C k77 w A0 l0.length l0) (hc0 : l0.length ≤ c0) (hr1 : Kd.C (Kd.int .i64) w A1 l1.length l1) (hc1 : l1.length ≤ c1) (h : g30_.f k l0 l1 = some r) :
    Calls Try.prog 49 #[.slice A0 l0.length c0, .slice A1 l1.length c1, .func (.func 59) #[] #[]] w fun e w' => ∃ v0_ : Value, e = .returned (v0_) ∧ Kd.R (Kd.int .i64) 3 w' w.heap.size (fun _ => True) v0_ r ∧ Below w.heap.size w w' :=
  g34_.calls c_4 k A0 c0 l0 A1 c1 l1 r w hr0 hc0 hr1 hc1 h
/-! ### best_left: function 43 -/
mutual
def best_left.l0 : Nat → List (S77) → List Int → Int → Int → Option (List Int)
  | 0, _, _, _, _ => none
  | k + 1, x0, x3, x8, x9 => if x9 < x8 then (if x3.length < 17592186044416 then (best_left.l0 k x0 (x3 ++ [x9]) x8 (wrap64 (x9 + 1))) else (none)) else ((best_steps.f).bind fun t719 => (best_left.l1 k x0 x3 t719 (t719.length : Int) 0))
def best_left.l1 : Nat → List (S77) → List Int → List Int → Int → Int → Option (List Int)
  | 0, _, _, _, _, _ => none
  | k + 1, x0, x3, x17, x18, x19 => if x19 < x18 then (if 0 ≤ x19 then (if x19 < (x17.length : Int) then (if rd x17 x19 = 54 then ((g27_.f k x0 x3).bind fun t723 => (best_left.l1 k x0 t723 x17 x18 (wrap64 (x19 + 1)))) else (if rd x17 x19 = 56 then ((g28_.f k x0 x3).bind fun t727 => (best_left.l1 k x0 t727 x17 x18 (wrap64 (x19 + 1)))) else (if rd x17 x19 = 57 then ((g29_.f k x0 x3).bind fun t731 => (best_left.l1 k x0 t731 x17 x18 (wrap64 (x19 + 1)))) else (if rd x17 x19 = 59 then ((g30_.f k x0 x3).bind fun t735 => (best_left.l1 k x0 t735 x17 x18 (wrap64 (x19 + 1)))) else (none))))) else (none)) else (none)) else (some x3)
end
def best_left.f (k : Nat) (l0 : List (S77)) : Option (List Int) := best_left.l0 k l0 ([] : List Int) (l0.length : Int) 0
theorem best_left.mono_l : ∀ k, (∀ y0 y1 y2 y3, LeO (best_left.l0 k y0 y1 y2 y3) (best_left.l0 (k + 1) y0 y1 y2 y3)) ∧ (∀ y0 y1 y2 y3 y4, LeO (best_left.l1 k y0 y1 y2 y3 y4) (best_left.l1 (k + 1) y0 y1 y2 y3 y4))
  | 0 => ⟨fun _ _ _ _ r h => by simp [best_left.l0] at h, fun _ _ _ _ _ r h => by simp [best_left.l1] at h⟩
  | k + 1 => by
    obtain ⟨ih0, ih1⟩ := best_left.mono_l k
    refine ⟨?_, ?_⟩
    · intro y0 y1 y2 y3
      unfold best_left.l0
      repeat' (with_reducible first | exact ih0 _ _ _ _ | exact ih1 _ _ _ _ _ | exact g27_.mono _ _ _ | exact g28_.mono _ _ _ | exact g29_.mono _ _ _ | exact g30_.mono _ _ _ | exact LeO.refl _ | exact LeO.none _ | refine LeO.ite ?_ ?_ | refine LeO.bind ?_ (fun _ => ?_))
    · intro y0 y1 y2 y3 y4
      unfold best_left.l1
      repeat' (with_reducible first | exact ih0 _ _ _ _ | exact ih1 _ _ _ _ _ | exact g27_.mono _ _ _ | exact g28_.mono _ _ _ | exact g29_.mono _ _ _ | exact g30_.mono _ _ _ | exact LeO.refl _ | exact LeO.none _ | refine LeO.ite ?_ ?_ | refine LeO.bind ?_ (fun _ => ?_))
theorem best_left.mono : ∀ a0 k, LeO (best_left.f k a0) (best_left.f (k + 1) a0) := by
  intro a0 k
  obtain ⟨ih0, ih1⟩ := best_left.mono_l k
  unfold best_left.f
  repeat' (with_reducible first | exact ih0 _ _ _ _ | exact ih1 _ _ _ _ _ | exact g27_.mono _ _ _ | exact g28_.mono _ _ _ | exact g29_.mono _ _ _ | exact g30_.mono _ _ _ | exact LeO.refl _ | exact LeO.none _ | refine LeO.ite ?_ ?_ | refine LeO.bind ?_ (fun _ => ?_))
set_option maxHeartbeats 8000000 in
set_option maxRecDepth 100000 in
theorem best_left.calls (k : Nat) (A0 : Option Addr) (c0 : Nat) (l0 : List (S77)) (r : List Int) (w : World) (hr0 : Kd.C k77 w A0 l0.length l0) (hc0 : l0.length ≤ c0) (h : best_left.f k l0 = some r) :
 Calls Try.prog 43 #[.slice A0 l0.length c0] w fun e w' => ∃ v0_ : Value, e = .returned (v0_) ∧ Kd.R (Kd.int .i64) 3 w' w.heap.size (fun _ => True) v0_ r ∧ Below w.heap.size w w' := by
 have HR0 := Aside0.mk hr0
 have HC0 := Aside0.mk hc0
 clear hr0 hc0
 have HB := Aside0.mk (Below.refl w.heap.size w)
 have H : (best_left.l0 k l0 ([] : List Int) (l0.length : Int) 0) = some r := h
 clear h
 have H' := Aside0.mk H
 clear H
 go_enter Try.func43, Try.ntmps43
 go_wp2
 go_loopg [3, 9] k (fun kq v3 v9 w' => ∃ (x3_1 : List Int) (x9_1 : Int), v9 = .int .i64 x9_1 ∧ Aside0 (best_left.l0 kq l0 x3_1 (l0.length : Int) x9_1 = some r) ∧ Aside0 (kq ≤ k) ∧ Aside0 (Kd.R (Kd.int .i64) 3 w' w.heap.size (fun _ => True) v3 x3_1) ∧ Aside0 (Below w.heap.size w w'))
 case atStart => exact ⟨(([] : List Int)), (0), zR, H', ⟨Nat.le_refl _⟩, ⟨by first | exact Kd.R_nil _ _ _ _ _ | exact Kd.N_nil _ _ _ _ _ | exact Kd.V_nil _ _ _ _ _ | exact Kd.Q_nil _ _ _ _ _ | exact Kd.S_nil _ _ _ _ _⟩, ⟨zB⟩⟩
 clear H'
 obtain ⟨x3_1, x9_1, rfl, HA, HK1, HO_3, HB⟩ := hrel
 rcases gk with _ | k1
 · exact absurd HA.out (by simp [best_left.l0])
 have H := HA.out
 clear HA
 simp only [best_left.l0] at H
 by_cases c2 : x9_1 < (l0.length : Int)
 ·
  rw [if_pos c2] at H
  have c2b0 : decide (x9_1 < (l0.length : Int)) = true := decide_eq_true c2
  clear c2
  by_cases c3 : x3_1.length < 17592186044416
  rotate_left
  · rw [if_neg c3] at H; exact absurd H (by simp)
  rw [if_pos c3] at H
  have LMc3 := Aside0.mk c3
  clear c3
  obtain ⟨y716, hy716⟩ : ∃ y_ : List Int, y_ = (x3_1 ++ [x9_1]) := ⟨_, rfl⟩
  replace H : (best_left.l0 k1 l0 y716 (l0.length : Int) (wrap64 (x9_1 + 1))) = some r := by first | (rw [hy716]; with_reducible exact H) | (have H2_ := (Option.bind_some _ _).symm.trans H; rw [hy716]; with_reducible exact H2_) | (have H2_ := (Option.bind_some _ _).symm.trans H; with_reducible exact H2_) | with_reducible exact H | (rw [hy716]; exact H) | exact H
  have Ny716 := Aside0.mk hy716
  clear hy716
  have H' := Aside0.mk H
  clear H
  go_wp2_with (first | ((with_reducible refine gate_builtin (b := .append) (xs := #[.tmp 12, .tmp 14]) rfl ?_); at_builtin; refine Kd.R_append (Kd.int .i64) (w0 := w) w.heap.size rfl (.tmp 12) (.tmp 14) 33 3 (.int .i64 0) 8 rfl Try.underlying33 info3 rfl (by decide) (by omega) u3 x3_1 x9_1 [.int .i64 x9_1] (fun _ => True) (fun _ => False) rfl rfl ?aP (fun _ hk => hk.elim) ?aF ?aO ?aB ?aS ?aL ?_; (case aP => exact rfl); (case aB => exact zB); (case aF => exact (fun _ _ => trivial)); (case aO => exact (zO HO_3)); (case aS => exact (below_size zB)); (case aL => have := LMc3.out; omega); intro v717 w4 ho hb hg hat; rw [← Ny716.out] at ho; have n0_ := Aside0.mk (hb); have n1_ := Aside0.mk (ho); clear HB; clear HO_3; have HB := n0_; have HO718 := n1_; clear n0_ n1_; clear ho hb hg hat))
  go_roundg k1
  case measure => have := HK1.out; omega
  case rel => exact ⟨(y716), (wrap64 (x9_1 + 1)), zR, H', ⟨by have := HK1.out; omega⟩, ⟨zO HO718⟩, ⟨zB⟩⟩
 rw [if_neg c2] at H
 have c2b0 : decide (x9_1 < (l0.length : Int)) = false := decide_eq_false c2
 clear c2
 replace H := Option.bind_eq_some_iff.mp H
 obtain ⟨t719, A50, H⟩ := H
 replace H : (best_left.l1 k1 l0 x3_1 t719 (t719.length : Int) 0) = some r := H
 have A5 := Aside0.mk A50
 clear A50
 have H' := Aside0.mk H
 clear H
 go_wp2_with (first | ((with_reducible refine gate_callee (f := 48) rfl ?_); refine goesL_ (some 17) rfl rfl Try.func48 (by kernel_rfl) rfl #[] rfl zM ?_; (with_reducible refine (best_steps.calls  t719 _ A5.out).mono ?_); rintro e w6 ⟨v720, rfl, ho0, hb⟩; refine ⟨_, rfl, ?_⟩; have n0_ := Aside0.mk (Kd.R_below (zO HO_3) hb); have n1_ := Aside0.mk (Kd.R_lower ho0 (below_size zB)); have n2_ := Aside0.mk (below_step zB hb); clear HO_3; clear HB; have HO_3 := n0_; have HO721 := n1_; have HB := n2_; clear n0_ n1_ n2_; (try clear hb); (try clear hb2); (try clear hk); (try clear hi); (try clear ho0); obtain ⟨Ao7, co7, eo7⟩ := Kd.R_slice HO721.out; subst eo7))
 go_loopg [3, 19] k1 (fun kq v3 v19 w' => ∃ (x3_2 : List Int) (x19_2 : Int), v19 = .int .i64 x19_2 ∧ Aside0 (best_left.l1 kq l0 x3_2 t719 (t719.length : Int) x19_2 = some r) ∧ Aside0 (kq ≤ k1) ∧ Aside0 (Kd.R (Kd.int .i64) 3 w' w.heap.size (fun _ => True) v3 x3_2) ∧ Aside0 (Kd.R Kd.fn 96 w' w.heap.size (fun _ => True) (.slice Ao7 t719.length co7) t719) ∧ Aside0 (Below w.heap.size w w'))
 case atStart => exact ⟨(x3_1), (0), zR, H', ⟨Nat.le_refl _⟩, ⟨zO HO_3⟩, ⟨zO HO721⟩, ⟨zB⟩⟩
 clear H'
 try clear c2
 try clear c2b0
 try clear p2
 try clear c3
 try clear c4
 try clear p6
 obtain ⟨x3_2, x19_2, rfl, HA, HK2, HO_3, HO_17, HB⟩ := hrel
 rcases gk with _ | k2
 · exact absurd HA.out (by simp [best_left.l1])
 have H := HA.out
 clear HA
 simp only [best_left.l1] at H
 by_cases c8 : x19_2 < (t719.length : Int)
 rotate_left
 ·
  rw [if_neg c8] at H
  have c8b0 : decide (x19_2 < (t719.length : Int)) = false := decide_eq_false c8
  clear c8
  obtain rfl := Option.some.inj H
  go_wp2
  go_ret
  exact ⟨_, zE, by (with_reducible repeat (first | apply Kd.R_alloc | apply Kd.R_drewN | apply Kd.R_drew)); exact HO_3.out, zB⟩
 rw [if_pos c8] at H
 have c8b0 : decide (x19_2 < (t719.length : Int)) = true := decide_eq_true c8
 clear c8
 by_cases c9 : 0 ≤ x19_2
 rotate_left
 · rw [if_neg c9] at H; exact absurd H (by simp)
 rw [if_pos c9] at H
 have c9b0 : decide (0 ≤ x19_2) = true := decide_eq_true c9
 clear c9
 by_cases c10 : x19_2 < (t719.length : Int)
 rotate_left
 · rw [if_neg c10] at H; exact absurd H (by simp)
 rw [if_pos c10] at H
 have c10b0 : decide (x19_2 < (t719.length : Int)) = true := decide_eq_true c10
 clear c10
 by_cases c11 : rd t719 x19_2 = 54
 ·
  rw [if_pos c11] at H
  have c11b0 : (rd t719 x19_2 == 54) = true := beq_iff_eq.mpr c11
  have c11b1 : (rd t719 x19_2 != 54) = false := bne_eq_false_iff_eq.mpr c11
  clear c11
  replace H := Option.bind_eq_some_iff.mp H
  obtain ⟨t723, A120, H⟩ := H
  replace H : (best_left.l1 k2 l0 t723 t719 (t719.length : Int) (wrap64 (x19_2 + 1))) = some r := H
  have A12 := Aside0.mk A120
  clear A120
  have H' := Aside0.mk H
  clear H
  have p722 : 0 ≤ (x19_2 : Int) := od
  have q722 : x19_2 < (t719.length : Int) := od
  obtain ⟨ad722, e722, hx722_0⟩ := Kd.at_fn (Kd.R_reads' HO_17.out).2.2 x19_2 p722 q722
  replace hx722_0 := hx722_0.trans (by rw [show rd t719 x19_2 = 54 from by first | exact beq_iff_eq.mp (by assumption) | (exact of_decide_eq_true (by assumption))]; rfl : _ = some (.func (.func 54) #[] #[]))
  cases e722
  replace p722 := eq_true p722
  replace q722 := eq_true q722
  obtain ⟨Ao13, co13, eo13⟩ := Kd.R_slice HO_3.out
  subst eo13
  go_wp2_with (first | ((with_reducible refine gate_callee (f := 49) rfl ?_); refine goesL_ (some 26) rfl rfl Try.func49 (by kernel_rfl) rfl #[.slice A0 l0.length c0, .slice Ao13 x3_2.length co13, .func (.func 54) #[] #[]] rfl zM ?_; (with_reducible refine (g27_.calls k2 _ _ l0 _ _ x3_2  t723 _ ?side1 ?side2 ?side3 ?side4 A12.out).mono ?_); (case side1 => exact zC HR0 HB); (case side2 => exact HC0.out); (case side3 => repeat (first | exact (Kd.R_reads' HO_3.out).2.2 | (with_reducible refine Kd.C_alloc ?_ _) | (with_reducible refine Kd.C_drewN ?_ _) | (with_reducible refine Kd.C_drew ?_))); (case side4 => exact (Kd.R_reads' HO_3.out).2.1); rintro e w14 ⟨v724, rfl, ho0, hb⟩; refine ⟨_, rfl, ?_⟩; have n0_ := Aside0.mk (Kd.R_elder' (zO HO_3) (Kd.R_base ho0) hb); have n1_ := Aside0.mk (Kd.R_below (zO HO_17) hb); have n2_ := Aside0.mk (Kd.R_lower (Kd.R_new' ho0 (Kd.R_lt (zO HO_3))) (below_size zB)); have n3_ := Aside0.mk (below_step zB hb); clear HO_3; clear HO_17; clear HB; have HO_3 := n0_; have HO_17 := n1_; have HO725 := n2_; have HB := n3_; clear n0_ n1_ n2_ n3_; (try clear hb); (try clear hb2); (try clear hk); (try clear hi); (try clear ho0)))
  go_roundg k2
  case measure => have := HK1.out; have := HK2.out; omega
  case rel => exact ⟨(t723), (wrap64 (x19_2 + 1)), zR, H', ⟨by have := HK1.out; have := HK2.out; omega⟩, ⟨by (with_reducible repeat (first | apply Kd.R_alloc | apply Kd.R_drewN | apply Kd.R_drew)); exact Kd.R_mono HO725.out (fun _ hk => trivial)⟩, ⟨zO HO_17⟩, ⟨zB⟩⟩
 rw [if_neg c11] at H
 have c11b0 : (rd t719 x19_2 == 54) = false := beq_eq_false_iff_ne.mpr c11
 have c11b1 : (rd t719 x19_2 != 54) = true := bne_iff_ne.mpr c11
 by_cases c15 : rd t719 x19_2 = 56
 ·
  rw [if_pos c15] at H
  have c15b0 : (rd t719 x19_2 == 56) = true := beq_iff_eq.mpr c15
  have c15b1 : (rd t719 x19_2 != 56) = false := bne_eq_false_iff_eq.mpr c15
  clear c15
  replace H := Option.bind_eq_some_iff.mp H
  obtain ⟨t727, A160, H⟩ := H
  replace H : (best_left.l1 k2 l0 t727 t719 (t719.length : Int) (wrap64 (x19_2 + 1))) = some r := H
  have A16 := Aside0.mk A160
  clear A160
  have H' := Aside0.mk H
  clear H
  have p726 : 0 ≤ (x19_2 : Int) := od
  have q726 : x19_2 < (t719.length : Int) := od
  obtain ⟨ad726, e726, hx726_0⟩ := Kd.at_fn (Kd.R_reads' HO_17.out).2.2 x19_2 p726 q726
  replace hx726_0 := hx726_0.trans (by rw [show rd t719 x19_2 = 56 from by first | exact beq_iff_eq.mp (by assumption) | (exact of_decide_eq_true (by assumption))]; rfl : _ = some (.func (.func 56) #[] #[]))
  cases e726
  replace p726 := eq_true p726
  replace q726 := eq_true q726
  obtain ⟨Ao17, co17, eo17⟩ := Kd.R_slice HO_3.out
  subst eo17
  go_wp2_with (first | ((with_reducible refine gate_callee (f := 49) rfl ?_); refine goesL_ (some 26) rfl rfl Try.func49 (by kernel_rfl) rfl #[.slice A0 l0.length c0, .slice Ao17 x3_2.length co17, .func (.func 56) #[] #[]] rfl zM ?_; (with_reducible refine (g28_.calls k2 _ _ l0 _ _ x3_2  t727 _ ?side1 ?side2 ?side3 ?side4 A16.out).mono ?_); (case side1 => exact zC HR0 HB); (case side2 => exact HC0.out); (case side3 => repeat (first | exact (Kd.R_reads' HO_3.out).2.2 | (with_reducible refine Kd.C_alloc ?_ _) | (with_reducible refine Kd.C_drewN ?_ _) | (with_reducible refine Kd.C_drew ?_))); (case side4 => exact (Kd.R_reads' HO_3.out).2.1); rintro e w18 ⟨v728, rfl, ho0, hb⟩; refine ⟨_, rfl, ?_⟩; have n0_ := Aside0.mk (Kd.R_elder' (zO HO_3) (Kd.R_base ho0) hb); have n1_ := Aside0.mk (Kd.R_below (zO HO_17) hb); have n2_ := Aside0.mk (Kd.R_lower (Kd.R_new' ho0 (Kd.R_lt (zO HO_3))) (below_size zB)); have n3_ := Aside0.mk (below_step zB hb); clear HO_3; clear HO_17; clear HB; have HO_3 := n0_; have HO_17 := n1_; have HO729 := n2_; have HB := n3_; clear n0_ n1_ n2_ n3_; (try clear hb); (try clear hb2); (try clear hk); (try clear hi); (try clear ho0)))
  go_roundg k2
  case measure => have := HK1.out; have := HK2.out; omega
  case rel => exact ⟨(t727), (wrap64 (x19_2 + 1)), zR, H', ⟨by have := HK1.out; have := HK2.out; omega⟩, ⟨by (with_reducible repeat (first | apply Kd.R_alloc | apply Kd.R_drewN | apply Kd.R_drew)); exact Kd.R_mono HO729.out (fun _ hk => trivial)⟩, ⟨zO HO_17⟩, ⟨zB⟩⟩
 rw [if_neg c15] at H
 have c15b0 : (rd t719 x19_2 == 56) = false := beq_eq_false_iff_ne.mpr c15
 have c15b1 : (rd t719 x19_2 != 56) = true := bne_iff_ne.mpr c15
 by_cases c19 : rd t719 x19_2 = 57
 ·
  rw [if_pos c19] at H
  have c19b0 : (rd t719 x19_2 == 57) = true := beq_iff_eq.mpr c19
  have c19b1 : (rd t719 x19_2 != 57) = false := bne_eq_false_iff_eq.mpr c19
  clear c19
  replace H := Option.bind_eq_some_iff.mp H
  obtain ⟨t731, A200, H⟩ := H
  replace H : (best_left.l1 k2 l0 t731 t719 (t719.length : Int) (wrap64 (x19_2 + 1))) = some r := H
  have A20 := Aside0.mk A200
  clear A200
  have H' := Aside0.mk H
  clear H
  have p730 : 0 ≤ (x19_2 : Int) := od
  have q730 : x19_2 < (t719.length : Int) := od
  obtain ⟨ad730, e730, hx730_0⟩ := Kd.at_fn (Kd.R_reads' HO_17.out).2.2 x19_2 p730 q730
  replace hx730_0 := hx730_0.trans (by rw [show rd t719 x19_2 = 57 from by first | exact beq_iff_eq.mp (by assumption) | (exact of_decide_eq_true (by assumption))]; rfl : _ = some (.func (.func 57) #[] #[]))
  cases e730
  replace p730 := eq_true p730
  replace q730 := eq_true q730
  obtain ⟨Ao21, co21, eo21⟩ := Kd.R_slice HO_3.out
  subst eo21
  go_wp2_with (first | ((with_reducible refine gate_callee (f := 49) rfl ?_); refine goesL_ (some 26) rfl rfl Try.func49 (by kernel_rfl) rfl #[.slice A0 l0.length c0, .slice Ao21 x3_2.length co21, .func (.func 57) #[] #[]] rfl zM ?_; (with_reducible refine (g29_.calls k2 _ _ l0 _ _ x3_2  t731 _ ?side1 ?side2 ?side3 ?side4 A20.out).mono ?_); (case side1 => exact zC HR0 HB); (case side2 => exact HC0.out); (case side3 => repeat (first | exact (Kd.R_reads' HO_3.out).2.2 | (with_reducible refine Kd.C_alloc ?_ _) | (with_reducible refine Kd.C_drewN ?_ _) | (with_reducible refine Kd.C_drew ?_))); (case side4 => exact (Kd.R_reads' HO_3.out).2.1); rintro e w22 ⟨v732, rfl, ho0, hb⟩; refine ⟨_, rfl, ?_⟩; have n0_ := Aside0.mk (Kd.R_elder' (zO HO_3) (Kd.R_base ho0) hb); have n1_ := Aside0.mk (Kd.R_below (zO HO_17) hb); have n2_ := Aside0.mk (Kd.R_lower (Kd.R_new' ho0 (Kd.R_lt (zO HO_3))) (below_size zB)); have n3_ := Aside0.mk (below_step zB hb); clear HO_3; clear HO_17; clear HB; have HO_3 := n0_; have HO_17 := n1_; have HO733 := n2_; have HB := n3_; clear n0_ n1_ n2_ n3_; (try clear hb); (try clear hb2); (try clear hk); (try clear hi); (try clear ho0)))
  go_roundg k2
  case measure => have := HK1.out; have := HK2.out; omega
  case rel => exact ⟨(t731), (wrap64 (x19_2 + 1)), zR, H', ⟨by have := HK1.out; have := HK2.out; omega⟩, ⟨by (with_reducible repeat (first | apply Kd.R_alloc | apply Kd.R_drewN | apply Kd.R_drew)); exact Kd.R_mono HO733.out (fun _ hk => trivial)⟩, ⟨zO HO_17⟩, ⟨zB⟩⟩
 rw [if_neg c19] at H
 have c19b0 : (rd t719 x19_2 == 57) = false := beq_eq_false_iff_ne.mpr c19
 have c19b1 : (rd t719 x19_2 != 57) = true := bne_iff_ne.mpr c19
 by_cases c23 : rd t719 x19_2 = 59
 rotate_left
 · rw [if_neg c23] at H; exact absurd H (by simp)
 rw [if_pos c23] at H
 have c23b0 : (rd t719 x19_2 == 59) = true := beq_iff_eq.mpr c23
 have c23b1 : (rd t719 x19_2 != 59) = false := bne_eq_false_iff_eq.mpr c23
 clear c23
 replace H := Option.bind_eq_some_iff.mp H
 obtain ⟨t735, A240, H⟩ := H
 replace H : (best_left.l1 k2 l0 t735 t719 (t719.length : Int) (wrap64 (x19_2 + 1))) = some r := H
 have A24 := Aside0.mk A240
 clear A240
 have H' := Aside0.mk H
 clear H
 have p734 : 0 ≤ (x19_2 : Int) := od
 have q734 : x19_2 < (t719.length : Int) := od
 obtain ⟨ad734, e734, hx734_0⟩ := Kd.at_fn (Kd.R_reads' HO_17.out).2.2 x19_2 p734 q734
 replace hx734_0 := hx734_0.trans (by rw [show rd t719 x19_2 = 59 from by first | exact beq_iff_eq.mp (by assumption) | (exact of_decide_eq_true (by assumption))]; rfl : _ = some (.func (.func 59) #[] #[]))
 cases e734
 replace p734 := eq_true p734
 replace q734 := eq_true q734
 obtain ⟨Ao25, co25, eo25⟩ := Kd.R_slice HO_3.out
 subst eo25
 go_wp2_with (first | ((with_reducible refine gate_callee (f := 49) rfl ?_); refine goesL_ (some 26) rfl rfl Try.func49 (by kernel_rfl) rfl #[.slice A0 l0.length c0, .slice Ao25 x3_2.length co25, .func (.func 59) #[] #[]] rfl zM ?_; (with_reducible refine (g30_.calls k2 _ _ l0 _ _ x3_2  t735 _ ?side1 ?side2 ?side3 ?side4 A24.out).mono ?_); (case side1 => exact zC HR0 HB); (case side2 => exact HC0.out); (case side3 => repeat (first | exact (Kd.R_reads' HO_3.out).2.2 | (with_reducible refine Kd.C_alloc ?_ _) | (with_reducible refine Kd.C_drewN ?_ _) | (with_reducible refine Kd.C_drew ?_))); (case side4 => exact (Kd.R_reads' HO_3.out).2.1); rintro e w26 ⟨v736, rfl, ho0, hb⟩; refine ⟨_, rfl, ?_⟩; have n0_ := Aside0.mk (Kd.R_elder' (zO HO_3) (Kd.R_base ho0) hb); have n1_ := Aside0.mk (Kd.R_below (zO HO_17) hb); have n2_ := Aside0.mk (Kd.R_lower (Kd.R_new' ho0 (Kd.R_lt (zO HO_3))) (below_size zB)); have n3_ := Aside0.mk (below_step zB hb); clear HO_3; clear HO_17; clear HB; have HO_3 := n0_; have HO_17 := n1_; have HO737 := n2_; have HB := n3_; clear n0_ n1_ n2_ n3_; (try clear hb); (try clear hb2); (try clear hk); (try clear hi); (try clear ho0)))
 go_roundg k2
 case measure => have := HK1.out; have := HK2.out; omega
 case rel => exact ⟨(t735), (wrap64 (x19_2 + 1)), zR, H', ⟨by have := HK1.out; have := HK2.out; omega⟩, ⟨by (with_reducible repeat (first | apply Kd.R_alloc | apply Kd.R_drewN | apply Kd.R_drew)); exact Kd.R_mono HO737.out (fun _ hk => trivial)⟩, ⟨zO HO_17⟩, ⟨zB⟩⟩
/-! ### best_Choose: function 31 -/
def best_Choose.f (k : Nat) (l0 : List (S77)) : Option (Int × Int) := (best_wrong.f k l0).bind fun t738 => (if t738 = 0 then (if (l0.length : Int) = 0 then (some (0, 4)) else ((best_left.f k l0).bind fun t739 => (if 0 < (t739.length : Int) then (some (rd t739 0, 0)) else (none)))) else (some (0, t738)))
theorem best_Choose.mono : ∀ a0 k, LeO (best_Choose.f k a0) (best_Choose.f (k + 1) a0) := by
  intro a0 k
  unfold best_Choose.f
  repeat' (with_reducible first | exact best_left.mono _ _ | exact best_wrong.mono _ _ | exact LeO.refl _ | exact LeO.none _ | refine LeO.ite ?_ ?_ | refine LeO.bind ?_ (fun _ => ?_))
set_option maxHeartbeats 8000000 in
set_option maxRecDepth 100000 in
theorem best_Choose.calls (k : Nat) (A0 : Option Addr) (c0 : Nat) (l0 : List (S77)) (r1 : Int) (r2 : Int) (w : World) (hr0 : Kd.C k77 w A0 l0.length l0) (hc0 : l0.length ≤ c0) (h : best_Choose.f k l0 = some (r1, r2)) :
 Calls Try.prog 31 #[.slice A0 l0.length c0] w fun e w' => e = .returned (.tuple #[.int .i64 r1, .int .i64 r2]) ∧ Below w.heap.size w w' := by
 have hu3 := Try.underlying3
 have HR0 := Aside0.mk hr0
 have HC0 := Aside0.mk hc0
 clear hr0 hc0
 have HB := Aside0.mk (Below.refl w.heap.size w)
 have H : ((best_wrong.f k l0).bind fun t738 => (if t738 = 0 then (if (l0.length : Int) = 0 then (some (0, 4)) else ((best_left.f k l0).bind fun t739 => (if 0 < (t739.length : Int) then (some (rd t739 0, 0)) else (none)))) else (some (0, t738)))) = some (r1, r2) := h
 clear h
 replace H := Option.bind_eq_some_iff.mp H
 obtain ⟨t738, A20, H⟩ := H
 replace H : (if t738 = 0 then (if (l0.length : Int) = 0 then (some (0, 4)) else ((best_left.f k l0).bind fun t739 => (if 0 < (t739.length : Int) then (some (rd t739 0, 0)) else (none)))) else (some (0, t738))) = some (r1, r2) := H
 have A2 := Aside0.mk A20
 clear A20
 by_cases c3 : t738 = 0
 rotate_left
 ·
  rw [if_neg c3] at H
  have c3b0 : (t738 == 0) = false := beq_eq_false_iff_ne.mpr c3
  have c3b1 : (t738 != 0) = true := bne_iff_ne.mpr c3
  simp only [Option.some.injEq, Prod.mk.injEq] at H
  obtain ⟨rfl, rfl⟩ := H
  go_enter Try.func31, Try.ntmps31
  go_wp2_with (first | ((with_reducible refine gate_callee (f := 42) rfl ?_); refine goesL_ (some 6) rfl rfl Try.func42 (by kernel_rfl) rfl #[.slice A0 l0.length c0] rfl zM ?_; (with_reducible refine (best_wrong.calls k _ _ l0 t738 _ ?side1 ?side2 A2.out).mono ?_); (case side1 => repeat (first | exact HR0.out | (with_reducible refine Kd.C_alloc ?_ _) | (with_reducible refine Kd.C_drewN ?_ _) | (with_reducible refine Kd.C_drew ?_))); (case side2 => exact HC0.out); rintro e w11 ⟨rfl, hb⟩; refine ⟨_, rfl, ?_⟩; have n0_ := Aside0.mk (below_step zB hb); clear HB; have HB := n0_; clear n0_; (try clear hb); (try clear hb2); (try clear hk); (try clear hi)))
  go_ret2
  exact ⟨zE, zB⟩
 rw [if_pos c3] at H
 have c3b0 : (t738 == 0) = true := beq_iff_eq.mpr c3
 have c3b1 : (t738 != 0) = false := bne_eq_false_iff_eq.mpr c3
 clear c3
 by_cases c4 : (l0.length : Int) = 0
 ·
  rw [if_pos c4] at H
  have c4b0 : ((l0.length : Int) == 0) = true := beq_iff_eq.mpr c4
  have c4b1 : ((l0.length : Int) != 0) = false := bne_eq_false_iff_eq.mpr c4
  clear c4
  simp only [Option.some.injEq, Prod.mk.injEq] at H
  obtain ⟨rfl, rfl⟩ := H
  go_enter Try.func31, Try.ntmps31
  go_wp2_with (first | ((with_reducible refine gate_callee (f := 42) rfl ?_); refine goesL_ (some 6) rfl rfl Try.func42 (by kernel_rfl) rfl #[.slice A0 l0.length c0] rfl zM ?_; (with_reducible refine (best_wrong.calls k _ _ l0 t738 _ ?side1 ?side2 A2.out).mono ?_); (case side1 => repeat (first | exact HR0.out | (with_reducible refine Kd.C_alloc ?_ _) | (with_reducible refine Kd.C_drewN ?_ _) | (with_reducible refine Kd.C_drew ?_))); (case side2 => exact HC0.out); rintro e w5 ⟨rfl, hb⟩; refine ⟨_, rfl, ?_⟩; have n0_ := Aside0.mk (below_step zB hb); clear HB; have HB := n0_; clear n0_; (try clear hb); (try clear hb2); (try clear hk); (try clear hi)))
  go_ret2
  exact ⟨zE, zB⟩
 rw [if_neg c4] at H
 have c4b0 : ((l0.length : Int) == 0) = false := beq_eq_false_iff_ne.mpr c4
 have c4b1 : ((l0.length : Int) != 0) = true := bne_iff_ne.mpr c4
 have c4b2 : ¬ (l0 = []) := fun h_ => c4 (by rw [h_]; rfl)
 replace H := Option.bind_eq_some_iff.mp H
 obtain ⟨t739, A60, H⟩ := H
 replace H : (if 0 < (t739.length : Int) then (some (rd t739 0, 0)) else (none)) = some (r1, r2) := H
 have A6 := Aside0.mk A60
 clear A60
 by_cases c7 : 0 < (t739.length : Int)
 rotate_left
 · rw [if_neg c7] at H; exact absurd H (by simp)
 rw [if_pos c7] at H
 have c7b0 : decide (0 < (t739.length : Int)) = true := decide_eq_true c7
 have c7b1 : decide (0 < t739.length) = true := decide_eq_true (by omega)
 clear c7
 simp only [Option.some.injEq, Prod.mk.injEq] at H
 obtain ⟨rfl, rfl⟩ := H
 go_enter Try.func31, Try.ntmps31
 go_wp2_with (first | ((with_reducible refine gate_callee (f := 42) rfl ?_); refine goesL_ (some 6) rfl rfl Try.func42 (by kernel_rfl) rfl #[.slice A0 l0.length c0] rfl zM ?_; (with_reducible refine (best_wrong.calls k _ _ l0 t738 _ ?side1 ?side2 A2.out).mono ?_); (case side1 => repeat (first | exact HR0.out | (with_reducible refine Kd.C_alloc ?_ _) | (with_reducible refine Kd.C_drewN ?_ _) | (with_reducible refine Kd.C_drew ?_))); (case side2 => exact HC0.out); rintro e w8 ⟨rfl, hb⟩; refine ⟨_, rfl, ?_⟩; have n0_ := Aside0.mk (below_step zB hb); clear HB; have HB := n0_; clear n0_; (try clear hb); (try clear hb2); (try clear hk); (try clear hi)) | ((with_reducible refine gate_callee (f := 43) rfl ?_); refine goesL_ (some 16) rfl rfl Try.func43 (by kernel_rfl) rfl #[.slice A0 l0.length c0] rfl zM ?_; (with_reducible refine (best_left.calls k _ _ l0 t739 _ ?side1 ?side2 A6.out).mono ?_); (case side1 => exact zC HR0 HB); (case side2 => exact HC0.out); rintro e w9 ⟨v740, rfl, ho0, hb⟩; refine ⟨_, rfl, ?_⟩; have n0_ := Aside0.mk (Kd.R_lower ho0 (below_size zB)); have n1_ := Aside0.mk (below_step zB hb); clear HB; have HO741 := n0_; have HB := n1_; clear n0_ n1_; (try clear hb); (try clear hb2); (try clear hk); (try clear hi); (try clear ho0); obtain ⟨Ao10, co10, eo10⟩ := Kd.R_slice HO741.out; subst eo10; have p742 : 0 ≤ (0 : Int) := (by omega); have q742 : 0 < (t739.length : Int) := od; obtain ⟨ad742, e742, hx742_0⟩ := Kd.at_int (Kd.R_reads' HO741.out).2.2 0 p742 q742; cases e742; have qi742 : (0 < t739.length) = True := eq_true (by omega); (try rw [show ((0 : Int)).toNat = 0 from rfl] at hx742_0); (try rw [Addr.add_zero'] at hx742_0); replace p742 := eq_true p742; replace q742 := eq_true q742))
 go_ret2
 exact ⟨zE, zB⟩
/-! ### g18_: function 16 -/
def g18_.f (k : Nat)  : Option (Bool) := (best_Choose.f k (([(⟨(⟨0, 0⟩ : S75), ([] : List Int), 1, 0, ([] : List Int)⟩ : S77), (⟨(⟨0, 0⟩ : S75), ([] : List Int), 2, 0, ([] : List Int)⟩ : S77)] : List (S77)))).bind fun bt746 => (if bt746.2 = 0 then (some (bt746.1 == 1)) else (some false))
theorem g18_.mono : ∀ k, LeO (g18_.f k ) (g18_.f (k + 1) ) := by
  intro  k
  unfold g18_.f
  repeat' (with_reducible first | exact best_Choose.mono _ _ | exact LeO.refl _ | exact LeO.none _ | refine LeO.ite ?_ ?_ | refine LeO.bind ?_ (fun _ => ?_))
set_option maxHeartbeats 8000000 in
set_option maxRecDepth 100000 in
theorem g18_.calls (k : Nat)  (r : Bool) (w : World) (h : g18_.f k  = some r) :
 Calls Try.prog 16 #[] w fun e w' => e = .returned (.bool r) ∧ Below w.heap.size w w' := by
 have hu77 := Try.underlying77
 have HB := Aside0.mk (Below.refl w.heap.size w)
 have H : ((best_Choose.f k (([(⟨(⟨0, 0⟩ : S75), ([] : List Int), 1, 0, ([] : List Int)⟩ : S77), (⟨(⟨0, 0⟩ : S75), ([] : List Int), 2, 0, ([] : List Int)⟩ : S77)] : List (S77)))).bind fun bt746 => (if bt746.2 = 0 then (some (bt746.1 == 1)) else (some false))) = some r := h
 clear h
 obtain ⟨y743, hy743⟩ : ∃ y_ : List (S77), y_ = (([(⟨(⟨0, 0⟩ : S75), ([] : List Int), 1, 0, ([] : List Int)⟩ : S77), (⟨(⟨0, 0⟩ : S75), ([] : List Int), 2, 0, ([] : List Int)⟩ : S77)] : List (S77))) := ⟨_, rfl⟩
 replace H : ((best_Choose.f k y743).bind fun bt746 => (if bt746.2 = 0 then (some (bt746.1 == 1)) else (some false))) = some r := by first | (rw [hy743]; with_reducible exact H) | (have H2_ := (Option.bind_some _ _).symm.trans H; rw [hy743]; with_reducible exact H2_) | (have H2_ := (Option.bind_some _ _).symm.trans H; with_reducible exact H2_) | with_reducible exact H | (rw [hy743]; exact H) | exact H
 have Ny743 := Aside0.mk hy743
 clear hy743
 replace H := Option.bind_eq_some_iff.mp H
 obtain ⟨⟨t746, t747⟩, A10, H⟩ := H
 replace H : (if t747 = 0 then (some (t746 == 1)) else (some false)) = some r := H
 have A1 := Aside0.mk A10
 clear A10
 by_cases c2 : t747 = 0
 ·
  rw [if_pos c2] at H
  have c2b0 : (t747 == 0) = true := beq_iff_eq.mpr c2
  have c2b1 : (t747 != 0) = false := bne_eq_false_iff_eq.mpr c2
  clear c2
  obtain rfl := Option.some.inj H
  go_enter Try.func16, Try.ntmps16
  go_wp2_with (first | ((with_reducible refine gate_dst (N := 6) rfl ?_); refine Kd.S_lit k77 _ 77 ?hg (N := 6) ?hd (xs := ([(⟨(⟨0, 0⟩ : S75), ([] : List Int), 1, 0, ([] : List Int)⟩ : S77), (⟨(⟨0, 0⟩ : S75), ([] : List Int), 2, 0, ([] : List Int)⟩ : S77)] : List (S77))) (inner := [.int .u32 0, .int .i64 0, .slice none 0 0, .int .i64 1, .int .i64 0, .slice none 0 0, .int .u32 0, .int .i64 0, .slice none 0 0, .int .i64 2, .int .i64 0, .slice none 0 0]) (ok := fun _ => True) (okp := fun _ => True) ?hr ?hp (fun _ hk => hk) trivial (Below.refl _ _) (Nat.le_refl _) (by simp) ?_; (case hd => rfl); (case hg => rfl); (case hr => first | (go_simp; done) | (go_simp; rfl)); (case hp => exact (Reps.c6 (show Kd.M k77 _ _ _ (⟨(⟨0, 0⟩ : S75), ([] : List Int), 1, 0, ([] : List Int)⟩ : S77) [.int .u32 0, .int .i64 0, .slice none 0 0, .int .i64 1, .int .i64 0, .slice none 0 0] from (k77_mkM _ _ _ (⟨(⟨0, 0⟩ : S75), ([] : List Int), 1, 0, ([] : List Int)⟩ : S77) (Kd.R_nil _ _ _ _ _) (Kd.R_nil _ _ _ _ _))) (Reps.c6 (show Kd.M k77 _ _ _ (⟨(⟨0, 0⟩ : S75), ([] : List Int), 2, 0, ([] : List Int)⟩ : S77) [.int .u32 0, .int .i64 0, .slice none 0 0, .int .i64 2, .int .i64 0, .slice none 0 0] from (k77_mkM _ _ _ (⟨(⟨0, 0⟩ : S75), ([] : List Int), 2, 0, ([] : List Int)⟩ : S77) (Kd.R_nil _ _ _ _ _) (Kd.R_nil _ _ _ _ _))) (Reps.none _ _)))); intro v744 w3 ho4 hb hg_ hnew_; clear hg_ hnew_; (first | rw [← Ny743.out] at ho4 | (simp only [Int.reduceToNat] at ho4; rw [← Ny743.out] at ho4)); have n0_ := Aside0.mk (Kd.S_lower ho4 (below_size zB)); have n1_ := Aside0.mk (below_step zB hb); clear HB; have HO745 := n0_; have HB := n1_; clear n0_ n1_; clear hb ho4; obtain ⟨Ao5, co5, eo5⟩ := Kd.S_slice HO745.out; subst eo5) | ((with_reducible refine gate_callee (f := 31) rfl ?_); refine goesL_ (some 7) rfl rfl Try.func31 (by kernel_rfl) rfl #[.slice Ao5 y743.length co5] rfl zM ?_; (with_reducible refine (best_Choose.calls k _ _ y743 t746 t747 _ ?side1 ?side2 A1.out).mono ?_); (case side1 => repeat (first | exact (Kd.S_reads' HO745.out).2.2 | (with_reducible refine Kd.C_alloc ?_ _) | (with_reducible refine Kd.C_drewN ?_ _) | (with_reducible refine Kd.C_drew ?_))); (case side2 => exact (Kd.S_reads' HO745.out).2.1); rintro e w6 ⟨rfl, hb⟩; refine ⟨_, rfl, ?_⟩; have n0_ := Aside0.mk (Kd.S_below (zS HO745) hb); have n1_ := Aside0.mk (below_step zB hb); clear HO745; clear HB; have HO745 := n0_; have HB := n1_; clear n0_ n1_; (try clear hb); (try clear hb2); (try clear hk); (try clear hi)))
  go_ret
  exact ⟨zE, zB⟩
 rw [if_neg c2] at H
 have c2b0 : (t747 == 0) = false := beq_eq_false_iff_ne.mpr c2
 have c2b1 : (t747 != 0) = true := bne_iff_ne.mpr c2
 obtain rfl := Option.some.inj H
 go_enter Try.func16, Try.ntmps16
 go_wp2_with (first | ((with_reducible refine gate_dst (N := 6) rfl ?_); refine Kd.S_lit k77 _ 77 ?hg (N := 6) ?hd (xs := ([(⟨(⟨0, 0⟩ : S75), ([] : List Int), 1, 0, ([] : List Int)⟩ : S77), (⟨(⟨0, 0⟩ : S75), ([] : List Int), 2, 0, ([] : List Int)⟩ : S77)] : List (S77))) (inner := [.int .u32 0, .int .i64 0, .slice none 0 0, .int .i64 1, .int .i64 0, .slice none 0 0, .int .u32 0, .int .i64 0, .slice none 0 0, .int .i64 2, .int .i64 0, .slice none 0 0]) (ok := fun _ => True) (okp := fun _ => True) ?hr ?hp (fun _ hk => hk) trivial (Below.refl _ _) (Nat.le_refl _) (by simp) ?_; (case hd => rfl); (case hg => rfl); (case hr => first | (go_simp; done) | (go_simp; rfl)); (case hp => exact (Reps.c6 (show Kd.M k77 _ _ _ (⟨(⟨0, 0⟩ : S75), ([] : List Int), 1, 0, ([] : List Int)⟩ : S77) [.int .u32 0, .int .i64 0, .slice none 0 0, .int .i64 1, .int .i64 0, .slice none 0 0] from (k77_mkM _ _ _ (⟨(⟨0, 0⟩ : S75), ([] : List Int), 1, 0, ([] : List Int)⟩ : S77) (Kd.R_nil _ _ _ _ _) (Kd.R_nil _ _ _ _ _))) (Reps.c6 (show Kd.M k77 _ _ _ (⟨(⟨0, 0⟩ : S75), ([] : List Int), 2, 0, ([] : List Int)⟩ : S77) [.int .u32 0, .int .i64 0, .slice none 0 0, .int .i64 2, .int .i64 0, .slice none 0 0] from (k77_mkM _ _ _ (⟨(⟨0, 0⟩ : S75), ([] : List Int), 2, 0, ([] : List Int)⟩ : S77) (Kd.R_nil _ _ _ _ _) (Kd.R_nil _ _ _ _ _))) (Reps.none _ _)))); intro v744 w7 ho8 hb hg_ hnew_; clear hg_ hnew_; (first | rw [← Ny743.out] at ho8 | (simp only [Int.reduceToNat] at ho8; rw [← Ny743.out] at ho8)); have n0_ := Aside0.mk (Kd.S_lower ho8 (below_size zB)); have n1_ := Aside0.mk (below_step zB hb); clear HB; have HO745 := n0_; have HB := n1_; clear n0_ n1_; clear hb ho8; obtain ⟨Ao9, co9, eo9⟩ := Kd.S_slice HO745.out; subst eo9) | ((with_reducible refine gate_callee (f := 31) rfl ?_); refine goesL_ (some 7) rfl rfl Try.func31 (by kernel_rfl) rfl #[.slice Ao9 y743.length co9] rfl zM ?_; (with_reducible refine (best_Choose.calls k _ _ y743 t746 t747 _ ?side1 ?side2 A1.out).mono ?_); (case side1 => repeat (first | exact (Kd.S_reads' HO745.out).2.2 | (with_reducible refine Kd.C_alloc ?_ _) | (with_reducible refine Kd.C_drewN ?_ _) | (with_reducible refine Kd.C_drew ?_))); (case side2 => exact (Kd.S_reads' HO745.out).2.1); rintro e w10 ⟨rfl, hb⟩; refine ⟨_, rfl, ?_⟩; have n0_ := Aside0.mk (Kd.S_below (zS HO745) hb); have n1_ := Aside0.mk (below_step zB hb); clear HO745; clear HB; have HO745 := n0_; have HB := n1_; clear n0_ n1_; (try clear hb); (try clear hb2); (try clear hk); (try clear hi)))
 go_ret
 exact ⟨zE, zB⟩
/-! ### g26_: function 32 -/
def g26_.f (l0 : List (S71)) (a1 : Int) : Option ((List (S71))) := if 0 ≤ (mn (l0.length : Int) a1) then (if (mn (l0.length : Int) a1) ≤ (l0.length : Int) then (some (l0.take ((mn (l0.length : Int) a1) : Int).toNat)) else (none)) else (none)
set_option maxHeartbeats 8000000 in
set_option maxRecDepth 100000 in
theorem g26_.calls (P0_ : Nat → Prop) (A0 : Option Addr) (c0 : Nat) (l0 : List (S71)) (a1 : Int) (r : List (S71)) (w : World) (hs0 : Kd.V k71 71 w w.heap.size (fun k_ => P0_ k_) (.slice A0 l0.length c0) l0) (h : g26_.f l0 a1 = some r) :
 Calls Try.prog 32 #[.slice A0 l0.length c0, .int .i64 a1] w fun e w' => ∃ v0_ : Value, e = .returned (v0_) ∧ Kd.V k71 71 w' w.heap.size (fun k_ => (P0_ k_ ∨ w.heap.size ≤ k_)) v0_ r ∧ Below w.heap.size w w' := by
 have HO0 := Aside0.mk (show Kd.V k71 71 w w.heap.size (fun k_ => (P0_ k_ ∨ w.heap.size ≤ k_)) (.slice A0 l0.length c0) l0 from Kd.V_mono hs0 (fun k_ hk => .inl hk))
 have HB := Aside0.mk (Below.refl w.heap.size w)
 have H : (if 0 ≤ (mn (l0.length : Int) a1) then (if (mn (l0.length : Int) a1) ≤ (l0.length : Int) then (some (l0.take ((mn (l0.length : Int) a1) : Int).toNat)) else (none)) else (none)) = some r := h
 clear h
 obtain ⟨ji3, hji3⟩ : ∃ j_ : Int, (mn (l0.length : Int) a1) = j_ := ⟨_, rfl⟩
 replace H : (if 0 ≤ (ji3) then (if (ji3) ≤ (l0.length : Int) then (some (l0.take ((ji3) : Int).toNat)) else (none)) else (none)) = some r := by first | (rw [hji3] at H; exact H) | (simp only [hji3] at H ⊢; exact H)
 have hji3_ : (if a1 < (l0.length : Int) then a1 else (l0.length : Int)) = ji3 := hji3
 by_cases c4 : 0 ≤ (ji3)
 rotate_left
 · rw [if_neg c4] at H; exact absurd H (by simp)
 rw [if_pos c4] at H
 have c4b0 := eq_true c4
 have c4b1 : decide (0 ≤ (ji3)) = true := decide_eq_true c4
 clear c4
 by_cases c5 : (ji3) ≤ (l0.length : Int)
 rotate_left
 · rw [if_neg c5] at H; exact absurd H (by simp)
 rw [if_pos c5] at H
 have c5b0 := eq_true c5
 have c5b1 : decide ((ji3) ≤ (l0.length : Int)) = true := decide_eq_true c5
 clear c5
 obtain ⟨y762, hy762⟩ : ∃ y_ : List (S71), y_ = (l0.take ((ji3) : Int).toNat) := ⟨_, rfl⟩
 replace H : (some y762) = some r := by first | (rw [hy762]; with_reducible exact H) | (have H2_ := (Option.bind_some _ _).symm.trans H; rw [hy762]; with_reducible exact H2_) | (have H2_ := (Option.bind_some _ _).symm.trans H; with_reducible exact H2_) | with_reducible exact H | (rw [hy762]; exact H) | exact H
 have Ny762 := Aside0.mk hy762
 clear hy762
 obtain rfl := Option.some.inj H
 have q6 : ((ji3) : Int) ≤ ((l0.length : Int) : Int) := od
 obtain ⟨i06, hi06, _, hsz6, _⟩ := info_parts info71
 have hroom6 : l0.length ≤ c0 := (Kd.V_reads' HO0.out).2.1
 have hC6 : Kd.F k71 _ _ A0 l0.length l0 := (Kd.V_at (base := w.heap.size) HO0.out).2.2
 have hcut6 := cut_to (P := Try.prog) 40 71 .i64 Try.underlying40 hi06 A0 l0.length c0 (ji3) (od) q6 hroom6
 have hr6 := Kd.F_take (m := ((ji3) : Int).toNat) hC6 (by omega)
 have hy6 : y762.length = ((ji3) : Int).toNat := (by rw [Ny762.out, List.length_take]; omega)
 rw [← Ny762.out] at hr6
 rw [← hy6] at hcut6
 have HO766 := Aside0.mk (show Kd.V k71 71 _ w.heap.size _ (.slice A0 y762.length c0) y762 from Kd.V_mk (by omega) hr6)
 have HC766 := Aside0.mk (show y762.length ≤ c0 from by omega)
 clear hr6 hC6 hroom6 hi06 hsz6
 have KY6 := Aside0.mk hy6
 clear hy6
 replace q6 := eq_true q6
 go_enter Try.func32, Try.ntmps32
 go_wp2
 go_ret
 exact ⟨_, by first | rfl | (simp [errW_none, errW_some] <;> rfl) | (simp only [← hji3]; first | rfl | (simp [errW_none, errW_some] <;> rfl)) | (simp [*, errW_none, errW_some] <;> rfl), by (with_reducible repeat (first | apply Kd.V_alloc | apply Kd.V_drewN | apply Kd.V_drew)); exact HO766.out, zB⟩
/-! ### g36_: function 34 -/
def g36_.f (a0_0 : Int) (a0_1 : Int) (a0_2 : Int) (a0_3 : Int) (a0_4 : Int) (a1_0 : Int) (a1_1 : Int) (a1_2 : Int) (a1_3 : Int) (a1_4 : Int) : Option (Bool) := if a0_0 = a1_0 then (some (a0_1 == a1_1)) else (some false)
set_option maxHeartbeats 8000000 in
set_option maxRecDepth 100000 in
theorem g36_.calls (a0_0 : Int) (a0_1 : Int) (a0_2 : Int) (a0_3 : Int) (a0_4 : Int) (gc1_0 : Nat) (a1_0 : Int) (a1_1 : Int) (a1_2 : Int) (a1_3 : Int) (a1_4 : Int) (r : Bool) (w : World) (hcap1_0 : w.heap[gc1_0]? = some (.cells #[.int .i64 a1_0, .int .i64 a1_1, .int .i64 a1_2, .int .i64 a1_3, .int .i64 a1_4] 71 (0, 0))) (h : g36_.f a0_0 a0_1 a0_2 a0_3 a0_4 a1_0 a1_1 a1_2 a1_3 a1_4 = some r) :
 Calls Try.prog 34 #[.agg #[.int .i64 a0_0, .int .i64 a0_1, .int .i64 a0_2, .int .i64 a0_3, .int .i64 a0_4], .pointer (some ⟨gc1_0, 0, none⟩)] w fun e w' => e = .returned (.bool r) ∧ Below w.heap.size w w' := by
 have hu71 := Try.underlying71
 have hu3 := Try.underlying3
 have BK777 := Aside0.mk hcap1_0
 clear hcap1_0
 have HB := Aside0.mk (Below.refl w.heap.size w)
 have H : (if a0_0 = a1_0 then (some (a0_1 == a1_1)) else (some false)) = some r := h
 clear h
 by_cases c3 : a0_0 = a1_0
 ·
  rw [if_pos c3] at H
  have c3b0 : (a0_0 == a1_0) = true := beq_iff_eq.mpr c3
  have c3b1 : (a0_0 != a1_0) = false := bne_eq_false_iff_eq.mpr c3
  clear c3
  obtain rfl := Option.some.inj H
  go_enter Try.func34, Try.ntmps34
  go_wp2_with (first | ((with_reducible refine gate_dst (N := 2) rfl ?_); refine bx 2 (#[.int .i64 a0_0, .int .i64 a0_1, .int .i64 a0_2, .int .i64 a0_3, .int .i64 a0_4]) 71 ?_; intro gb778 hg w4 hbox hb; have n0_ := Aside0.mk (blk_below (g := gc1_0) (o := .cells #[.int .i64 a1_0, .int .i64 a1_1, .int .i64 a1_2, .int .i64 a1_3, .int .i64 a1_4] 71 (0, 0)) (zK BK777) hb); have n1_ := Aside0.mk (below_step zB hb); have n2_ := Aside0.mk (hbox); have n3_ := Aside0.mk ((zG hg : w.heap.size ≤ gb778)); have n4_ := Aside0.mk ((zG hg : w.heap.size ≤ gb778)); have n5_ := Aside0.mk ((by rw [hg]; exact Nat.ne_of_lt (blk_lt (g := gc1_0) (o := .cells #[.int .i64 a1_0, .int .i64 a1_1, .int .i64 a1_2, .int .i64 a1_3, .int .i64 a1_4] 71 (0, 0)) (zK BK777)) : gc1_0 ≠ gb778)); have n6_ := Aside0.mk ((by rw [hg]; exact Nat.ne_of_gt (blk_lt (g := gc1_0) (o := .cells #[.int .i64 a1_0, .int .i64 a1_1, .int .i64 a1_2, .int .i64 a1_3, .int .i64 a1_4] 71 (0, 0)) (zK BK777)) : gb778 ≠ gc1_0)); clear BK777; clear HB; have BK777 := n0_; have HB := n1_; have BK778 := n2_; have GW778 := n3_; have GE778 := n4_; have NB777_778 := n5_; have NB778_777 := n6_; clear n0_ n1_ n2_ n3_ n4_ n5_ n6_; clear hb hbox hg; have hnb5 := NB778_777.out; have hnc5 := NB777_778.out; have hcz6_0 : w4.cell? ⟨gb778, 0, none⟩ = some (.int .i64 a0_0) := zT BK778 0; have hcz6_1 : w4.cell? ⟨gb778, 1, none⟩ = some (.int .i64 a0_1) := zT BK778 1; have hcz6_2 : w4.cell? ⟨gb778, 2, none⟩ = some (.int .i64 a0_2) := zT BK778 2; have hcz6_3 : w4.cell? ⟨gb778, 3, none⟩ = some (.int .i64 a0_3) := zT BK778 3; have hcz6_4 : w4.cell? ⟨gb778, 4, none⟩ = some (.int .i64 a0_4) := zT BK778 4; have hfz6_0 := blk_frozen BK778.out 0; have hfz6_1 := blk_frozen BK778.out 1; have hfz6_2 := blk_frozen BK778.out 2; have hfz6_3 := blk_frozen BK778.out 3; have hfz6_4 := blk_frozen BK778.out 4; have hcz7_0 : w4.cell? ⟨gc1_0, 0, none⟩ = some (.int .i64 a1_0) := zT BK777 0; have hcz7_1 : w4.cell? ⟨gc1_0, 1, none⟩ = some (.int .i64 a1_1) := zT BK777 1; have hcz7_2 : w4.cell? ⟨gc1_0, 2, none⟩ = some (.int .i64 a1_2) := zT BK777 2; have hcz7_3 : w4.cell? ⟨gc1_0, 3, none⟩ = some (.int .i64 a1_3) := zT BK777 3; have hcz7_4 : w4.cell? ⟨gc1_0, 4, none⟩ = some (.int .i64 a1_4) := zT BK777 4; have hfz7_0 := blk_frozen BK777.out 0; have hfz7_1 := blk_frozen BK777.out 1; have hfz7_2 := blk_frozen BK777.out 2; have hfz7_3 := blk_frozen BK777.out 3; have hfz7_4 := blk_frozen BK777.out 4))
  go_ret
  exact ⟨zE, zB⟩
 rw [if_neg c3] at H
 have c3b0 : (a0_0 == a1_0) = false := beq_eq_false_iff_ne.mpr c3
 have c3b1 : (a0_0 != a1_0) = true := bne_iff_ne.mpr c3
 obtain rfl := Option.some.inj H
 go_enter Try.func34, Try.ntmps34
 go_wp2_with (first | ((with_reducible refine gate_dst (N := 2) rfl ?_); refine bx 2 (#[.int .i64 a0_0, .int .i64 a0_1, .int .i64 a0_2, .int .i64 a0_3, .int .i64 a0_4]) 71 ?_; intro gb778 hg w8 hbox hb; have n0_ := Aside0.mk (blk_below (g := gc1_0) (o := .cells #[.int .i64 a1_0, .int .i64 a1_1, .int .i64 a1_2, .int .i64 a1_3, .int .i64 a1_4] 71 (0, 0)) (zK BK777) hb); have n1_ := Aside0.mk (below_step zB hb); have n2_ := Aside0.mk (hbox); have n3_ := Aside0.mk ((zG hg : w.heap.size ≤ gb778)); have n4_ := Aside0.mk ((zG hg : w.heap.size ≤ gb778)); have n5_ := Aside0.mk ((by rw [hg]; exact Nat.ne_of_lt (blk_lt (g := gc1_0) (o := .cells #[.int .i64 a1_0, .int .i64 a1_1, .int .i64 a1_2, .int .i64 a1_3, .int .i64 a1_4] 71 (0, 0)) (zK BK777)) : gc1_0 ≠ gb778)); have n6_ := Aside0.mk ((by rw [hg]; exact Nat.ne_of_gt (blk_lt (g := gc1_0) (o := .cells #[.int .i64 a1_0, .int .i64 a1_1, .int .i64 a1_2, .int .i64 a1_3, .int .i64 a1_4] 71 (0, 0)) (zK BK777)) : gb778 ≠ gc1_0)); clear BK777; clear HB; have BK777 := n0_; have HB := n1_; have BK778 := n2_; have GW778 := n3_; have GE778 := n4_; have NB777_778 := n5_; have NB778_777 := n6_; clear n0_ n1_ n2_ n3_ n4_ n5_ n6_; clear hb hbox hg; have hnb9 := NB778_777.out; have hnc9 := NB777_778.out; have hcz10_0 : w8.cell? ⟨gb778, 0, none⟩ = some (.int .i64 a0_0) := zT BK778 0; have hcz10_1 : w8.cell? ⟨gb778, 1, none⟩ = some (.int .i64 a0_1) := zT BK778 1; have hcz10_2 : w8.cell? ⟨gb778, 2, none⟩ = some (.int .i64 a0_2) := zT BK778 2; have hcz10_3 : w8.cell? ⟨gb778, 3, none⟩ = some (.int .i64 a0_3) := zT BK778 3; have hcz10_4 : w8.cell? ⟨gb778, 4, none⟩ = some (.int .i64 a0_4) := zT BK778 4; have hfz10_0 := blk_frozen BK778.out 0; have hfz10_1 := blk_frozen BK778.out 1; have hfz10_2 := blk_frozen BK778.out 2; have hfz10_3 := blk_frozen BK778.out 3; have hfz10_4 := blk_frozen BK778.out 4; have hcz11_0 : w8.cell? ⟨gc1_0, 0, none⟩ = some (.int .i64 a1_0) := zT BK777 0; have hcz11_1 : w8.cell? ⟨gc1_0, 1, none⟩ = some (.int .i64 a1_1) := zT BK777 1; have hcz11_2 : w8.cell? ⟨gc1_0, 2, none⟩ = some (.int .i64 a1_2) := zT BK777 2; have hcz11_3 : w8.cell? ⟨gc1_0, 3, none⟩ = some (.int .i64 a1_3) := zT BK777 3; have hcz11_4 : w8.cell? ⟨gc1_0, 4, none⟩ = some (.int .i64 a1_4) := zT BK777 4; have hfz11_0 := blk_frozen BK777.out 0; have hfz11_1 := blk_frozen BK777.out 1; have hfz11_2 := blk_frozen BK777.out 2; have hfz11_3 := blk_frozen BK777.out 3; have hfz11_4 := blk_frozen BK777.out 4))
 go_ret
 exact ⟨zE, zB⟩
/-! ### g3_: function 44 -/
def g3_.l0 : Nat → List (S71) → Int → Int → Int → Int → Int → Int → Int → Option (Int)
  | 0, _, _, _, _, _, _, _, _ => none
  | k + 1, x0, x7, x8, x781000, x781001, x781002, x781003, x781004 => if x8 < x7 then (if 0 ≤ x8 then (if x8 < (x0.length : Int) then ((g36_.f ((rd_T71 x0 x8).f0) ((rd_T71 x0 x8).f1) ((rd_T71 x0 x8).f2) ((rd_T71 x0 x8).f3) ((rd_T71 x0 x8).f4) x781000 x781001 x781002 x781003 x781004).bind fun t782 => (if t782 = true then (some x8) else (g3_.l0 k x0 x7 (wrap64 (x8 + 1)) x781000 x781001 x781002 x781003 x781004))) else (none)) else (none)) else (some (-1))
def g3_.f (k : Nat) (l0 : List (S71)) (a1_0 : Int) (a1_1 : Int) (a1_2 : Int) (a1_3 : Int) (a1_4 : Int) : Option (Int) := g3_.l0 k l0 (l0.length : Int) 0 a1_0 a1_1 a1_2 a1_3 a1_4
theorem g3_.mono_l : ∀ k, (∀ y0 y1 y2 y3 y4 y5 y6 y7, LeO (g3_.l0 k y0 y1 y2 y3 y4 y5 y6 y7) (g3_.l0 (k + 1) y0 y1 y2 y3 y4 y5 y6 y7))
  | 0 => fun _ _ _ _ _ _ _ _ r h => by simp [g3_.l0] at h
  | k + 1 => by
    have ih0 := g3_.mono_l k
    · intro y0 y1 y2 y3 y4 y5 y6 y7
      unfold g3_.l0
      repeat' (with_reducible first | exact ih0 _ _ _ _ _ _ _ _ | exact LeO.refl _ | exact LeO.none _ | refine LeO.ite ?_ ?_ | refine LeO.bind ?_ (fun _ => ?_))
theorem g3_.mono : ∀ a0 a1 a2 a3 a4 a5 k, LeO (g3_.f k a0 a1 a2 a3 a4 a5) (g3_.f (k + 1) a0 a1 a2 a3 a4 a5) := by
  intro a0 a1 a2 a3 a4 a5 k
  have ih0 := g3_.mono_l k
  unfold g3_.f
  repeat' (with_reducible first | exact ih0 _ _ _ _ _ _ _ _ | exact LeO.refl _ | exact LeO.none _ | refine LeO.ite ?_ ?_ | refine LeO.bind ?_ (fun _ => ?_))
set_option maxHeartbeats 8000000 in
set_option maxRecDepth 100000 in
theorem g3_.calls (k : Nat) (A0 : Option Addr) (c0 : Nat) (l0 : List (S71)) (gc1_0 : Nat) (a1_0 : Int) (a1_1 : Int) (a1_2 : Int) (a1_3 : Int) (a1_4 : Int) (r : Int) (w : World) (hr0 : Kd.C k71 w A0 l0.length l0) (hc0 : l0.length ≤ c0) (hcap1_0 : w.heap[gc1_0]? = some (.cells #[.int .i64 a1_0, .int .i64 a1_1, .int .i64 a1_2, .int .i64 a1_3, .int .i64 a1_4] 71 (0, 0))) (h : g3_.f k l0 a1_0 a1_1 a1_2 a1_3 a1_4 = some r) :
 Calls Try.prog 44 #[.slice A0 l0.length c0, .func (.func 34) #[] #[.pointer (some ⟨gc1_0, 0, none⟩)]] w fun e w' => e = .returned (.int .i64 r) ∧ Below w.heap.size w w' := by
 have hu71 := Try.underlying71
 have HR0 := Aside0.mk hr0
 have HC0 := Aside0.mk hc0
 clear hr0 hc0
 have HCP1_0 := Aside0.mk hcap1_0
 clear hcap1_0
 have HB := Aside0.mk (Below.refl w.heap.size w)
 have H : (g3_.l0 k l0 (l0.length : Int) 0 a1_0 a1_1 a1_2 a1_3 a1_4) = some r := h
 clear h
 have H' := Aside0.mk H
 clear H
 go_enter Try.func44, Try.ntmps44
 go_wp2
 go_loopg [8] k (fun kq v8 w' => ∃ (x8_1 : Int), v8 = .int .i64 x8_1 ∧ Aside0 (g3_.l0 kq l0 (l0.length : Int) x8_1 a1_0 a1_1 a1_2 a1_3 a1_4 = some r) ∧ Aside0 (kq ≤ k) ∧ Aside0 (Below w.heap.size w w'))
 case atStart => exact ⟨(0), zR, H', ⟨Nat.le_refl _⟩, ⟨zB⟩⟩
 clear H'
 try clear p1
 try clear p2
 obtain ⟨x8_1, rfl, HA, HK1, HB⟩ := hrel
 rcases gk with _ | k1
 · exact absurd HA.out (by simp [g3_.l0])
 have H := HA.out
 clear HA
 simp only [g3_.l0] at H
 by_cases c3 : x8_1 < (l0.length : Int)
 rotate_left
 ·
  rw [if_neg c3] at H
  have c3b0 : decide (x8_1 < (l0.length : Int)) = false := decide_eq_false c3
  clear c3
  obtain rfl := Option.some.inj H
  go_wp2
  go_ret
  exact ⟨zE, zB⟩
 rw [if_pos c3] at H
 have c3b0 : decide (x8_1 < (l0.length : Int)) = true := decide_eq_true c3
 clear c3
 by_cases c4 : 0 ≤ x8_1
 rotate_left
 · rw [if_neg c4] at H; exact absurd H (by simp)
 rw [if_pos c4] at H
 have c4b0 : decide (0 ≤ x8_1) = true := decide_eq_true c4
 clear c4
 by_cases c5 : x8_1 < (l0.length : Int)
 rotate_left
 · rw [if_neg c5] at H; exact absurd H (by simp)
 rw [if_pos c5] at H
 have c5b0 : decide (x8_1 < (l0.length : Int)) = true := decide_eq_true c5
 clear c5
 replace H := Option.bind_eq_some_iff.mp H
 obtain ⟨t782, A60, H⟩ := H
 replace H : (if t782 = true then (some x8_1) else (g3_.l0 k1 l0 (l0.length : Int) (wrap64 (x8_1 + 1)) a1_0 a1_1 a1_2 a1_3 a1_4)) = some r := H
 have A6 := Aside0.mk A60
 clear A60
 by_cases c7 : t782 = true
 ·
  subst c7
  have H1 : (some x8_1) = some r := by rw [if_pos rfl] at H; exact H
  clear H
  have H := H1
  clear H1
  obtain rfl := Option.some.inj H
  have p781 : 0 ≤ (x8_1 : Int) := od
  have q781 : x8_1 < (l0.length : Int) := od
  obtain ⟨ad781, e781, hx781_0, hx781_1, hx781_2, hx781_3, hx781_4⟩ := at_T71 HR0.out x8_1 p781 q781
  cases e781
  replace hx781_0 := zL HB hx781_0
  replace hx781_1 := zL HB hx781_1
  replace hx781_2 := zL HB hx781_2
  replace hx781_3 := zL HB hx781_3
  replace hx781_4 := zL HB hx781_4
  replace p781 := eq_true p781
  replace q781 := eq_true q781
  go_wp2_with (first | (go_at_call 34; (with_reducible refine (g36_.calls ((rd_T71 l0 x8_1).f0) ((rd_T71 l0 x8_1).f1) ((rd_T71 l0 x8_1).f2) ((rd_T71 l0 x8_1).f3) ((rd_T71 l0 x8_1).f4) gc1_0 a1_0 a1_1 a1_2 a1_3 a1_4 true _ ?side1 A6.out).mono ?_); (case side1 => exact blk_below HCP1_0.out zB); rintro e w8 ⟨rfl, hb⟩; have n0_ := Aside0.mk (below_step zB hb); clear HB; have HB := n0_; clear n0_; (try clear hb); (try clear hb2); (try clear hk); (try clear hi)))
  go_ret
  exact ⟨zE, zB⟩
 replace c7 := Bool.eq_false_iff.mpr c7
 subst c7
 have H1 : (g3_.l0 k1 l0 (l0.length : Int) (wrap64 (x8_1 + 1)) a1_0 a1_1 a1_2 a1_3 a1_4) = some r := by rw [if_neg (show ¬ (false = true) by decide)] at H; exact H
 clear H
 have H := H1
 clear H1
 have H' := Aside0.mk H
 clear H
 have p781 : 0 ≤ (x8_1 : Int) := od
 have q781 : x8_1 < (l0.length : Int) := od
 obtain ⟨ad781, e781, hx781_0, hx781_1, hx781_2, hx781_3, hx781_4⟩ := at_T71 HR0.out x8_1 p781 q781
 cases e781
 replace hx781_0 := zL HB hx781_0
 replace hx781_1 := zL HB hx781_1
 replace hx781_2 := zL HB hx781_2
 replace hx781_3 := zL HB hx781_3
 replace hx781_4 := zL HB hx781_4
 replace p781 := eq_true p781
 replace q781 := eq_true q781
 go_wp2_with (first | (go_at_call 34; (with_reducible refine (g36_.calls ((rd_T71 l0 x8_1).f0) ((rd_T71 l0 x8_1).f1) ((rd_T71 l0 x8_1).f2) ((rd_T71 l0 x8_1).f3) ((rd_T71 l0 x8_1).f4) gc1_0 a1_0 a1_1 a1_2 a1_3 a1_4 false _ ?side1 A6.out).mono ?_); (case side1 => exact blk_below HCP1_0.out zB); rintro e w9 ⟨rfl, hb⟩; have n0_ := Aside0.mk (below_step zB hb); clear HB; have HB := n0_; clear n0_; (try clear hb); (try clear hb2); (try clear hk); (try clear hi)))
 go_roundg k1
 case measure => have := HK1.out; omega
 case rel => exact ⟨(wrap64 (x8_1 + 1)), zR, H', ⟨by have := HK1.out; omega⟩, ⟨zB⟩⟩
/-! ### g10_: function 33 -/
def g10_.f (k : Nat) (l0 : List (S71)) (a1_0 : Int) (a1_1 : Int) (a1_2 : Int) (a1_3 : Int) (a1_4 : Int) : Option (Bool) := (g3_.f k l0 a1_0 a1_1 a1_2 a1_3 a1_4).bind fun t784 => (some (decide (t784 ≥ 0)))
theorem g10_.mono : ∀ a0 a1 a2 a3 a4 a5 k, LeO (g10_.f k a0 a1 a2 a3 a4 a5) (g10_.f (k + 1) a0 a1 a2 a3 a4 a5) := by
  intro a0 a1 a2 a3 a4 a5 k
  unfold g10_.f
  repeat' (with_reducible first | exact g3_.mono _ _ _ _ _ _ _ | exact LeO.refl _ | exact LeO.none _ | refine LeO.ite ?_ ?_ | refine LeO.bind ?_ (fun _ => ?_))
set_option maxHeartbeats 8000000 in
set_option maxRecDepth 100000 in
theorem g10_.calls (k : Nat) (A0 : Option Addr) (c0 : Nat) (l0 : List (S71)) (gc1_0 : Nat) (a1_0 : Int) (a1_1 : Int) (a1_2 : Int) (a1_3 : Int) (a1_4 : Int) (r : Bool) (w : World) (hr0 : Kd.C k71 w A0 l0.length l0) (hc0 : l0.length ≤ c0) (hcap1_0 : w.heap[gc1_0]? = some (.cells #[.int .i64 a1_0, .int .i64 a1_1, .int .i64 a1_2, .int .i64 a1_3, .int .i64 a1_4] 71 (0, 0))) (h : g10_.f k l0 a1_0 a1_1 a1_2 a1_3 a1_4 = some r) :
 Calls Try.prog 33 #[.slice A0 l0.length c0, .func (.func 34) #[] #[.pointer (some ⟨gc1_0, 0, none⟩)]] w fun e w' => e = .returned (.bool r) ∧ Below w.heap.size w w' := by
 have HR0 := Aside0.mk hr0
 have HC0 := Aside0.mk hc0
 clear hr0 hc0
 have HCP1_0 := Aside0.mk hcap1_0
 clear hcap1_0
 have HB := Aside0.mk (Below.refl w.heap.size w)
 have H : ((g3_.f k l0 a1_0 a1_1 a1_2 a1_3 a1_4).bind fun t784 => (some (decide (t784 ≥ 0)))) = some r := h
 clear h
 replace H := Option.bind_eq_some_iff.mp H
 obtain ⟨t784, A30, H⟩ := H
 replace H : (some (decide (t784 ≥ 0))) = some r := H
 have A3 := Aside0.mk A30
 clear A30
 obtain rfl := Option.some.inj H
 go_enter Try.func33, Try.ntmps33
 go_wp2_with (first | ((with_reducible refine gate_callee (f := 44) rfl ?_); refine goesL_ (some 7) rfl rfl Try.func44 (by kernel_rfl) rfl #[.slice A0 l0.length c0, .func (.func 34) #[] #[.pointer (some ⟨gc1_0, 0, none⟩)]] rfl zM ?_; (with_reducible refine (g3_.calls k _ _ l0 gc1_0 a1_0 a1_1 a1_2 a1_3 a1_4 t784 _ ?side1 ?side2 ?side3 A3.out).mono ?_); (case side1 => repeat (first | exact HR0.out | (with_reducible refine Kd.C_alloc ?_ _) | (with_reducible refine Kd.C_drewN ?_ _) | (with_reducible refine Kd.C_drew ?_))); (case side2 => exact HC0.out); (case side3 => exact blk_below HCP1_0.out zB); rintro e w4 ⟨rfl, hb⟩; refine ⟨_, rfl, ?_⟩; have n0_ := Aside0.mk (below_step zB hb); clear HB; have HB := n0_; clear n0_; (try clear hb); (try clear hb2); (try clear hk); (try clear hi)))
 go_ret
 exact ⟨zE, zB⟩
end Go.Proofs.Ytplcdbhklepkgaa.BS
