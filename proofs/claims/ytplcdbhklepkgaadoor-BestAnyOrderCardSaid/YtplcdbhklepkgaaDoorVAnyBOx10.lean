-- Made by gen.py, a program of this session's, over the kit's print.
import Derived.Test.YtplcdbhklepkgaaDoorVAnyShort
import Derived.Test.YtplcdbhklepkgaaDoorVAnyBOx0
import Derived.Test.YtplcdbhklepkgaaDoorVAnyBOx4
import Derived.Test.YtplcdbhklepkgaaDoorVAnyBOx6
import Derived.Test.YtplcdbhklepkgaaDoorVAnyBOx7
import Derived.Test.YtplcdbhklepkgaaDoorVAnyBOx8
import Derived.Test.YtplcdbhklepkgaaDoorVAnyBOx9
namespace Go.Proofs.YtplcdbhklepkgaaDoor.BO
open Go.RowKit Go.Proofs.YtplcdbhklepkgaaDoorW.PrintWords Go.Proofs.YtplcdbhklepkgaaDoorW.PrintLast Go.Proofs.YtplcdbhklepkgaaDoorW.PrintMore Go.Proofs.YtplcdbhklepkgaaDoor.GenWords
attribute [local go_sem] max2_int min2_int max_two min_two max_three min_three max_four min_four   -- for this text's walks alone
set_option linter.unusedVariables false
set_option linter.unusedSimpArgs false

def g25_.f (C : Cmp) (k : Nat) (l0 : List (S31)) (l1 : List Int)  : Option (List Int) := (g29_.f l1).bind fun t509 => ((g2_.f C k t509 l1 l0).bind fun t512 => (some t512))
theorem g25_.mono (C : Cmp) : ∀ a0 a1 k, LeO (g25_.f C k a0 a1) (g25_.f C (k + 1) a0 a1) := by
  intro a0 a1 k
  unfold g25_.f
  repeat' (with_reducible first | exact g2_.mono C _ _ _ _ | exact LeO.refl _ | exact LeO.none _ | refine LeO.ite ?_ ?_ | refine LeO.bind ?_ (fun _ => ?_))
set_option maxHeartbeats 8000000 in
set_option maxRecDepth 100000 in
theorem g25_.calls (C : Cmp) (k : Nat) (A0 : Option Addr) (c0 : Nat) (l0 : List (S31)) (A1 : Option Addr) (c1 : Nat) (l1 : List Int)  (r : List Int) (w : World) (hr0 : Kd.C k31 w A0 l0.length l0) (hc0 : l0.length ≤ c0) (hr1 : Kd.C (Kd.int .i64) w A1 l1.length l1) (hc1 : l1.length ≤ c1) (h : g25_.f C k l0 l1 = some r) :
 Calls Tryd.prog 36 #[.slice A0 l0.length c0, .slice A1 l1.length c1, .func (.func C.F) #[] #[]] w fun e w' => ∃ v0_ : Value, e = .returned (v0_) ∧ Kd.R (Kd.int .i64) 3 w' w.heap.size (fun _ => True) v0_ r ∧ Below w.heap.size w w' := by
 have hu22 := Tryd.underlying22
 have hu23 := Tryd.underlying23
 have HR0 := Aside0.mk hr0
 have HC0 := Aside0.mk hc0
 clear hr0 hc0
 have HR1 := Aside0.mk hr1
 have HC1 := Aside0.mk hc1
 clear hr1 hc1
 have HB := Aside0.mk (Below.refl w.heap.size w)
 have H : ((g29_.f l1).bind fun t509 => ((g2_.f C k t509 l1 l0).bind fun t512 => (some t512))) = some r := h
 clear h
 replace H := Option.bind_eq_some_iff.mp H
 obtain ⟨t509, A40, H⟩ := H
 replace H : ((g2_.f C k t509 l1 l0).bind fun t512 => (some t512)) = some r := H
 have A4 := Aside0.mk A40
 clear A40
 replace H := Option.bind_eq_some_iff.mp H
 obtain ⟨t512, A50, H⟩ := H
 replace H : (some t512) = some r := H
 have A5 := Aside0.mk A50
 clear A50
 obtain rfl := Option.some.inj H
 go_enter Tryd.func36, Tryd.ntmps36
 go_wp2_with (first | ((with_reducible refine gate_dst (N := 3) rfl ?_); refine bx 3 (#[.slice A0 l0.length c0]) 22 ?_; intro gb506 hg w6 hbox hb; have n0_ := Aside0.mk (below_step zB hb); have n1_ := Aside0.mk (hbox); have n2_ := Aside0.mk ((zG hg : w.heap.size ≤ gb506)); have n3_ := Aside0.mk ((zG hg : w.heap.size ≤ gb506)); clear HB; have HB := n0_; have BK506 := n1_; have GW506 := n2_; have GE506 := n3_; clear n0_ n1_ n2_ n3_; clear hb hbox hg) | ((with_reducible refine gate_dst (N := 4) rfl ?_); refine bx 4 (#[.slice A1 l1.length c1]) 23 ?_; intro gb507 hg w7 hbox hb; have n0_ := Aside0.mk (blk_below (g := gb506) (o := .cells #[.slice A0 l0.length c0] 22 (0, 0)) (zK BK506) hb); have n1_ := Aside0.mk (below_step zB hb); have n2_ := Aside0.mk (hbox); have n3_ := Aside0.mk ((zG hg : w.heap.size ≤ gb507)); have n4_ := Aside0.mk ((zG hg : w.heap.size ≤ gb507)); have n5_ := Aside0.mk ((by rw [hg]; exact Nat.ne_of_lt (blk_lt (g := gb506) (o := .cells #[.slice A0 l0.length c0] 22 (0, 0)) (zK BK506)) : gb506 ≠ gb507)); have n6_ := Aside0.mk ((by rw [hg]; exact Nat.ne_of_gt (blk_lt (g := gb506) (o := .cells #[.slice A0 l0.length c0] 22 (0, 0)) (zK BK506)) : gb507 ≠ gb506)); clear BK506; clear HB; have BK506 := n0_; have HB := n1_; have BK507 := n2_; have GW507 := n3_; have GE507 := n4_; have NB506_507 := n5_; have NB507_506 := n6_; clear n0_ n1_ n2_ n3_ n4_ n5_ n6_; clear hb hbox hg) | ((with_reducible refine gate_dst (N := 5) rfl ?_); refine bx 5 (#[.func (.func C.F) #[] #[]]) 65 ?_; intro gb508 hg w8 hbox hb; have n0_ := Aside0.mk (blk_below (g := gb506) (o := .cells #[.slice A0 l0.length c0] 22 (0, 0)) (zK BK506) hb); have n1_ := Aside0.mk (blk_below (g := gb507) (o := .cells #[.slice A1 l1.length c1] 23 (0, 0)) (zK BK507) hb); have n2_ := Aside0.mk (below_step zB hb); have n3_ := Aside0.mk (hbox); have n4_ := Aside0.mk ((zG hg : w.heap.size ≤ gb508)); have n5_ := Aside0.mk ((zG hg : w.heap.size ≤ gb508)); have n6_ := Aside0.mk ((by rw [hg]; exact Nat.ne_of_lt (blk_lt (g := gb506) (o := .cells #[.slice A0 l0.length c0] 22 (0, 0)) (zK BK506)) : gb506 ≠ gb508)); have n7_ := Aside0.mk ((by rw [hg]; exact Nat.ne_of_gt (blk_lt (g := gb506) (o := .cells #[.slice A0 l0.length c0] 22 (0, 0)) (zK BK506)) : gb508 ≠ gb506)); have n8_ := Aside0.mk ((by rw [hg]; exact Nat.ne_of_lt (blk_lt (g := gb507) (o := .cells #[.slice A1 l1.length c1] 23 (0, 0)) (zK BK507)) : gb507 ≠ gb508)); have n9_ := Aside0.mk ((by rw [hg]; exact Nat.ne_of_gt (blk_lt (g := gb507) (o := .cells #[.slice A1 l1.length c1] 23 (0, 0)) (zK BK507)) : gb508 ≠ gb507)); clear BK506; clear BK507; clear HB; have BK506 := n0_; have BK507 := n1_; have HB := n2_; have BK508 := n3_; have GW508 := n4_; have GE508 := n5_; have NB506_508 := n6_; have NB508_506 := n7_; have NB507_508 := n8_; have NB508_507 := n9_; clear n0_ n1_ n2_ n3_ n4_ n5_ n6_ n7_ n8_ n9_; clear hb hbox hg; have hnb9 := NB507_506.out; have hnc9 := NB506_507.out; have hnb10 := NB507_508.out; have hnc10 := NB508_507.out; have hcz11_0 : w8.cell? ⟨gb507, 0, none⟩ = some (.slice A1 l1.length c1) := zT BK507 0; have hfz11_0 := blk_frozen BK507.out 0) | ((with_reducible refine gate_callee (f := 32) rfl ?_); refine goesL_ (some 8) rfl rfl Tryd.func32 (by kernel_rfl) rfl #[.slice A1 l1.length c1] rfl zM ?_; (with_reducible refine (g29_.calls _ _ l1 t509 _ ?side1 ?side2 A4.out).mono ?_); (case side1 => exact zC HR1 HB); (case side2 => exact HC1.out); rintro e w12 ⟨v510, rfl, ho0, hb⟩; refine ⟨_, rfl, ?_⟩; have n0_ := Aside0.mk (Kd.R_lower ho0 (below_size zB)); have n1_ := Aside0.mk (blk_below (g := gb506) (o := .cells #[.slice A0 l0.length c0] 22 (0, 0)) (zK BK506) hb); have n2_ := Aside0.mk (blk_below (g := gb507) (o := .cells #[.slice A1 l1.length c1] 23 (0, 0)) (zK BK507) hb); have n3_ := Aside0.mk (blk_below (g := gb508) (o := .cells #[.func (.func C.F) #[] #[]] 65 (0, 0)) (zK BK508) hb); have n4_ := Aside0.mk (below_step zB hb); clear BK506; clear BK507; clear BK508; clear HB; have HO511 := n0_; have BK506 := n1_; have BK507 := n2_; have BK508 := n3_; have HB := n4_; clear n0_ n1_ n2_ n3_ n4_; (try clear hb); (try clear hb2); (try clear hk); (try clear hi); (try clear ho0); obtain ⟨Ao13, co13, eo13⟩ := Kd.R_slice HO511.out; subst eo13) | ((with_reducible refine gate_callee (f := 53) rfl ?_); refine goesL_ (some 10) rfl rfl Tryd.func53 (by kernel_rfl) rfl #[.slice Ao13 t509.length co13, .func (.func 54) #[] #[.pointer (some ⟨gb507, 0, none⟩), .pointer (some ⟨gb508, 0, none⟩), .pointer (some ⟨gb506, 0, none⟩)]] rfl zM ?_; (with_reducible refine (g2_.calls C k (fun k_ => some k_ = (.slice Ao13 t509.length co13 : Value).ownBlock) (.slice Ao13 t509.length co13) t509 gb507 gb508 gb506 A1 c1 l1  A0 c0 l0 t512 w _ ?side1 ?side2 ?side3 ?side4 ?side5 ?side6 ?side7 ?side8 ?side9 A5.out).mono ?_); (case side1 => repeat (first | (with_reducible first | exact HB.out | apply below_alloc | apply pw_below_drewN | apply below_drew1 | refine below_set ?_ GE506.out | refine below_set ?_ GE507.out | refine below_set ?_ GE508.out) | exact HB.out)); (case side2 => exact Kd.R_tight rfl HO511.out); (case side3 => exact Kd.C_kept_came (Kd.heap_int .i64) HR1.out zB (fun k_ hs_ => (fun e_ => Kd.R_base HO511.out k_ e_.symm) hs_)); (case side4 => exact HC1.out); (case side5 => exact Kd.C_kept_came k31_heap HR0.out zB (fun k_ hs_ => (fun e_ => Kd.R_base HO511.out k_ e_.symm) hs_)); (case side6 => exact HC0.out); (case side7 => intro W_ hk_; exact blk_kept (zK BK507) hk_ (fun hs_ => (fun e_ => (Kd.R_ne HO511.out BK507.out (by decide)) e_) hs_)); (case side8 => intro W_ hk_; exact blk_kept (zK BK508) hk_ (fun hs_ => (fun e_ => (Kd.R_ne HO511.out BK508.out (by decide)) e_) hs_)); (case side9 => intro W_ hk_; exact blk_kept (zK BK506) hk_ (fun hs_ => (fun e_ => (Kd.R_ne HO511.out BK506.out (by decide)) e_) hs_)); rintro e w14 ⟨v513, rfl, ho0, hb, hkp⟩; refine ⟨_, rfl, ?_⟩; have n0_ := Aside0.mk (blk_kept (zK BK506) hkp (fun hs_ => (fun e_ => (Kd.R_ne HO511.out BK506.out (by decide)) e_) hs_)); have n1_ := Aside0.mk (blk_kept (zK BK507) hkp (fun hs_ => (fun e_ => (Kd.R_ne HO511.out BK507.out (by decide)) e_) hs_)); have n2_ := Aside0.mk (blk_kept (zK BK508) hkp (fun hs_ => (fun e_ => (Kd.R_ne HO511.out BK508.out (by decide)) e_) hs_)); have n3_ := Aside0.mk (Kd.R_mono (ok' := fun k_ => True) ho0 (fun k_ hk_ => trivial)); have n4_ := Aside0.mk (hb); clear BK506; clear BK507; clear BK508; clear HB; clear HO511; have BK506 := n0_; have BK507 := n1_; have BK508 := n2_; have HO514 := n3_; have HB := n4_; clear n0_ n1_ n2_ n3_ n4_; (try clear hb); (try clear hkp); (try clear ho0)))
 go_ret
 exact ⟨_, zE, by (with_reducible repeat (first | apply Kd.R_alloc | apply Kd.R_drewN | apply Kd.R_drew)); exact HO514.out, zB⟩
def g21_.f (k : Nat) (l0 : List (S31)) (l1 : List Int)  : Option (List Int) := g25_.f c_1 k l0 l1
theorem g21_.mono : ∀ a0 a1 k, LeO (g21_.f k a0 a1) (g21_.f (k + 1) a0 a1) := g25_.mono c_1
theorem g21_.calls (k : Nat) (A0 : Option Addr) (c0 : Nat) (l0 : List (S31)) (A1 : Option Addr) (c1 : Nat) (l1 : List Int)  (r : List Int) (w : World) (hr0 : Kd.C k31 w A0 l0.length l0) (hc0 : l0.length ≤ c0) (hr1 : Kd.C (Kd.int .i64) w A1 l1.length l1) (hc1 : l1.length ≤ c1) (h : g21_.f k l0 l1 = some r) :
    Calls Tryd.prog 36 #[.slice A0 l0.length c0, .slice A1 l1.length c1, .func (.func 46) #[] #[]] w fun e w' => ∃ v0_ : Value, e = .returned (v0_) ∧ Kd.R (Kd.int .i64) 3 w' w.heap.size (fun _ => True) v0_ r ∧ Below w.heap.size w w' :=
  g25_.calls c_1 k A0 c0 l0 A1 c1 l1 r w hr0 hc0 hr1 hc1 h
def g22_.f (k : Nat) (l0 : List (S31)) (l1 : List Int)  : Option (List Int) := g25_.f c_2 k l0 l1
theorem g22_.mono : ∀ a0 a1 k, LeO (g22_.f k a0 a1) (g22_.f (k + 1) a0 a1) := g25_.mono c_2
theorem g22_.calls (k : Nat) (A0 : Option Addr) (c0 : Nat) (l0 : List (S31)) (A1 : Option Addr) (c1 : Nat) (l1 : List Int)  (r : List Int) (w : World) (hr0 : Kd.C k31 w A0 l0.length l0) (hc0 : l0.length ≤ c0) (hr1 : Kd.C (Kd.int .i64) w A1 l1.length l1) (hc1 : l1.length ≤ c1) (h : g22_.f k l0 l1 = some r) :
    Calls Tryd.prog 36 #[.slice A0 l0.length c0, .slice A1 l1.length c1, .func (.func 48) #[] #[]] w fun e w' => ∃ v0_ : Value, e = .returned (v0_) ∧ Kd.R (Kd.int .i64) 3 w' w.heap.size (fun _ => True) v0_ r ∧ Below w.heap.size w w' :=
  g25_.calls c_2 k A0 c0 l0 A1 c1 l1 r w hr0 hc0 hr1 hc1 h
def g23_.f (k : Nat) (l0 : List (S31)) (l1 : List Int)  : Option (List Int) := g25_.f c_3 k l0 l1
theorem g23_.mono : ∀ a0 a1 k, LeO (g23_.f k a0 a1) (g23_.f (k + 1) a0 a1) := g25_.mono c_3
theorem g23_.calls (k : Nat) (A0 : Option Addr) (c0 : Nat) (l0 : List (S31)) (A1 : Option Addr) (c1 : Nat) (l1 : List Int)  (r : List Int) (w : World) (hr0 : Kd.C k31 w A0 l0.length l0) (hc0 : l0.length ≤ c0) (hr1 : Kd.C (Kd.int .i64) w A1 l1.length l1) (hc1 : l1.length ≤ c1) (h : g23_.f k l0 l1 = some r) :
    Calls Tryd.prog 36 #[.slice A0 l0.length c0, .slice A1 l1.length c1, .func (.func 49) #[] #[]] w fun e w' => ∃ v0_ : Value, e = .returned (v0_) ∧ Kd.R (Kd.int .i64) 3 w' w.heap.size (fun _ => True) v0_ r ∧ Below w.heap.size w w' :=
  g25_.calls c_3 k A0 c0 l0 A1 c1 l1 r w hr0 hc0 hr1 hc1 h
def g24_.f (k : Nat) (l0 : List (S31)) (l1 : List Int)  : Option (List Int) := g25_.f c_4 k l0 l1
theorem g24_.mono : ∀ a0 a1 k, LeO (g24_.f k a0 a1) (g24_.f (k + 1) a0 a1) := g25_.mono c_4
theorem g24_.calls (k : Nat) (A0 : Option Addr) (c0 : Nat) (l0 : List (S31)) (A1 : Option Addr) (c1 : Nat) (l1 : List Int)  (r : List Int) (w : World) (hr0 : Kd.C k31 w A0 l0.length l0) (hc0 : l0.length ≤ c0) (hr1 : Kd.C (Kd.int .i64) w A1 l1.length l1) (hc1 : l1.length ≤ c1) (h : g24_.f k l0 l1 = some r) :
    Calls Tryd.prog 36 #[.slice A0 l0.length c0, .slice A1 l1.length c1, .func (.func 51) #[] #[]] w fun e w' => ∃ v0_ : Value, e = .returned (v0_) ∧ Kd.R (Kd.int .i64) 3 w' w.heap.size (fun _ => True) v0_ r ∧ Below w.heap.size w w' :=
  g25_.calls c_4 k A0 c0 l0 A1 c1 l1 r w hr0 hc0 hr1 hc1 h
/-! ### best_left: function 22 -/
mutual
def best_left.l0 : Nat → List (S31) → List Int → Int → Int → Option (List Int)
  | 0, _, _, _, _ => none
  | k + 1, x0, x3, x8, x9 => if x9 < x8 then (if x3.length < 17592186044416 then (best_left.l0 k x0 (x3 ++ [x9]) x8 (wrap64 (x9 + 1))) else (none)) else ((best_steps.f).bind fun t518 => (best_left.l1 k x0 x3 t518 (t518.length : Int) 0))
def best_left.l1 : Nat → List (S31) → List Int → List Int → Int → Int → Option (List Int)
  | 0, _, _, _, _, _ => none
  | k + 1, x0, x3, x17, x18, x19 => if x19 < x18 then (if 0 ≤ x19 then (if x19 < (x17.length : Int) then (if rd x17 x19 = 46 then ((g21_.f k x0 x3).bind fun t522 => (best_left.l1 k x0 t522 x17 x18 (wrap64 (x19 + 1)))) else (if rd x17 x19 = 48 then ((g22_.f k x0 x3).bind fun t526 => (best_left.l1 k x0 t526 x17 x18 (wrap64 (x19 + 1)))) else (if rd x17 x19 = 49 then ((g23_.f k x0 x3).bind fun t530 => (best_left.l1 k x0 t530 x17 x18 (wrap64 (x19 + 1)))) else (if rd x17 x19 = 51 then ((g24_.f k x0 x3).bind fun t534 => (best_left.l1 k x0 t534 x17 x18 (wrap64 (x19 + 1)))) else (none))))) else (none)) else (none)) else (some x3)
end
def best_left.f (k : Nat) (l0 : List (S31)) : Option (List Int) := best_left.l0 k l0 ([] : List Int) (l0.length : Int) 0
theorem best_left.mono_l : ∀ k, (∀ y0 y1 y2 y3, LeO (best_left.l0 k y0 y1 y2 y3) (best_left.l0 (k + 1) y0 y1 y2 y3)) ∧ (∀ y0 y1 y2 y3 y4, LeO (best_left.l1 k y0 y1 y2 y3 y4) (best_left.l1 (k + 1) y0 y1 y2 y3 y4))
  | 0 => ⟨fun _ _ _ _ r h => by simp [best_left.l0] at h, fun _ _ _ _ _ r h => by simp [best_left.l1] at h⟩
  | k + 1 => by
    obtain ⟨ih0, ih1⟩ := best_left.mono_l k
    refine ⟨?_, ?_⟩
    · intro y0 y1 y2 y3
      unfold best_left.l0
      repeat' (with_reducible first | exact ih0 _ _ _ _ | exact ih1 _ _ _ _ _ | exact g21_.mono _ _ _ | exact g22_.mono _ _ _ | exact g23_.mono _ _ _ | exact g24_.mono _ _ _ | exact LeO.refl _ | exact LeO.none _ | refine LeO.ite ?_ ?_ | refine LeO.bind ?_ (fun _ => ?_))
    · intro y0 y1 y2 y3 y4
      unfold best_left.l1
      repeat' (with_reducible first | exact ih0 _ _ _ _ | exact ih1 _ _ _ _ _ | exact g21_.mono _ _ _ | exact g22_.mono _ _ _ | exact g23_.mono _ _ _ | exact g24_.mono _ _ _ | exact LeO.refl _ | exact LeO.none _ | refine LeO.ite ?_ ?_ | refine LeO.bind ?_ (fun _ => ?_))
theorem best_left.mono : ∀ a0 k, LeO (best_left.f k a0) (best_left.f (k + 1) a0) := by
  intro a0 k
  obtain ⟨ih0, ih1⟩ := best_left.mono_l k
  unfold best_left.f
  repeat' (with_reducible first | exact ih0 _ _ _ _ | exact ih1 _ _ _ _ _ | exact g21_.mono _ _ _ | exact g22_.mono _ _ _ | exact g23_.mono _ _ _ | exact g24_.mono _ _ _ | exact LeO.refl _ | exact LeO.none _ | refine LeO.ite ?_ ?_ | refine LeO.bind ?_ (fun _ => ?_))
set_option maxHeartbeats 8000000 in
set_option maxRecDepth 100000 in
theorem best_left.calls (k : Nat) (A0 : Option Addr) (c0 : Nat) (l0 : List (S31)) (r : List Int) (w : World) (hr0 : Kd.C k31 w A0 l0.length l0) (hc0 : l0.length ≤ c0) (h : best_left.f k l0 = some r) :
 Calls Tryd.prog 22 #[.slice A0 l0.length c0] w fun e w' => ∃ v0_ : Value, e = .returned (v0_) ∧ Kd.R (Kd.int .i64) 3 w' w.heap.size (fun _ => True) v0_ r ∧ Below w.heap.size w w' := by
 have HR0 := Aside0.mk hr0
 have HC0 := Aside0.mk hc0
 clear hr0 hc0
 have HB := Aside0.mk (Below.refl w.heap.size w)
 have H : (best_left.l0 k l0 ([] : List Int) (l0.length : Int) 0) = some r := h
 clear h
 have H' := Aside0.mk H
 clear H
 go_enter Tryd.func22, Tryd.ntmps22
 go_wp2
 go_loopg [3, 9] k (fun kq v3 v9 w' => ∃ (x3_1 : List Int) (x9_1 : Int), v9 = .int .i64 x9_1 ∧ Aside0 (best_left.l0 kq l0 x3_1 (l0.length : Int) x9_1 = some r) ∧ Aside0 (kq ≤ k) ∧ Aside0 (Kd.R (Kd.int .i64) 3 w' w.heap.size (fun _ => True) v3 x3_1) ∧ Aside0 (Below w.heap.size w w'))
 case atStart => exact ⟨(([] : List Int)), (0), zR, H', ⟨Nat.le_refl _⟩, ⟨by first | exact Kd.R_nil _ _ _ _ _ | exact Kd.N_nil _ _ _ _ _ | exact Kd.V_nil _ _ _ _ _ | exact Kd.Q_nil _ _ _ _ _ | exact Kd.S_nil _ _ _ _ _⟩, ⟨zB⟩⟩
 clear H'
 obtain ⟨x3_1, x9_1, rfl, HA, HK1, HO_3, HB⟩ := hrel
 rcases gk with _ | k1
 · exact absurd HA.out (by simp [best_left.l0])
 have H := HA.out
 clear HA
 simp only [best_left.l0] at H
 by_cases c2 : x9_1 < (l0.length : Int)
 ·
  rw [if_pos c2] at H
  have c2b0 : decide (x9_1 < (l0.length : Int)) = true := decide_eq_true c2
  clear c2
  by_cases c3 : x3_1.length < 17592186044416
  rotate_left
  · rw [if_neg c3] at H; exact absurd H (by simp)
  rw [if_pos c3] at H
  have LMc3 := Aside0.mk c3
  clear c3
  obtain ⟨y515, hy515⟩ : ∃ y_ : List Int, y_ = (x3_1 ++ [x9_1]) := ⟨_, rfl⟩
  replace H : (best_left.l0 k1 l0 y515 (l0.length : Int) (wrap64 (x9_1 + 1))) = some r := by first | (rw [hy515]; with_reducible exact H) | (have H2_ := (Option.bind_some _ _).symm.trans H; rw [hy515]; with_reducible exact H2_) | (have H2_ := (Option.bind_some _ _).symm.trans H; with_reducible exact H2_) | with_reducible exact H | (rw [hy515]; exact H) | exact H
  have Ny515 := Aside0.mk hy515
  clear hy515
  have H' := Aside0.mk H
  clear H
  go_wp2_with (first | ((with_reducible refine gate_builtin (b := .append) (xs := #[.tmp 12, .tmp 14]) rfl ?_); at_builtin; refine Kd.R_append (Kd.int .i64) (w0 := w) w.heap.size rfl (.tmp 12) (.tmp 14) 23 3 (.int .i64 0) 8 rfl Tryd.underlying23 info3 rfl (by decide) (by omega) u3 x3_1 x9_1 [.int .i64 x9_1] (fun _ => True) (fun _ => False) rfl rfl ?aP (fun _ hk => hk.elim) ?aF ?aO ?aB ?aS ?aL ?_; (case aP => exact rfl); (case aB => exact zB); (case aF => exact (fun _ _ => trivial)); (case aO => exact (zO HO_3)); (case aS => exact (below_size zB)); (case aL => have := LMc3.out; omega); intro v516 w4 ho hb hg hat; rw [← Ny515.out] at ho; have n0_ := Aside0.mk (hb); have n1_ := Aside0.mk (ho); clear HB; clear HO_3; have HB := n0_; have HO517 := n1_; clear n0_ n1_; clear ho hb hg hat))
  go_roundg k1
  case measure => have := HK1.out; omega
  case rel => exact ⟨(y515), (wrap64 (x9_1 + 1)), zR, H', ⟨by have := HK1.out; omega⟩, ⟨zO HO517⟩, ⟨zB⟩⟩
 rw [if_neg c2] at H
 have c2b0 : decide (x9_1 < (l0.length : Int)) = false := decide_eq_false c2
 clear c2
 replace H := Option.bind_eq_some_iff.mp H
 obtain ⟨t518, A50, H⟩ := H
 replace H : (best_left.l1 k1 l0 x3_1 t518 (t518.length : Int) 0) = some r := H
 have A5 := Aside0.mk A50
 clear A50
 have H' := Aside0.mk H
 clear H
 go_wp2_with (first | ((with_reducible refine gate_callee (f := 35) rfl ?_); refine goesL_ (some 17) rfl rfl Tryd.func35 (by kernel_rfl) rfl #[] rfl zM ?_; (with_reducible refine (best_steps.calls  t518 _ A5.out).mono ?_); rintro e w6 ⟨v519, rfl, ho0, hb⟩; refine ⟨_, rfl, ?_⟩; have n0_ := Aside0.mk (Kd.R_below (zO HO_3) hb); have n1_ := Aside0.mk (Kd.R_lower ho0 (below_size zB)); have n2_ := Aside0.mk (below_step zB hb); clear HO_3; clear HB; have HO_3 := n0_; have HO520 := n1_; have HB := n2_; clear n0_ n1_ n2_; (try clear hb); (try clear hb2); (try clear hk); (try clear hi); (try clear ho0); obtain ⟨Ao7, co7, eo7⟩ := Kd.R_slice HO520.out; subst eo7))
 go_loopg [3, 19] k1 (fun kq v3 v19 w' => ∃ (x3_2 : List Int) (x19_2 : Int), v19 = .int .i64 x19_2 ∧ Aside0 (best_left.l1 kq l0 x3_2 t518 (t518.length : Int) x19_2 = some r) ∧ Aside0 (kq ≤ k1) ∧ Aside0 (Kd.R (Kd.int .i64) 3 w' w.heap.size (fun _ => True) v3 x3_2) ∧ Aside0 (Kd.R Kd.fn 65 w' w.heap.size (fun _ => True) (.slice Ao7 t518.length co7) t518) ∧ Aside0 (Below w.heap.size w w'))
 case atStart => exact ⟨(x3_1), (0), zR, H', ⟨Nat.le_refl _⟩, ⟨zO HO_3⟩, ⟨zO HO520⟩, ⟨zB⟩⟩
 clear H'
 try clear c2
 try clear c2b0
 try clear p2
 try clear c3
 try clear p6
 obtain ⟨x3_2, x19_2, rfl, HA, HK2, HO_3, HO_17, HB⟩ := hrel
 rcases gk with _ | k2
 · exact absurd HA.out (by simp [best_left.l1])
 have H := HA.out
 clear HA
 simp only [best_left.l1] at H
 by_cases c8 : x19_2 < (t518.length : Int)
 rotate_left
 ·
  rw [if_neg c8] at H
  have c8b0 : decide (x19_2 < (t518.length : Int)) = false := decide_eq_false c8
  clear c8
  obtain rfl := Option.some.inj H
  go_wp2
  go_ret
  exact ⟨_, zE, by (with_reducible repeat (first | apply Kd.R_alloc | apply Kd.R_drewN | apply Kd.R_drew)); exact HO_3.out, zB⟩
 rw [if_pos c8] at H
 have c8b0 : decide (x19_2 < (t518.length : Int)) = true := decide_eq_true c8
 clear c8
 by_cases c9 : 0 ≤ x19_2
 rotate_left
 · rw [if_neg c9] at H; exact absurd H (by simp)
 rw [if_pos c9] at H
 have c9b0 : decide (0 ≤ x19_2) = true := decide_eq_true c9
 clear c9
 by_cases c10 : x19_2 < (t518.length : Int)
 rotate_left
 · rw [if_neg c10] at H; exact absurd H (by simp)
 rw [if_pos c10] at H
 have c10b0 : decide (x19_2 < (t518.length : Int)) = true := decide_eq_true c10
 clear c10
 by_cases c11 : rd t518 x19_2 = 46
 ·
  rw [if_pos c11] at H
  have c11b0 : (rd t518 x19_2 == 46) = true := beq_iff_eq.mpr c11
  have c11b1 : (rd t518 x19_2 != 46) = false := bne_eq_false_iff_eq.mpr c11
  clear c11
  replace H := Option.bind_eq_some_iff.mp H
  obtain ⟨t522, A120, H⟩ := H
  replace H : (best_left.l1 k2 l0 t522 t518 (t518.length : Int) (wrap64 (x19_2 + 1))) = some r := H
  have A12 := Aside0.mk A120
  clear A120
  have H' := Aside0.mk H
  clear H
  have p521 : 0 ≤ (x19_2 : Int) := od
  have q521 : x19_2 < (t518.length : Int) := od
  obtain ⟨ad521, e521, hx521_0⟩ := Kd.at_fn (Kd.R_reads' HO_17.out).2.2 x19_2 p521 q521
  replace hx521_0 := hx521_0.trans (by rw [show rd t518 x19_2 = 46 from by first | exact beq_iff_eq.mp (by assumption) | (exact of_decide_eq_true (by assumption))]; rfl : _ = some (.func (.func 46) #[] #[]))
  cases e521
  replace p521 := eq_true p521
  replace q521 := eq_true q521
  obtain ⟨Ao13, co13, eo13⟩ := Kd.R_slice HO_3.out
  subst eo13
  go_wp2_with (first | ((with_reducible refine gate_callee (f := 36) rfl ?_); refine goesL_ (some 26) rfl rfl Tryd.func36 (by kernel_rfl) rfl #[.slice A0 l0.length c0, .slice Ao13 x3_2.length co13, .func (.func 46) #[] #[]] rfl zM ?_; (with_reducible refine (g21_.calls k2 _ _ l0 _ _ x3_2  t522 _ ?side1 ?side2 ?side3 ?side4 A12.out).mono ?_); (case side1 => exact zC HR0 HB); (case side2 => exact HC0.out); (case side3 => repeat (first | exact (Kd.R_reads' HO_3.out).2.2 | (with_reducible refine Kd.C_alloc ?_ _) | (with_reducible refine Kd.C_drewN ?_ _) | (with_reducible refine Kd.C_drew ?_))); (case side4 => exact (Kd.R_reads' HO_3.out).2.1); rintro e w14 ⟨v523, rfl, ho0, hb⟩; refine ⟨_, rfl, ?_⟩; have n0_ := Aside0.mk (Kd.R_elder' (zO HO_3) (Kd.R_base ho0) hb); have n1_ := Aside0.mk (Kd.R_below (zO HO_17) hb); have n2_ := Aside0.mk (Kd.R_lower (Kd.R_new' ho0 (Kd.R_lt (zO HO_3))) (below_size zB)); have n3_ := Aside0.mk (below_step zB hb); clear HO_3; clear HO_17; clear HB; have HO_3 := n0_; have HO_17 := n1_; have HO524 := n2_; have HB := n3_; clear n0_ n1_ n2_ n3_; (try clear hb); (try clear hb2); (try clear hk); (try clear hi); (try clear ho0)))
  go_roundg k2
  case measure => have := HK1.out; have := HK2.out; omega
  case rel => exact ⟨(t522), (wrap64 (x19_2 + 1)), zR, H', ⟨by have := HK1.out; have := HK2.out; omega⟩, ⟨by (with_reducible repeat (first | apply Kd.R_alloc | apply Kd.R_drewN | apply Kd.R_drew)); exact Kd.R_mono HO524.out (fun _ hk => trivial)⟩, ⟨zO HO_17⟩, ⟨zB⟩⟩
 rw [if_neg c11] at H
 have c11b0 : (rd t518 x19_2 == 46) = false := beq_eq_false_iff_ne.mpr c11
 have c11b1 : (rd t518 x19_2 != 46) = true := bne_iff_ne.mpr c11
 by_cases c15 : rd t518 x19_2 = 48
 ·
  rw [if_pos c15] at H
  have c15b0 : (rd t518 x19_2 == 48) = true := beq_iff_eq.mpr c15
  have c15b1 : (rd t518 x19_2 != 48) = false := bne_eq_false_iff_eq.mpr c15
  clear c15
  replace H := Option.bind_eq_some_iff.mp H
  obtain ⟨t526, A160, H⟩ := H
  replace H : (best_left.l1 k2 l0 t526 t518 (t518.length : Int) (wrap64 (x19_2 + 1))) = some r := H
  have A16 := Aside0.mk A160
  clear A160
  have H' := Aside0.mk H
  clear H
  have p525 : 0 ≤ (x19_2 : Int) := od
  have q525 : x19_2 < (t518.length : Int) := od
  obtain ⟨ad525, e525, hx525_0⟩ := Kd.at_fn (Kd.R_reads' HO_17.out).2.2 x19_2 p525 q525
  replace hx525_0 := hx525_0.trans (by rw [show rd t518 x19_2 = 48 from by first | exact beq_iff_eq.mp (by assumption) | (exact of_decide_eq_true (by assumption))]; rfl : _ = some (.func (.func 48) #[] #[]))
  cases e525
  replace p525 := eq_true p525
  replace q525 := eq_true q525
  obtain ⟨Ao17, co17, eo17⟩ := Kd.R_slice HO_3.out
  subst eo17
  go_wp2_with (first | ((with_reducible refine gate_callee (f := 36) rfl ?_); refine goesL_ (some 26) rfl rfl Tryd.func36 (by kernel_rfl) rfl #[.slice A0 l0.length c0, .slice Ao17 x3_2.length co17, .func (.func 48) #[] #[]] rfl zM ?_; (with_reducible refine (g22_.calls k2 _ _ l0 _ _ x3_2  t526 _ ?side1 ?side2 ?side3 ?side4 A16.out).mono ?_); (case side1 => exact zC HR0 HB); (case side2 => exact HC0.out); (case side3 => repeat (first | exact (Kd.R_reads' HO_3.out).2.2 | (with_reducible refine Kd.C_alloc ?_ _) | (with_reducible refine Kd.C_drewN ?_ _) | (with_reducible refine Kd.C_drew ?_))); (case side4 => exact (Kd.R_reads' HO_3.out).2.1); rintro e w18 ⟨v527, rfl, ho0, hb⟩; refine ⟨_, rfl, ?_⟩; have n0_ := Aside0.mk (Kd.R_elder' (zO HO_3) (Kd.R_base ho0) hb); have n1_ := Aside0.mk (Kd.R_below (zO HO_17) hb); have n2_ := Aside0.mk (Kd.R_lower (Kd.R_new' ho0 (Kd.R_lt (zO HO_3))) (below_size zB)); have n3_ := Aside0.mk (below_step zB hb); clear HO_3; clear HO_17; clear HB; have HO_3 := n0_; have HO_17 := n1_; have HO528 := n2_; have HB := n3_; clear n0_ n1_ n2_ n3_; (try clear hb); (try clear hb2); (try clear hk); (try clear hi); (try clear ho0)))
  go_roundg k2
  case measure => have := HK1.out; have := HK2.out; omega
  case rel => exact ⟨(t526), (wrap64 (x19_2 + 1)), zR, H', ⟨by have := HK1.out; have := HK2.out; omega⟩, ⟨by (with_reducible repeat (first | apply Kd.R_alloc | apply Kd.R_drewN | apply Kd.R_drew)); exact Kd.R_mono HO528.out (fun _ hk => trivial)⟩, ⟨zO HO_17⟩, ⟨zB⟩⟩
 rw [if_neg c15] at H
 have c15b0 : (rd t518 x19_2 == 48) = false := beq_eq_false_iff_ne.mpr c15
 have c15b1 : (rd t518 x19_2 != 48) = true := bne_iff_ne.mpr c15
 by_cases c19 : rd t518 x19_2 = 49
 ·
  rw [if_pos c19] at H
  have c19b0 : (rd t518 x19_2 == 49) = true := beq_iff_eq.mpr c19
  have c19b1 : (rd t518 x19_2 != 49) = false := bne_eq_false_iff_eq.mpr c19
  clear c19
  replace H := Option.bind_eq_some_iff.mp H
  obtain ⟨t530, A200, H⟩ := H
  replace H : (best_left.l1 k2 l0 t530 t518 (t518.length : Int) (wrap64 (x19_2 + 1))) = some r := H
  have A20 := Aside0.mk A200
  clear A200
  have H' := Aside0.mk H
  clear H
  have p529 : 0 ≤ (x19_2 : Int) := od
  have q529 : x19_2 < (t518.length : Int) := od
  obtain ⟨ad529, e529, hx529_0⟩ := Kd.at_fn (Kd.R_reads' HO_17.out).2.2 x19_2 p529 q529
  replace hx529_0 := hx529_0.trans (by rw [show rd t518 x19_2 = 49 from by first | exact beq_iff_eq.mp (by assumption) | (exact of_decide_eq_true (by assumption))]; rfl : _ = some (.func (.func 49) #[] #[]))
  cases e529
  replace p529 := eq_true p529
  replace q529 := eq_true q529
  obtain ⟨Ao21, co21, eo21⟩ := Kd.R_slice HO_3.out
  subst eo21
  go_wp2_with (first | ((with_reducible refine gate_callee (f := 36) rfl ?_); refine goesL_ (some 26) rfl rfl Tryd.func36 (by kernel_rfl) rfl #[.slice A0 l0.length c0, .slice Ao21 x3_2.length co21, .func (.func 49) #[] #[]] rfl zM ?_; (with_reducible refine (g23_.calls k2 _ _ l0 _ _ x3_2  t530 _ ?side1 ?side2 ?side3 ?side4 A20.out).mono ?_); (case side1 => exact zC HR0 HB); (case side2 => exact HC0.out); (case side3 => repeat (first | exact (Kd.R_reads' HO_3.out).2.2 | (with_reducible refine Kd.C_alloc ?_ _) | (with_reducible refine Kd.C_drewN ?_ _) | (with_reducible refine Kd.C_drew ?_))); (case side4 => exact (Kd.R_reads' HO_3.out).2.1); rintro e w22 ⟨v531, rfl, ho0, hb⟩; refine ⟨_, rfl, ?_⟩; have n0_ := Aside0.mk (Kd.R_elder' (zO HO_3) (Kd.R_base ho0) hb); have n1_ := Aside0.mk (Kd.R_below (zO HO_17) hb); have n2_ := Aside0.mk (Kd.R_lower (Kd.R_new' ho0 (Kd.R_lt (zO HO_3))) (below_size zB)); have n3_ := Aside0.mk (below_step zB hb); clear HO_3; clear HO_17; clear HB; have HO_3 := n0_; have HO_17 := n1_; have HO532 := n2_; have HB := n3_; clear n0_ n1_ n2_ n3_; (try clear hb); (try clear hb2); (try clear hk); (try clear hi); (try clear ho0)))
  go_roundg k2
  case measure => have := HK1.out; have := HK2.out; omega
  case rel => exact ⟨(t530), (wrap64 (x19_2 + 1)), zR, H', ⟨by have := HK1.out; have := HK2.out; omega⟩, ⟨by (with_reducible repeat (first | apply Kd.R_alloc | apply Kd.R_drewN | apply Kd.R_drew)); exact Kd.R_mono HO532.out (fun _ hk => trivial)⟩, ⟨zO HO_17⟩, ⟨zB⟩⟩
 rw [if_neg c19] at H
 have c19b0 : (rd t518 x19_2 == 49) = false := beq_eq_false_iff_ne.mpr c19
 have c19b1 : (rd t518 x19_2 != 49) = true := bne_iff_ne.mpr c19
 by_cases c23 : rd t518 x19_2 = 51
 rotate_left
 · rw [if_neg c23] at H; exact absurd H (by simp)
 rw [if_pos c23] at H
 have c23b0 : (rd t518 x19_2 == 51) = true := beq_iff_eq.mpr c23
 have c23b1 : (rd t518 x19_2 != 51) = false := bne_eq_false_iff_eq.mpr c23
 clear c23
 replace H := Option.bind_eq_some_iff.mp H
 obtain ⟨t534, A240, H⟩ := H
 replace H : (best_left.l1 k2 l0 t534 t518 (t518.length : Int) (wrap64 (x19_2 + 1))) = some r := H
 have A24 := Aside0.mk A240
 clear A240
 have H' := Aside0.mk H
 clear H
 have p533 : 0 ≤ (x19_2 : Int) := od
 have q533 : x19_2 < (t518.length : Int) := od
 obtain ⟨ad533, e533, hx533_0⟩ := Kd.at_fn (Kd.R_reads' HO_17.out).2.2 x19_2 p533 q533
 replace hx533_0 := hx533_0.trans (by rw [show rd t518 x19_2 = 51 from by first | exact beq_iff_eq.mp (by assumption) | (exact of_decide_eq_true (by assumption))]; rfl : _ = some (.func (.func 51) #[] #[]))
 cases e533
 replace p533 := eq_true p533
 replace q533 := eq_true q533
 obtain ⟨Ao25, co25, eo25⟩ := Kd.R_slice HO_3.out
 subst eo25
 go_wp2_with (first | ((with_reducible refine gate_callee (f := 36) rfl ?_); refine goesL_ (some 26) rfl rfl Tryd.func36 (by kernel_rfl) rfl #[.slice A0 l0.length c0, .slice Ao25 x3_2.length co25, .func (.func 51) #[] #[]] rfl zM ?_; (with_reducible refine (g24_.calls k2 _ _ l0 _ _ x3_2  t534 _ ?side1 ?side2 ?side3 ?side4 A24.out).mono ?_); (case side1 => exact zC HR0 HB); (case side2 => exact HC0.out); (case side3 => repeat (first | exact (Kd.R_reads' HO_3.out).2.2 | (with_reducible refine Kd.C_alloc ?_ _) | (with_reducible refine Kd.C_drewN ?_ _) | (with_reducible refine Kd.C_drew ?_))); (case side4 => exact (Kd.R_reads' HO_3.out).2.1); rintro e w26 ⟨v535, rfl, ho0, hb⟩; refine ⟨_, rfl, ?_⟩; have n0_ := Aside0.mk (Kd.R_elder' (zO HO_3) (Kd.R_base ho0) hb); have n1_ := Aside0.mk (Kd.R_below (zO HO_17) hb); have n2_ := Aside0.mk (Kd.R_lower (Kd.R_new' ho0 (Kd.R_lt (zO HO_3))) (below_size zB)); have n3_ := Aside0.mk (below_step zB hb); clear HO_3; clear HO_17; clear HB; have HO_3 := n0_; have HO_17 := n1_; have HO536 := n2_; have HB := n3_; clear n0_ n1_ n2_ n3_; (try clear hb); (try clear hb2); (try clear hk); (try clear hi); (try clear ho0)))
 go_roundg k2
 case measure => have := HK1.out; have := HK2.out; omega
 case rel => exact ⟨(t534), (wrap64 (x19_2 + 1)), zR, H', ⟨by have := HK1.out; have := HK2.out; omega⟩, ⟨by (with_reducible repeat (first | apply Kd.R_alloc | apply Kd.R_drewN | apply Kd.R_drew)); exact Kd.R_mono HO536.out (fun _ hk => trivial)⟩, ⟨zO HO_17⟩, ⟨zB⟩⟩
/-! ### best_Choose: function 9 -/
def best_Choose.f (k : Nat) (l0 : List (S31)) : Option (Int × Int) := (best_wrong.f k l0).bind fun t537 => (if t537 = 0 then (if (l0.length : Int) = 0 then (some (0, 4)) else ((best_left.f k l0).bind fun t538 => (if 0 < (t538.length : Int) then (some (rd t538 0, 0)) else (none)))) else (some (0, t537)))
theorem best_Choose.mono : ∀ a0 k, LeO (best_Choose.f k a0) (best_Choose.f (k + 1) a0) := by
  intro a0 k
  unfold best_Choose.f
  repeat' (with_reducible first | exact best_left.mono _ _ | exact best_wrong.mono _ _ | exact LeO.refl _ | exact LeO.none _ | refine LeO.ite ?_ ?_ | refine LeO.bind ?_ (fun _ => ?_))
set_option maxHeartbeats 8000000 in
set_option maxRecDepth 100000 in
theorem best_Choose.calls (k : Nat) (A0 : Option Addr) (c0 : Nat) (l0 : List (S31)) (r1 : Int) (r2 : Int) (w : World) (hr0 : Kd.C k31 w A0 l0.length l0) (hc0 : l0.length ≤ c0) (h : best_Choose.f k l0 = some (r1, r2)) :
 Calls Tryd.prog 9 #[.slice A0 l0.length c0] w fun e w' => e = .returned (.tuple #[.int .i64 r1, .int .i64 r2]) ∧ Below w.heap.size w w' := by
 have hu3 := Tryd.underlying3
 have HR0 := Aside0.mk hr0
 have HC0 := Aside0.mk hc0
 clear hr0 hc0
 have HB := Aside0.mk (Below.refl w.heap.size w)
 have H : ((best_wrong.f k l0).bind fun t537 => (if t537 = 0 then (if (l0.length : Int) = 0 then (some (0, 4)) else ((best_left.f k l0).bind fun t538 => (if 0 < (t538.length : Int) then (some (rd t538 0, 0)) else (none)))) else (some (0, t537)))) = some (r1, r2) := h
 clear h
 replace H := Option.bind_eq_some_iff.mp H
 obtain ⟨t537, A20, H⟩ := H
 replace H : (if t537 = 0 then (if (l0.length : Int) = 0 then (some (0, 4)) else ((best_left.f k l0).bind fun t538 => (if 0 < (t538.length : Int) then (some (rd t538 0, 0)) else (none)))) else (some (0, t537))) = some (r1, r2) := H
 have A2 := Aside0.mk A20
 clear A20
 by_cases c3 : t537 = 0
 rotate_left
 ·
  rw [if_neg c3] at H
  have c3b0 : (t537 == 0) = false := beq_eq_false_iff_ne.mpr c3
  have c3b1 : (t537 != 0) = true := bne_iff_ne.mpr c3
  simp only [Option.some.injEq, Prod.mk.injEq] at H
  obtain ⟨rfl, rfl⟩ := H
  go_enter Tryd.func9, Tryd.ntmps9
  go_wp2_with (first | ((with_reducible refine gate_callee (f := 21) rfl ?_); refine goesL_ (some 6) rfl rfl Tryd.func21 (by kernel_rfl) rfl #[.slice A0 l0.length c0] rfl zM ?_; (with_reducible refine (best_wrong.calls k _ _ l0 t537 _ ?side1 ?side2 A2.out).mono ?_); (case side1 => repeat (first | exact HR0.out | (with_reducible refine Kd.C_alloc ?_ _) | (with_reducible refine Kd.C_drewN ?_ _) | (with_reducible refine Kd.C_drew ?_))); (case side2 => exact HC0.out); rintro e w11 ⟨rfl, hb⟩; refine ⟨_, rfl, ?_⟩; have n0_ := Aside0.mk (below_step zB hb); clear HB; have HB := n0_; clear n0_; (try clear hb); (try clear hb2); (try clear hk); (try clear hi)))
  go_ret2
  exact ⟨zE, zB⟩
 rw [if_pos c3] at H
 have c3b0 : (t537 == 0) = true := beq_iff_eq.mpr c3
 have c3b1 : (t537 != 0) = false := bne_eq_false_iff_eq.mpr c3
 clear c3
 by_cases c4 : (l0.length : Int) = 0
 ·
  rw [if_pos c4] at H
  have c4b0 : ((l0.length : Int) == 0) = true := beq_iff_eq.mpr c4
  have c4b1 : ((l0.length : Int) != 0) = false := bne_eq_false_iff_eq.mpr c4
  clear c4
  simp only [Option.some.injEq, Prod.mk.injEq] at H
  obtain ⟨rfl, rfl⟩ := H
  go_enter Tryd.func9, Tryd.ntmps9
  go_wp2_with (first | ((with_reducible refine gate_callee (f := 21) rfl ?_); refine goesL_ (some 6) rfl rfl Tryd.func21 (by kernel_rfl) rfl #[.slice A0 l0.length c0] rfl zM ?_; (with_reducible refine (best_wrong.calls k _ _ l0 t537 _ ?side1 ?side2 A2.out).mono ?_); (case side1 => repeat (first | exact HR0.out | (with_reducible refine Kd.C_alloc ?_ _) | (with_reducible refine Kd.C_drewN ?_ _) | (with_reducible refine Kd.C_drew ?_))); (case side2 => exact HC0.out); rintro e w5 ⟨rfl, hb⟩; refine ⟨_, rfl, ?_⟩; have n0_ := Aside0.mk (below_step zB hb); clear HB; have HB := n0_; clear n0_; (try clear hb); (try clear hb2); (try clear hk); (try clear hi)))
  go_ret2
  exact ⟨zE, zB⟩
 rw [if_neg c4] at H
 have c4b0 : ((l0.length : Int) == 0) = false := beq_eq_false_iff_ne.mpr c4
 have c4b1 : ((l0.length : Int) != 0) = true := bne_iff_ne.mpr c4
 have c4b2 : ¬ (l0 = []) := fun h_ => c4 (by rw [h_]; rfl)
 replace H := Option.bind_eq_some_iff.mp H
 obtain ⟨t538, A60, H⟩ := H
 replace H : (if 0 < (t538.length : Int) then (some (rd t538 0, 0)) else (none)) = some (r1, r2) := H
 have A6 := Aside0.mk A60
 clear A60
 by_cases c7 : 0 < (t538.length : Int)
 rotate_left
 · rw [if_neg c7] at H; exact absurd H (by simp)
 rw [if_pos c7] at H
 have c7b0 : decide (0 < (t538.length : Int)) = true := decide_eq_true c7
 have c7b1 : decide (0 < t538.length) = true := decide_eq_true (by omega)
 clear c7
 simp only [Option.some.injEq, Prod.mk.injEq] at H
 obtain ⟨rfl, rfl⟩ := H
 go_enter Tryd.func9, Tryd.ntmps9
 go_wp2_with (first | ((with_reducible refine gate_callee (f := 21) rfl ?_); refine goesL_ (some 6) rfl rfl Tryd.func21 (by kernel_rfl) rfl #[.slice A0 l0.length c0] rfl zM ?_; (with_reducible refine (best_wrong.calls k _ _ l0 t537 _ ?side1 ?side2 A2.out).mono ?_); (case side1 => repeat (first | exact HR0.out | (with_reducible refine Kd.C_alloc ?_ _) | (with_reducible refine Kd.C_drewN ?_ _) | (with_reducible refine Kd.C_drew ?_))); (case side2 => exact HC0.out); rintro e w8 ⟨rfl, hb⟩; refine ⟨_, rfl, ?_⟩; have n0_ := Aside0.mk (below_step zB hb); clear HB; have HB := n0_; clear n0_; (try clear hb); (try clear hb2); (try clear hk); (try clear hi)) | ((with_reducible refine gate_callee (f := 22) rfl ?_); refine goesL_ (some 16) rfl rfl Tryd.func22 (by kernel_rfl) rfl #[.slice A0 l0.length c0] rfl zM ?_; (with_reducible refine (best_left.calls k _ _ l0 t538 _ ?side1 ?side2 A6.out).mono ?_); (case side1 => exact zC HR0 HB); (case side2 => exact HC0.out); rintro e w9 ⟨v539, rfl, ho0, hb⟩; refine ⟨_, rfl, ?_⟩; have n0_ := Aside0.mk (Kd.R_lower ho0 (below_size zB)); have n1_ := Aside0.mk (below_step zB hb); clear HB; have HO540 := n0_; have HB := n1_; clear n0_ n1_; (try clear hb); (try clear hb2); (try clear hk); (try clear hi); (try clear ho0); obtain ⟨Ao10, co10, eo10⟩ := Kd.R_slice HO540.out; subst eo10; have p541 : 0 ≤ (0 : Int) := (by omega); have q541 : 0 < (t538.length : Int) := od; obtain ⟨ad541, e541, hx541_0⟩ := Kd.at_int (Kd.R_reads' HO540.out).2.2 0 p541 q541; cases e541; have qi541 : (0 < t538.length) = True := eq_true (by omega); (try rw [show ((0 : Int)).toNat = 0 from rfl] at hx541_0); (try rw [Addr.add_zero'] at hx541_0); replace p541 := eq_true p541; replace q541 := eq_true q541))
 go_ret2
 exact ⟨zE, zB⟩
/-! ### g14_: function 6 -/
def g14_.f (k : Nat)  : Option (Bool) := (best_Choose.f k (([(⟨(⟨0, 0⟩ : S29), ([] : List Int), 1, 0, ([] : List Int)⟩ : S31), (⟨(⟨0, 0⟩ : S29), ([] : List Int), 2, 0, ([] : List Int)⟩ : S31)] : List (S31)))).bind fun bt545 => (if bt545.2 = 0 then (some (bt545.1 == 1)) else (some false))
theorem g14_.mono : ∀ k, LeO (g14_.f k ) (g14_.f (k + 1) ) := by
  intro  k
  unfold g14_.f
  repeat' (with_reducible first | exact best_Choose.mono _ _ | exact LeO.refl _ | exact LeO.none _ | refine LeO.ite ?_ ?_ | refine LeO.bind ?_ (fun _ => ?_))
set_option maxHeartbeats 8000000 in
set_option maxRecDepth 100000 in
theorem g14_.calls (k : Nat)  (r : Bool) (w : World) (h : g14_.f k  = some r) :
 Calls Tryd.prog 6 #[] w fun e w' => e = .returned (.bool r) ∧ Below w.heap.size w w' := by
 have hu31 := Tryd.underlying31
 have HB := Aside0.mk (Below.refl w.heap.size w)
 have H : ((best_Choose.f k (([(⟨(⟨0, 0⟩ : S29), ([] : List Int), 1, 0, ([] : List Int)⟩ : S31), (⟨(⟨0, 0⟩ : S29), ([] : List Int), 2, 0, ([] : List Int)⟩ : S31)] : List (S31)))).bind fun bt545 => (if bt545.2 = 0 then (some (bt545.1 == 1)) else (some false))) = some r := h
 clear h
 obtain ⟨y542, hy542⟩ : ∃ y_ : List (S31), y_ = (([(⟨(⟨0, 0⟩ : S29), ([] : List Int), 1, 0, ([] : List Int)⟩ : S31), (⟨(⟨0, 0⟩ : S29), ([] : List Int), 2, 0, ([] : List Int)⟩ : S31)] : List (S31))) := ⟨_, rfl⟩
 replace H : ((best_Choose.f k y542).bind fun bt545 => (if bt545.2 = 0 then (some (bt545.1 == 1)) else (some false))) = some r := by first | (rw [hy542]; with_reducible exact H) | (have H2_ := (Option.bind_some _ _).symm.trans H; rw [hy542]; with_reducible exact H2_) | (have H2_ := (Option.bind_some _ _).symm.trans H; with_reducible exact H2_) | with_reducible exact H | (rw [hy542]; exact H) | exact H
 have Ny542 := Aside0.mk hy542
 clear hy542
 replace H := Option.bind_eq_some_iff.mp H
 obtain ⟨⟨t545, t546⟩, A10, H⟩ := H
 replace H : (if t546 = 0 then (some (t545 == 1)) else (some false)) = some r := H
 have A1 := Aside0.mk A10
 clear A10
 by_cases c2 : t546 = 0
 ·
  rw [if_pos c2] at H
  have c2b0 : (t546 == 0) = true := beq_iff_eq.mpr c2
  have c2b1 : (t546 != 0) = false := bne_eq_false_iff_eq.mpr c2
  clear c2
  obtain rfl := Option.some.inj H
  go_enter Tryd.func6, Tryd.ntmps6
  go_wp2_with (first | ((with_reducible refine gate_dst (N := 6) rfl ?_); refine Kd.S_lit k31 _ 31 ?hg (N := 6) ?hd (xs := ([(⟨(⟨0, 0⟩ : S29), ([] : List Int), 1, 0, ([] : List Int)⟩ : S31), (⟨(⟨0, 0⟩ : S29), ([] : List Int), 2, 0, ([] : List Int)⟩ : S31)] : List (S31))) (inner := [.int .u32 0, .int .i64 0, .slice none 0 0, .int .i64 1, .int .i64 0, .slice none 0 0, .int .u32 0, .int .i64 0, .slice none 0 0, .int .i64 2, .int .i64 0, .slice none 0 0]) (ok := fun _ => True) (okp := fun _ => True) ?hr ?hp (fun _ hk => hk) trivial (Below.refl _ _) (Nat.le_refl _) (by simp) ?_; (case hd => rfl); (case hg => rfl); (case hr => first | (go_simp; done) | (go_simp; rfl)); (case hp => exact (Reps.c6 (show Kd.M k31 _ _ _ (⟨(⟨0, 0⟩ : S29), ([] : List Int), 1, 0, ([] : List Int)⟩ : S31) [.int .u32 0, .int .i64 0, .slice none 0 0, .int .i64 1, .int .i64 0, .slice none 0 0] from (k31_mkM _ _ _ (⟨(⟨0, 0⟩ : S29), ([] : List Int), 1, 0, ([] : List Int)⟩ : S31) (Kd.R_nil _ _ _ _ _) (Kd.R_nil _ _ _ _ _))) (Reps.c6 (show Kd.M k31 _ _ _ (⟨(⟨0, 0⟩ : S29), ([] : List Int), 2, 0, ([] : List Int)⟩ : S31) [.int .u32 0, .int .i64 0, .slice none 0 0, .int .i64 2, .int .i64 0, .slice none 0 0] from (k31_mkM _ _ _ (⟨(⟨0, 0⟩ : S29), ([] : List Int), 2, 0, ([] : List Int)⟩ : S31) (Kd.R_nil _ _ _ _ _) (Kd.R_nil _ _ _ _ _))) (Reps.none _ _)))); intro v543 w3 ho4 hb hg_ hnew_; clear hg_ hnew_; (first | rw [← Ny542.out] at ho4 | (simp only [Int.reduceToNat] at ho4; rw [← Ny542.out] at ho4)); have n0_ := Aside0.mk (Kd.S_lower ho4 (below_size zB)); have n1_ := Aside0.mk (below_step zB hb); clear HB; have HO544 := n0_; have HB := n1_; clear n0_ n1_; clear hb ho4; obtain ⟨Ao5, co5, eo5⟩ := Kd.S_slice HO544.out; subst eo5) | ((with_reducible refine gate_callee (f := 9) rfl ?_); refine goesL_ (some 7) rfl rfl Tryd.func9 (by kernel_rfl) rfl #[.slice Ao5 y542.length co5] rfl zM ?_; (with_reducible refine (best_Choose.calls k _ _ y542 t545 t546 _ ?side1 ?side2 A1.out).mono ?_); (case side1 => repeat (first | exact (Kd.S_reads' HO544.out).2.2 | (with_reducible refine Kd.C_alloc ?_ _) | (with_reducible refine Kd.C_drewN ?_ _) | (with_reducible refine Kd.C_drew ?_))); (case side2 => exact (Kd.S_reads' HO544.out).2.1); rintro e w6 ⟨rfl, hb⟩; refine ⟨_, rfl, ?_⟩; have n0_ := Aside0.mk (Kd.S_below (zS HO544) hb); have n1_ := Aside0.mk (below_step zB hb); clear HO544; clear HB; have HO544 := n0_; have HB := n1_; clear n0_ n1_; (try clear hb); (try clear hb2); (try clear hk); (try clear hi)))
  go_ret
  exact ⟨zE, zB⟩
 rw [if_neg c2] at H
 have c2b0 : (t546 == 0) = false := beq_eq_false_iff_ne.mpr c2
 have c2b1 : (t546 != 0) = true := bne_iff_ne.mpr c2
 obtain rfl := Option.some.inj H
 go_enter Tryd.func6, Tryd.ntmps6
 go_wp2_with (first | ((with_reducible refine gate_dst (N := 6) rfl ?_); refine Kd.S_lit k31 _ 31 ?hg (N := 6) ?hd (xs := ([(⟨(⟨0, 0⟩ : S29), ([] : List Int), 1, 0, ([] : List Int)⟩ : S31), (⟨(⟨0, 0⟩ : S29), ([] : List Int), 2, 0, ([] : List Int)⟩ : S31)] : List (S31))) (inner := [.int .u32 0, .int .i64 0, .slice none 0 0, .int .i64 1, .int .i64 0, .slice none 0 0, .int .u32 0, .int .i64 0, .slice none 0 0, .int .i64 2, .int .i64 0, .slice none 0 0]) (ok := fun _ => True) (okp := fun _ => True) ?hr ?hp (fun _ hk => hk) trivial (Below.refl _ _) (Nat.le_refl _) (by simp) ?_; (case hd => rfl); (case hg => rfl); (case hr => first | (go_simp; done) | (go_simp; rfl)); (case hp => exact (Reps.c6 (show Kd.M k31 _ _ _ (⟨(⟨0, 0⟩ : S29), ([] : List Int), 1, 0, ([] : List Int)⟩ : S31) [.int .u32 0, .int .i64 0, .slice none 0 0, .int .i64 1, .int .i64 0, .slice none 0 0] from (k31_mkM _ _ _ (⟨(⟨0, 0⟩ : S29), ([] : List Int), 1, 0, ([] : List Int)⟩ : S31) (Kd.R_nil _ _ _ _ _) (Kd.R_nil _ _ _ _ _))) (Reps.c6 (show Kd.M k31 _ _ _ (⟨(⟨0, 0⟩ : S29), ([] : List Int), 2, 0, ([] : List Int)⟩ : S31) [.int .u32 0, .int .i64 0, .slice none 0 0, .int .i64 2, .int .i64 0, .slice none 0 0] from (k31_mkM _ _ _ (⟨(⟨0, 0⟩ : S29), ([] : List Int), 2, 0, ([] : List Int)⟩ : S31) (Kd.R_nil _ _ _ _ _) (Kd.R_nil _ _ _ _ _))) (Reps.none _ _)))); intro v543 w7 ho8 hb hg_ hnew_; clear hg_ hnew_; (first | rw [← Ny542.out] at ho8 | (simp only [Int.reduceToNat] at ho8; rw [← Ny542.out] at ho8)); have n0_ := Aside0.mk (Kd.S_lower ho8 (below_size zB)); have n1_ := Aside0.mk (below_step zB hb); clear HB; have HO544 := n0_; have HB := n1_; clear n0_ n1_; clear hb ho8; obtain ⟨Ao9, co9, eo9⟩ := Kd.S_slice HO544.out; subst eo9) | ((with_reducible refine gate_callee (f := 9) rfl ?_); refine goesL_ (some 7) rfl rfl Tryd.func9 (by kernel_rfl) rfl #[.slice Ao9 y542.length co9] rfl zM ?_; (with_reducible refine (best_Choose.calls k _ _ y542 t545 t546 _ ?side1 ?side2 A1.out).mono ?_); (case side1 => repeat (first | exact (Kd.S_reads' HO544.out).2.2 | (with_reducible refine Kd.C_alloc ?_ _) | (with_reducible refine Kd.C_drewN ?_ _) | (with_reducible refine Kd.C_drew ?_))); (case side2 => exact (Kd.S_reads' HO544.out).2.1); rintro e w10 ⟨rfl, hb⟩; refine ⟨_, rfl, ?_⟩; have n0_ := Aside0.mk (Kd.S_below (zS HO544) hb); have n1_ := Aside0.mk (below_step zB hb); clear HO544; clear HB; have HO544 := n0_; have HB := n1_; clear n0_ n1_; (try clear hb); (try clear hb2); (try clear hk); (try clear hi)))
 go_ret
 exact ⟨zE, zB⟩
/-! ### g26_: function 19 -/
def g26_.f (l0 : List (S31)) (a1 : Int) : Option ((List (S31))) := if 0 ≤ (mn (l0.length : Int) a1) then (if (mn (l0.length : Int) a1) ≤ (l0.length : Int) then (some (l0.take ((mn (l0.length : Int) a1) : Int).toNat)) else (none)) else (none)
set_option maxHeartbeats 8000000 in
set_option maxRecDepth 100000 in
theorem g26_.calls (P0_ : Nat → Prop) (A0 : Option Addr) (c0 : Nat) (l0 : List (S31)) (a1 : Int) (r : List (S31)) (w : World) (hs0 : Kd.V k31 31 w w.heap.size (fun k_ => P0_ k_) (.slice A0 l0.length c0) l0) (h : g26_.f l0 a1 = some r) :
 Calls Tryd.prog 19 #[.slice A0 l0.length c0, .int .i64 a1] w fun e w' => ∃ v0_ : Value, e = .returned (v0_) ∧ Kd.V k31 31 w' w.heap.size (fun k_ => (P0_ k_ ∨ w.heap.size ≤ k_)) v0_ r ∧ Below w.heap.size w w' := by
 have HO0 := Aside0.mk (show Kd.V k31 31 w w.heap.size (fun k_ => (P0_ k_ ∨ w.heap.size ≤ k_)) (.slice A0 l0.length c0) l0 from Kd.V_mono hs0 (fun k_ hk => .inl hk))
 have HB := Aside0.mk (Below.refl w.heap.size w)
 have H : (if 0 ≤ (mn (l0.length : Int) a1) then (if (mn (l0.length : Int) a1) ≤ (l0.length : Int) then (some (l0.take ((mn (l0.length : Int) a1) : Int).toNat)) else (none)) else (none)) = some r := h
 clear h
 obtain ⟨ji3, hji3⟩ : ∃ j_ : Int, (mn (l0.length : Int) a1) = j_ := ⟨_, rfl⟩
 replace H : (if 0 ≤ (ji3) then (if (ji3) ≤ (l0.length : Int) then (some (l0.take ((ji3) : Int).toNat)) else (none)) else (none)) = some r := by first | (rw [hji3] at H; exact H) | (simp only [hji3] at H ⊢; exact H)
 have hji3_ : (if a1 < (l0.length : Int) then a1 else (l0.length : Int)) = ji3 := hji3
 by_cases c4 : 0 ≤ (ji3)
 rotate_left
 · rw [if_neg c4] at H; exact absurd H (by simp)
 rw [if_pos c4] at H
 have c4b0 := eq_true c4
 have c4b1 : decide (0 ≤ (ji3)) = true := decide_eq_true c4
 clear c4
 by_cases c5 : (ji3) ≤ (l0.length : Int)
 rotate_left
 · rw [if_neg c5] at H; exact absurd H (by simp)
 rw [if_pos c5] at H
 have c5b0 := eq_true c5
 have c5b1 : decide ((ji3) ≤ (l0.length : Int)) = true := decide_eq_true c5
 clear c5
 obtain ⟨y548, hy548⟩ : ∃ y_ : List (S31), y_ = (l0.take ((ji3) : Int).toNat) := ⟨_, rfl⟩
 replace H : (some y548) = some r := by first | (rw [hy548]; with_reducible exact H) | (have H2_ := (Option.bind_some _ _).symm.trans H; rw [hy548]; with_reducible exact H2_) | (have H2_ := (Option.bind_some _ _).symm.trans H; with_reducible exact H2_) | with_reducible exact H | (rw [hy548]; exact H) | exact H
 have Ny548 := Aside0.mk hy548
 clear hy548
 obtain rfl := Option.some.inj H
 have q6 : ((ji3) : Int) ≤ ((l0.length : Int) : Int) := od
 obtain ⟨i06, hi06, _, hsz6, _⟩ := info_parts info31
 have hroom6 : l0.length ≤ c0 := (Kd.V_reads' HO0.out).2.1
 have hC6 : Kd.F k31 _ _ A0 l0.length l0 := (Kd.V_at (base := w.heap.size) HO0.out).2.2
 have hcut6 := cut_to (P := Tryd.prog) 22 31 .i64 Tryd.underlying22 hi06 A0 l0.length c0 (ji3) (od) q6 hroom6
 have hr6 := Kd.F_take (m := ((ji3) : Int).toNat) hC6 (by omega)
 have hy6 : y548.length = ((ji3) : Int).toNat := (by rw [Ny548.out, List.length_take]; omega)
 rw [← Ny548.out] at hr6
 rw [← hy6] at hcut6
 have HO552 := Aside0.mk (show Kd.V k31 31 _ w.heap.size _ (.slice A0 y548.length c0) y548 from Kd.V_mk (by omega) hr6)
 have HC552 := Aside0.mk (show y548.length ≤ c0 from by omega)
 clear hr6 hC6 hroom6 hi06 hsz6
 have KY6 := Aside0.mk hy6
 clear hy6
 replace q6 := eq_true q6
 go_enter Tryd.func19, Tryd.ntmps19
 go_wp2
 go_ret
 exact ⟨_, by first | rfl | (simp [errW_none, errW_some] <;> rfl) | (simp only [← hji3]; first | rfl | (simp [errW_none, errW_some] <;> rfl)) | (simp [*, errW_none, errW_some] <;> rfl), by (with_reducible repeat (first | apply Kd.V_alloc | apply Kd.V_drewN | apply Kd.V_drew)); exact HO552.out, zB⟩
/-! ### g28_: function 26 -/
def g28_.f (l0 : List Int) (a1 : Int) : Option (List Int) := if 0 ≤ (mn (l0.length : Int) a1) then (if (mn (l0.length : Int) a1) ≤ (l0.length : Int) then (some (l0.take ((mn (l0.length : Int) a1) : Int).toNat)) else (none)) else (none)
set_option maxHeartbeats 8000000 in
set_option maxRecDepth 100000 in
theorem g28_.calls (P0_ : Nat → Prop) (A0 : Option Addr) (c0 : Nat) (l0 : List Int) (a1 : Int) (r : List Int) (w : World) (hs0 : Kd.V (Kd.int .i64) 3 w w.heap.size (fun k_ => P0_ k_) (.slice A0 l0.length c0) l0) (h : g28_.f l0 a1 = some r) :
 Calls Tryd.prog 26 #[.slice A0 l0.length c0, .int .i64 a1] w fun e w' => ∃ v0_ : Value, e = .returned (v0_) ∧ Kd.V (Kd.int .i64) 3 w' w.heap.size (fun k_ => (P0_ k_ ∨ w.heap.size ≤ k_)) v0_ r ∧ Below w.heap.size w w' := by
 have HO0 := Aside0.mk (show Kd.V (Kd.int .i64) 3 w w.heap.size (fun k_ => (P0_ k_ ∨ w.heap.size ≤ k_)) (.slice A0 l0.length c0) l0 from Kd.V_mono hs0 (fun k_ hk => .inl hk))
 have HB := Aside0.mk (Below.refl w.heap.size w)
 have H : (if 0 ≤ (mn (l0.length : Int) a1) then (if (mn (l0.length : Int) a1) ≤ (l0.length : Int) then (some (l0.take ((mn (l0.length : Int) a1) : Int).toNat)) else (none)) else (none)) = some r := h
 clear h
 obtain ⟨ji3, hji3⟩ : ∃ j_ : Int, (mn (l0.length : Int) a1) = j_ := ⟨_, rfl⟩
 replace H : (if 0 ≤ (ji3) then (if (ji3) ≤ (l0.length : Int) then (some (l0.take ((ji3) : Int).toNat)) else (none)) else (none)) = some r := by first | (rw [hji3] at H; exact H) | (simp only [hji3] at H ⊢; exact H)
 have hji3_ : (if a1 < (l0.length : Int) then a1 else (l0.length : Int)) = ji3 := hji3
 by_cases c4 : 0 ≤ (ji3)
 rotate_left
 · rw [if_neg c4] at H; exact absurd H (by simp)
 rw [if_pos c4] at H
 have c4b0 := eq_true c4
 have c4b1 : decide (0 ≤ (ji3)) = true := decide_eq_true c4
 clear c4
 by_cases c5 : (ji3) ≤ (l0.length : Int)
 rotate_left
 · rw [if_neg c5] at H; exact absurd H (by simp)
 rw [if_pos c5] at H
 have c5b0 := eq_true c5
 have c5b1 : decide ((ji3) ≤ (l0.length : Int)) = true := decide_eq_true c5
 clear c5
 obtain ⟨y562, hy562⟩ : ∃ y_ : List Int, y_ = (l0.take ((ji3) : Int).toNat) := ⟨_, rfl⟩
 replace H : (some y562) = some r := by first | (rw [hy562]; with_reducible exact H) | (have H2_ := (Option.bind_some _ _).symm.trans H; rw [hy562]; with_reducible exact H2_) | (have H2_ := (Option.bind_some _ _).symm.trans H; with_reducible exact H2_) | with_reducible exact H | (rw [hy562]; exact H) | exact H
 have Ny562 := Aside0.mk hy562
 clear hy562
 obtain rfl := Option.some.inj H
 have q6 : ((ji3) : Int) ≤ ((l0.length : Int) : Int) := od
 obtain ⟨i06, hi06, _, hsz6, _⟩ := info_parts info3
 have hroom6 : l0.length ≤ c0 := (Kd.V_reads' HO0.out).2.1
 have hC6 : Kd.F (Kd.int .i64) _ _ A0 l0.length l0 := (Kd.V_at (base := w.heap.size) HO0.out).2.2
 have hcut6 := cut_to (P := Tryd.prog) 23 3 .i64 Tryd.underlying23 hi06 A0 l0.length c0 (ji3) (od) q6 hroom6
 have hr6 := Kd.F_take (m := ((ji3) : Int).toNat) hC6 (by omega)
 have hy6 : y562.length = ((ji3) : Int).toNat := (by rw [Ny562.out, List.length_take]; omega)
 rw [← Ny562.out] at hr6
 rw [← hy6] at hcut6
 have HO566 := Aside0.mk (show Kd.V (Kd.int .i64) 3 _ w.heap.size _ (.slice A0 y562.length c0) y562 from Kd.V_mk (by omega) hr6)
 have HC566 := Aside0.mk (show y562.length ≤ c0 from by omega)
 clear hr6 hC6 hroom6 hi06 hsz6
 have KY6 := Aside0.mk hy6
 clear hy6
 replace q6 := eq_true q6
 go_enter Tryd.func26, Tryd.ntmps26
 go_wp2
 go_ret
 exact ⟨_, by first | rfl | (simp [errW_none, errW_some] <;> rfl) | (simp only [← hji3]; first | rfl | (simp [errW_none, errW_some] <;> rfl)) | (simp [*, errW_none, errW_some] <;> rfl), by (with_reducible repeat (first | apply Kd.V_alloc | apply Kd.V_drewN | apply Kd.V_drew)); exact HO566.out, zB⟩
/-! ### cmp_Less_int: function 62 -/
def cmp_Less_int.f (a0 : Int) (a1 : Int) : Option (Bool) := (g16_.f a0).bind fun t588 => (if t588 = true then ((g16_.f a1).bind fun t589 => (if t589 = true then (some (decide (a0 < a1))) else (some true))) else (some (decide (a0 < a1))))
set_option maxHeartbeats 8000000 in
set_option maxRecDepth 100000 in
theorem cmp_Less_int.calls (a0 : Int) (a1 : Int) (r : Bool) (w : World) (h : cmp_Less_int.f a0 a1 = some r) :
 Calls Tryd.prog 62 #[.int .i64 a0, .int .i64 a1] w fun e w' => e = .returned (.bool r) ∧ Drawn0 w w' := by
 have H : ((g16_.f a0).bind fun t588 => (if t588 = true then ((g16_.f a1).bind fun t589 => (if t589 = true then (some (decide (a0 < a1))) else (some true))) else (some (decide (a0 < a1))))) = some r := h
 clear h
 replace H := Option.bind_eq_some_iff.mp H
 obtain ⟨t588, A30, H⟩ := H
 replace H : (if t588 = true then ((g16_.f a1).bind fun t589 => (if t589 = true then (some (decide (a0 < a1))) else (some true))) else (some (decide (a0 < a1)))) = some r := H
 have A3 := Aside0.mk A30
 clear A30
 by_cases c4 : t588 = true
 rotate_left
 ·
  replace c4 := Bool.eq_false_iff.mpr c4
  subst c4
  have H1 : (some (decide (a0 < a1))) = some r := by rw [if_neg (show ¬ (false = true) by decide)] at H; exact H
  clear H
  have H := H1
  clear H1
  obtain rfl := Option.some.inj H
  go_enter Tryd.func62, Tryd.ntmps62
  go_wp2_with (first | ((with_reducible refine gate_callee (f := 70) rfl ?_); refine goesL_ (some 6) rfl rfl Tryd.func70 (by kernel_rfl) rfl #[.int .i64 a0] rfl zM ?_; (with_reducible refine (g16_.calls a0 false _ A3.out).mono ?_); rintro e w' ⟨rfl, ⟨nd, rfl⟩⟩; refine ⟨_, rfl, ?_⟩))
  go_ret
  exact ⟨zR, by repeat (first | exact Drawn0.refl _ | apply Drawn0.step)⟩
 subst c4
 have H1 : ((g16_.f a1).bind fun t589 => (if t589 = true then (some (decide (a0 < a1))) else (some true))) = some r := by rw [if_pos rfl] at H; exact H
 clear H
 have H := H1
 clear H1
 replace H := Option.bind_eq_some_iff.mp H
 obtain ⟨t589, A50, H⟩ := H
 replace H : (if t589 = true then (some (decide (a0 < a1))) else (some true)) = some r := H
 have A5 := Aside0.mk A50
 clear A50
 by_cases c6 : t589 = true
 ·
  subst c6
  have H1 : (some (decide (a0 < a1))) = some r := by rw [if_pos rfl] at H; exact H
  clear H
  have H := H1
  clear H1
  obtain rfl := Option.some.inj H
  go_enter Tryd.func62, Tryd.ntmps62
  go_wp2_with (first | ((with_reducible refine gate_callee (f := 70) rfl ?_); refine goesL_ (some 6) rfl rfl Tryd.func70 (by kernel_rfl) rfl #[.int .i64 a0] rfl zM ?_; (with_reducible refine (g16_.calls a0 true _ A3.out).mono ?_); rintro e w' ⟨rfl, ⟨nd, rfl⟩⟩; refine ⟨_, rfl, ?_⟩) | (go_at_call 70; (with_reducible refine (g16_.calls a1 true _ A5.out).mono ?_); rintro e w' ⟨rfl, ⟨nd, rfl⟩⟩))
  go_ret
  exact ⟨zR, by repeat (first | exact Drawn0.refl _ | apply Drawn0.step)⟩
 replace c6 := Bool.eq_false_iff.mpr c6
 subst c6
 have H1 : (some true) = some r := by rw [if_neg (show ¬ (false = true) by decide)] at H; exact H
 clear H
 have H := H1
 clear H1
 obtain rfl := Option.some.inj H
 go_enter Tryd.func62, Tryd.ntmps62
 go_wp2_with (first | ((with_reducible refine gate_callee (f := 70) rfl ?_); refine goesL_ (some 6) rfl rfl Tryd.func70 (by kernel_rfl) rfl #[.int .i64 a0] rfl zM ?_; (with_reducible refine (g16_.calls a0 true _ A3.out).mono ?_); rintro e w' ⟨rfl, ⟨nd, rfl⟩⟩; refine ⟨_, rfl, ?_⟩) | (go_at_call 70; (with_reducible refine (g16_.calls a1 false _ A5.out).mono ?_); rintro e w' ⟨rfl, ⟨nd, rfl⟩⟩))
 go_ret
 exact ⟨zR, by repeat (first | exact Drawn0.refl _ | apply Drawn0.step)⟩
end Go.Proofs.YtplcdbhklepkgaaDoor.BO
