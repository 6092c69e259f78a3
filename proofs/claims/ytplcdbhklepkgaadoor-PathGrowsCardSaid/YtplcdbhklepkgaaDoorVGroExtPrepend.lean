/- path.Prepend of a domain, at most six times: a route whose way has that domain so many times more in front; of its own. No condition beside what the plain function says. -/
import Derived.Test.YtplcdbhklepkgaaDoorVGroPGx7
import Derived.Test.YtplcdbhklepkgaaDoorVGroPGx9
import Derived.Test.YtplcdbhklepkgaaDoorVGroExtRepeat
namespace Go.Proofs.YtplcdbhklepkgaaDoor.PG
open Go.RowKit Go.Proofs.YtplcdbhklepkgaaDoorW.PrintWords Go.Proofs.YtplcdbhklepkgaaDoorW.PrintLast Go.Proofs.YtplcdbhklepkgaaDoorW.PrintMore Go.Proofs.YtplcdbhklepkgaaDoor.GenWords
set_option linter.unusedVariables false
set_option linter.unusedSimpArgs false
def path_Prepend.f (k : Nat) (a0_0 a0_1 : Int) (l0_2 : List Int) (a0_3 a0_4 : Int) (l0_5 : List Int) (a1 a2 : Int) : Option (Int × Int × List Int × Int × Int × List Int × Int) :=
  if 0 ≤ a2 then (if a2 ≤ 6 then (if a2 + (l0_2.length : Int) ≤ 32 then ((path_wrong.f k a0_0 a0_1 l0_2 a0_3 a0_4 l0_5 a1).bind fun e => (if e = 0 then ((g6_.f [a1] a2).bind fun r => ((g7_.f k [r, l0_2]).bind fun q => ((g18_.f l0_5).bind fun u => (some (a0_0, a0_1, q, a0_3, a0_4, u, 0))))) else (none))) else (none)) else (none)) else (none)
theorem path_Prepend.mono : ∀ a0 a1 a2 a3 a4 a5 a6 a7 k, LeO (path_Prepend.f k a0 a1 a2 a3 a4 a5 a6 a7) (path_Prepend.f (k + 1) a0 a1 a2 a3 a4 a5 a6 a7) := by
  intro a0 a1 a2 a3 a4 a5 a6 a7 k
  unfold path_Prepend.f
  repeat' (with_reducible first | exact path_wrong.mono _ _ _ _ _ _ _ _ | exact g7_.mono _ _ | exact LeO.refl _ | exact LeO.none _ | refine LeO.ite ?_ ?_ | refine LeO.bind ?_ (fun _ => ?_))
theorem path_Prepend.lit_step {P : Program} {ops : Array Oper} {o : Oper} {a : Act} {Q : Exit → Act → World → Prop} {Kc : Act → World → Prop} {W : World} (N : Tmp) (hw : Region.wanted o (yielded ops a.tmps) = true) (hd : o.dst = some N) {cs : Array Value} {t : TypeId} {n : Nat}
    (hrun : (execOp a.eval o).run P W = .ok (.value (.slice (some ⟨W.heap.size, 0, none⟩) n n)) (W.alloc (.cells cs t (0, 0))))
    (h : ∀ g, g = W.heap.size → ∀ w1, w1.heap[g]? = some (.cells cs t (0, 0)) → Below W.heap.size W w1 → Kc (a.put (some N) (.slice (some ⟨g, 0, none⟩) n n)) w1) : if Region.wanted o (yielded ops a.tmps) = true then Oper.wp P o a W Kc Q else Kc (a.put o.dst undef) W := by
  refine event_step hw hrun ?_
  rw [hd]
  exact h _ rfl _ (blk_new W _) (below_alloc (Below.refl _ _) _)
theorem path_Prepend.results {P : Program} {fn : Func} {p q : Tmp} {ty : TypeId} (h : fn.results = #[.cell p ty, .tmp q]) (tmps : Array Value) (w : World) (g : Nat) (t : TypeId) (cs : Array Value) (fr : Nat × Nat) (d : TypeDesc)
    (hp : tmps.getD p undef = .pointer (some ⟨g, 0, none⟩)) (hg : w.heap[g]? = some (.cells cs t fr))
    (hu : P.underlying ty = some d) (hd : (match d with | .struct _ | .array _ _ => true | _ => false) = true) (hi : (P.info? ty).map (·.size) = some cs.size) :
    (Go.results fn tmps).run P w = .ok (.tuple #[.agg cs, tmps.getD q undef]) w := by
  have hp' : tmps[p]?.getD undef = .pointer (some ⟨g, 0, none⟩) := by simpa using hp
  simp [Go.results, h, hp', asAddr, run_loadVar_row w g t ty cs fr d hg hu hd hi]
theorem path_Prepend.low {W : World} {base b1 : Nat} {ok ok' : Nat → Prop} {v : Value} {xs : List Int} (h : Kd.R (Kd.int .i64) 3 W b1 ok v xs) (hb : base ≤ b1) (hok : ∀ k, b1 ≤ k → ok' k) : Kd.R (Kd.int .i64) 3 W base ok' v xs := by
  have ho := Kd.own_of_R h
  refine Kd.R_of_own (enc := Value.int .i64) ⟨ho.1, ?_⟩ (fun k hk => hok k (Kd.R_base h k hk))
  rcases ho.2 with h0 | ⟨g, cap, cur, e, h1, rest⟩
  · exact .inl h0
  · exact .inr ⟨g, cap, cur, e, Nat.le_trans hb h1, rest⟩
set_option maxHeartbeats 1000000 in
set_option maxRecDepth 100000 in
theorem path_Prepend.calls (k : Nat) (a0_0 : Int) (a0_1 : Int) (A0_2 : Option Addr) (c0_2 : Nat) (l0_2 : List Int) (a0_3 : Int) (a0_4 : Int) (A0_5 : Option Addr) (c0_5 : Nat) (l0_5 : List Int) (a1 : Int) (a2 : Int) (r1 : Int) (r2 : Int) (r3 : List Int) (r4 : Int) (r5 : Int) (r6 : List Int) (r7 : Int) (w : World) (hr0_2 : Kd.C (Kd.int .i64) w A0_2 l0_2.length l0_2) (hc0_2 : l0_2.length ≤ c0_2) (hr0_5 : Kd.C (Kd.int .i64) w A0_5 l0_5.length l0_5) (hc0_5 : l0_5.length ≤ c0_5) (h : path_Prepend.f k a0_0 a0_1 l0_2 a0_3 a0_4 l0_5 a1 a2 = some (r1, r2, r3, r4, r5, r6, r7)) :
    Calls Tryd.prog 16 #[.agg #[.int .u32 a0_0, .int .i64 a0_1, .slice A0_2 l0_2.length c0_2, .int .i64 a0_3, .int .i64 a0_4, .slice A0_5 l0_5.length c0_5], .int .i64 a1, .int .i64 a2] w fun e w' => ∃ v3_ v6_ : Value, e = .returned (.tuple #[.agg #[.int .u32 r1, .int .i64 r2, v3_, .int .i64 r4, .int .i64 r5, v6_], .int .i64 r7]) ∧ Kd.R (Kd.int .i64) 3 w' w.heap.size (fun k_ => some k_ ≠ (v6_ : Value).ownBlock) v3_ r3 ∧ Kd.R (Kd.int .i64) 3 w' w.heap.size (fun k_ => some k_ ≠ (v3_ : Value).ownBlock) v6_ r6 ∧ Below w.heap.size w w' := by
  unfold path_Prepend.f at h
  by_cases h1 : 0 ≤ a2
  rotate_left
  · rw [if_neg h1] at h; cases h
  by_cases h2 : a2 ≤ 6
  rotate_left
  · rw [if_pos h1, if_neg h2] at h; cases h
  by_cases h3 : a2 + (l0_2.length : Int) ≤ 32
  rotate_left
  · rw [if_pos h1, if_pos h2, if_neg h3] at h; cases h
  rw [if_pos h1, if_pos h2, if_pos h3] at h
  replace h := Option.bind_eq_some_iff.mp h
  obtain ⟨e0, hw0, h⟩ := h
  by_cases h4 : e0 = 0
  rotate_left
  · rw [if_neg h4] at h; cases h
  rw [if_pos h4] at h
  subst h4
  replace h := Option.bind_eq_some_iff.mp h
  obtain ⟨rr, hrr, h⟩ := h
  replace h := Option.bind_eq_some_iff.mp h
  obtain ⟨qq, hqq, h⟩ := h
  replace h := Option.bind_eq_some_iff.mp h
  obtain ⟨uu, huu, h⟩ := h
  simp only [Option.some.injEq, Prod.mk.injEq] at h
  obtain ⟨rfl, rfl, rfl, rfl, rfl, rfl, rfl⟩ := h
  have HR2 := Aside0.mk hr0_2
  have HC2 := Aside0.mk hc0_2
  have HR5 := Aside0.mk hr0_5
  have HC5 := Aside0.mk hc0_5
  have HW := Aside0.mk hw0
  have HRR := Aside0.mk hrr
  have HQQ := Aside0.mk hqq
  have HUU := Aside0.mk huu
  have HB := Aside0.mk (Below.refl w.heap.size w)
  have d1 : decide (a2 < 0) = false := decide_eq_false (by omega)
  have d2 : decide (a2 > 32) = false := decide_eq_false (by omega)
  have d3 : decide (a2 + (l0_2.length : Int) > 32) = false := decide_eq_false (by omega)
  have hs1 : IntKind.i64.wrap (a2 + (l0_2.length : Int)) = a2 + (l0_2.length : Int) := by rw [i64_w]; unfold wrap64; omega
  have hs2 : wrap64 (a2 + (l0_2.length : Int)) = a2 + (l0_2.length : Int) := by unfold wrap64; omega
  clear hr0_2 hc0_2 hr0_5 hc0_5 hw0 hrr hqq huu h1 h2 h3
  go_enter Tryd.func16, Tryd.ntmps16
  go_wp2_with (first
    | ((with_reducible refine gate_dst (N := 3) rfl ?_); refine bx 3 (#[.int .u32 a0_0, .int .i64 a0_1, .slice A0_2 l0_2.length c0_2, .int .i64 a0_3, .int .i64 a0_4, .slice A0_5 l0_5.length c0_5]) 31 ?_; intro gb hg w1 hbox hb; have n0_ := Aside0.mk (below_step zB hb); have BK := Aside0.mk hbox; have GB := Aside0.mk ((zG hg : w.heap.size ≤ gb)); clear HB; have HB := n0_; clear n0_ hg hbox hb)
    | ((with_reducible refine gate_dst (N := 6) rfl ?_); refine bx 6 (#[.int .u32 0, .int .i64 0, .slice none 0 0, .int .i64 0, .int .i64 0, .slice none 0 0]) 31 ?_; intro g6 hg w2 hbox hb; have n0_ := Aside0.mk (below_step zB hb); have n1_ := Aside0.mk (blk_below BK.out hb); have BK6 := Aside0.mk hbox; have G6 := Aside0.mk ((zG hg : w.heap.size ≤ g6)); have GN := Aside0.mk (show gb < g6 by have := blk_lt BK.out; omega); clear HB BK; have HB := n0_; have BK := n1_; clear n0_ n1_ hg hbox hb; have hc0 := zT BK 0; have hc1 := zT BK 1; have hc2 := zT BK 2; have hc3 := zT BK 3; have hc4 := zT BK 4; have hc5 := zT BK 5)
    | ((with_reducible refine gate_callee (f := 29) rfl ?_); refine goesL_ (some 11) rfl rfl Tryd.func29 (by kernel_rfl) rfl #[.agg #[.int .u32 a0_0, .int .i64 a0_1, .slice A0_2 l0_2.length c0_2, .int .i64 a0_3, .int .i64 a0_4, .slice A0_5 l0_5.length c0_5], .int .i64 a1] rfl zM ?_; (with_reducible refine (path_wrong.calls k a0_0 a0_1 _ _ l0_2 a0_3 a0_4 _ _ l0_5 a1 0 _ ?s1 ?s2 ?s3 ?s4 HW.out).mono ?_); (case s1 => exact zC HR2 HB); (case s2 => exact HC2.out); (case s3 => exact zC HR5 HB); (case s4 => exact HC5.out); rintro e w3 ⟨rfl, hb⟩; refine ⟨_, rfl, ?_⟩; have n0_ := Aside0.mk (below_step zB hb); have n1_ := Aside0.mk (blk_below BK.out hb); have n2_ := Aside0.mk (blk_below BK6.out hb); clear HB BK BK6 hb hc0 hc1 hc2 hc3 hc4 hc5; have HB := n0_; have BK := n1_; have BK6 := n2_; clear n0_ n1_ n2_; have hc0 := zT BK 0; have hc1 := zT BK 1; have hc2 := zT BK 2; have hc3 := zT BK 3; have hc4 := zT BK 4; have hc5 := zT BK 5))
  have n0_ := Aside0.mk (blk_drew BK.out)
  have n1_ := Aside0.mk (blk_drew BK6.out)
  have n2_ := Aside0.mk (below_drew1 HB.out)
  clear BK BK6 HB hc0 hc1 hc2 hc3 hc4 hc5 d1 d2 d3 hs1 hs2
  have BK := n0_
  have BK6 := n1_
  have HB := n2_
  clear n0_ n1_ n2_
  refine start_ (n := 10) (S := fun w' => w'.cell? ⟨gb, 2, none⟩ = some (.slice A0_2 l0_2.length c0_2)) (ds := [6, 7, 9]) (bm 10 0) (by kernel_rfl) rfl rfl (zT BK 2) (fun hHeld => ?_)
  generalize w3.drew = w4 at BK BK6 HB hHeld ⊢
  refine pv 0 (some 33) (bm 10 1) ?_
  refine pv 2 (some 35) (bm 10 5) ?_
  refine pv 4 (some 37) (bm 10 21) ?_
  refine tv 5 (some 38) (bm 10 53) hHeld ?_
  refine one_ (i := 1) (N := some 34) (bm 10 55) rfl rfl (by kernel_rfl) (by decide) (fun K hK => ?_)
  refine path_Prepend.lit_step 34 (by rfl) rfl (cs := #[.int .i64 a1]) (t := 3) (n := 1) (by first | (go_simp; done) | (go_simp; rfl)) ?_
  intro g1 hg1 w5 hbox hb
  have HL := Aside0.mk (show Kd.C (Kd.int .i64) w5 (some ⟨g1, 0, none⟩) [a1].length [a1] from Kd.C_lit hbox rfl (by simp) (Reps.one (show (Kd.int .i64).K _ a1 [.int .i64 a1] from rfl) (Reps.none _ _)))
  have n0_ := Aside0.mk (below_step HB.out hb)
  have n1_ := Aside0.mk (blk_below BK.out hb)
  have n2_ := Aside0.mk (blk_below BK6.out hb)
  clear HB BK BK6 hbox hb hg1
  have HB := n0_
  have BK := n1_
  have BK6 := n2_
  clear n0_ n1_ n2_
  refine hK.out _ _ (zT BK 2) (fun hHeld => ?_)
  clear hK K
  refine norm_ (a' := ?_) ?_ ?_
  rotate_left
  · show Act.put _ (some 34) _ = _; simp only [Act.put, sA, s0, sS, i64_w, i32_w]; rfl
  refine one_ (i := 3) (N := some 36) (bm 10 63) rfl rfl (by kernel_rfl) (by decide) (fun K hK => ?_)
  refine goes_ Tryd.func31 (by kernel_rfl) rfl #[.slice (some ⟨g1, 0, none⟩) 1 1, .int .i64 a2] (by rfl) rfl rfl zM ?_
  refine (g6_.calls (some ⟨g1, 0, none⟩) 1 [a1] a2 rr _ HL.out (Nat.le_refl _) HRR.out).mono ?_
  rintro e w6 ⟨vr, rfl, ho, hb⟩
  refine ⟨_, rfl, ?_⟩
  obtain ⟨Ar, cr, rfl⟩ := Kd.R_slice ho
  have HR := Aside0.mk (Kd.R_reads' ho)
  have n0_ := Aside0.mk (below_step HB.out hb)
  have n1_ := Aside0.mk (blk_below BK.out hb)
  have n2_ := Aside0.mk (blk_below BK6.out hb)
  clear HB BK BK6 HL hb ho
  have HB := n0_
  have BK := n1_
  have BK6 := n2_
  clear n0_ n1_ n2_
  refine hK.out _ _ (zT BK 2) (fun hHeld => ?_)
  clear hK K
  refine norm_ (a' := ?_) ?_ ?_
  rotate_left
  · show Act.put _ (some 36) _ = _; simp only [Act.put, sA, s0, sS, i64_w, i32_w]; rfl
  refine last_ (i := 6) (N := some 39) (bm 10 127) rfl rfl (by kernel_rfl) (by decide) (fun K hK => ?_)
  refine path_Prepend.lit_step 39 (by rfl) rfl (cs := #[.slice Ar rr.length cr, .slice A0_2 l0_2.length c0_2]) (t := 23) (n := 2) (by first | (go_simp; done) | (go_simp; rfl)) ?_
  intro g2 hg2 w7 hbox hb
  have hy1 : Kd.C (Kd.int .i64) w7 Ar rr.length rr := Kd.C_below HR.out.2.2 hb
  have hy2 : Kd.C (Kd.int .i64) w7 A0_2 l0_2.length l0_2 := zC HR2 ⟨below_step HB.out hb⟩
  have HL := Aside0.mk (show Kd.C (Kd.slice 3 (Kd.int .i64)) w7 (some ⟨g2, 0, none⟩) [rr, l0_2].length [rr, l0_2] from Kd.C_lit hbox rfl (by simp) (Reps.one (show (Kd.slice 3 (Kd.int .i64)).K _ rr [.slice Ar rr.length cr] from ⟨_, _, rfl, HR.out.2.1, hy1⟩) (Reps.one (show (Kd.slice 3 (Kd.int .i64)).K _ l0_2 [.slice A0_2 l0_2.length c0_2] from ⟨_, _, rfl, HC2.out, hy2⟩) (Reps.none _ _))))
  have n0_ := Aside0.mk (below_step HB.out hb)
  have n1_ := Aside0.mk (blk_below BK.out hb)
  have n2_ := Aside0.mk (blk_below BK6.out hb)
  clear HB BK BK6 hbox hb hg2 hy1 hy2
  have HB := n0_
  have BK := n1_
  have BK6 := n2_
  clear n0_ n1_ n2_
  refine hK.out _ _ ?_
  clear hK K
  refine norm_ (a' := ?_) ?_ ?_
  rotate_left
  · show Act.put _ (some 39) _ = _; simp only [Act.put, sA, s0, sS, i64_w, i32_w]; rfl
  refine last_ (i := 7) (N := some 40) (bm 10 255) rfl rfl (by kernel_rfl) (by decide) (fun K hK => ?_)
  refine goes_ Tryd.func30 (by kernel_rfl) rfl #[.slice (some ⟨g2, 0, none⟩) 2 2] (by rfl) rfl rfl zM ?_
  refine (g7_.calls k (some ⟨g2, 0, none⟩) 2 [rr, l0_2] qq _ HL.out (Nat.le_refl _) HQQ.out).mono ?_
  rintro e w8 ⟨vq, rfl, ho, hb⟩
  refine ⟨_, rfl, ?_⟩
  obtain ⟨Aq, cq, rfl⟩ := Kd.R_slice ho
  have HQ := Aside0.mk (path_Prepend.low (base := w.heap.size) (ok' := fun k_ => gb < k_ ∧ g6 < k_) ho (below_size HB.out) (fun k_ hk => by have := blk_lt BK.out; have := blk_lt BK6.out; omega))
  have n0_ := Aside0.mk (below_step HB.out hb)
  have n1_ := Aside0.mk (blk_below BK.out hb)
  have n2_ := Aside0.mk (blk_below BK6.out hb)
  clear HB BK BK6 HL hb ho
  have HB := n0_
  have BK := n1_
  have BK6 := n2_
  clear n0_ n1_ n2_
  refine hK.out _ _ ?_
  clear hK K
  refine norm_ (a' := ?_) ?_ ?_
  rotate_left
  · show Act.put _ (some 40) _ = _; simp only [Act.put, sA, s0, sS, i64_w, i32_w]; rfl
  refine pv 8 (some 41) (bm 10 511) ?_
  refine last_ (i := 9) (N := none) (bm 10 1023) rfl rfl (by kernel_rfl) (by decide) (fun K hK => ?_)
  have hc2 := zT BK 2
  have hf2 := blk_frozen BK.out 2
  refine skip_ (w1 := ?_) (by rfl) rfl ?_ ?_
  rotate_left
  · go_simp; rfl
  refine hK.out _ _ ?_
  clear hK K hc2 hf2
  have n0_ := Aside0.mk (below_set (j := 2) (v := .slice Aq qq.length cq) HB.out GB.out)
  have n1_ := Aside0.mk (blk_put BK.out 2 (.slice Aq qq.length cq) rfl)
  have n2_ := Aside0.mk (blk_far BK6.out (p := ⟨gb, 2, none⟩) (show g6 ≠ gb by have := GN.out; omega) (.slice Aq qq.length cq))
  have n3_ := Aside0.mk (Kd.R_far HQ.out (p := ⟨gb, 2, none⟩) (fun k_ hk => (show k_ ≠ gb by omega)) (.slice Aq qq.length cq))
  clear HB BK BK6 HQ
  have HB := n0_
  have BK := n1_
  have BK6 := n2_
  have HQ := n3_
  clear n0_ n1_ n2_ n3_
  generalize w8.setCell ⟨gb, 2, none⟩ (.slice Aq qq.length cq) = w9 at HB BK BK6 HQ ⊢
  refine done_ (by kernel_rfl) ?_
  have hc0 := zT BK 0
  have hc1 := zT BK 1
  have hc2 := zT BK 2
  have hc3 := zT BK 3
  have hc4 := zT BK 4
  have hc5 := zT BK 5
  go_wp2_with (first
    | ((with_reducible refine gate_callee (f := 32) rfl ?_); refine goesL_ (some 44) rfl rfl Tryd.func32 (by kernel_rfl) rfl #[.slice A0_5 l0_5.length c0_5] rfl zM ?_; (with_reducible refine (g18_.calls _ _ l0_5 uu _ ?s1 ?s2 HUU.out).mono ?_); (case s1 => exact zC HR5 HB); (case s2 => exact HC5.out); rintro e w10 ⟨vu, rfl, ho, hb⟩; refine ⟨_, rfl, ?_⟩; obtain ⟨Au, cu, rfl⟩ := Kd.R_slice ho; have n0_ := Aside0.mk (below_step HB.out hb); have n1_ := Aside0.mk (blk_below BK.out hb); have n2_ := Aside0.mk (blk_below BK6.out hb); have n3_ := Aside0.mk (Kd.R_told (Kd.R_old HQ.out hb) (Kd.R_base ho)); have n4_ := Aside0.mk (path_Prepend.low (base := w.heap.size) (ok' := fun k_ => (gb < k_ ∧ g6 < k_) ∧ w9.heap.size ≤ k_) ho (below_size HB.out) (fun k_ hk => by have := blk_lt BK.out; have := blk_lt BK6.out; omega)); clear HB BK BK6 HQ ho hb hc0 hc1 hc2 hc3 hc4 hc5; have HB := n0_; have BK := n1_; have BK6 := n2_; have HQ := n3_; have HU := n4_; clear n0_ n1_ n2_ n3_ n4_; have hc0 := zT BK 0; have hc1 := zT BK 1; have hc2 := zT BK 2; have hc3 := zT BK 3; have hc4 := zT BK 4; have hc5 := zT BK 5; have hf5 := blk_frozen BK.out 5; have hd0 := zT BK6 0; have hd1 := zT BK6 1; have hd2 := zT BK6 2; have hd3 := zT BK6 3; have hd4 := zT BK6 4; have hd5 := zT BK6 5; have hg0 := blk_frozen BK6.out 0; have hg1 := blk_frozen BK6.out 1; have hg2 := blk_frozen BK6.out 2; have hg3 := blk_frozen BK6.out 3; have hg4 := blk_frozen BK6.out 4; have hg5 := blk_frozen BK6.out 5; have hn1 : gb ≠ g6 := Nat.ne_of_lt GN.out; have hn2 : g6 ≠ gb := hn1.symm))
  clear hc0 hc1 hc2 hc3 hc4 hc5 hf5 hd0 hd1 hd2 hd3 hd4 hd5 hg0 hg1 hg2 hg3 hg4 hg5
  refine bodyPost_ret (path_Prepend.results rfl _ _ g6 31 #[.int .u32 a0_0, .int .i64 a0_1, .slice Aq qq.length cq, .int .i64 a0_3, .int .i64 a0_4, .slice Au uu.length cu] (0, 0) _ rfl ?_ Tryd.underlying31 rfl (by kernel_rfl)) rfl ?_
  · skip
    refine blk_put (cs := #[.int .u32 a0_0, .int .i64 a0_1, .slice Aq qq.length cq, .int .i64 a0_3, .int .i64 a0_4, .slice none 0 0]) ?_ 5 _ rfl
    refine blk_put (cs := #[.int .u32 a0_0, .int .i64 a0_1, .slice Aq qq.length cq, .int .i64 a0_3, .int .i64 0, .slice none 0 0]) ?_ 4 _ rfl
    refine blk_put (cs := #[.int .u32 a0_0, .int .i64 a0_1, .slice Aq qq.length cq, .int .i64 0, .int .i64 0, .slice none 0 0]) ?_ 3 _ rfl
    refine blk_put (cs := #[.int .u32 a0_0, .int .i64 a0_1, .slice none 0 0, .int .i64 0, .int .i64 0, .slice none 0 0]) ?_ 2 _ rfl
    refine blk_put (cs := #[.int .u32 a0_0, .int .i64 0, .slice none 0 0, .int .i64 0, .int .i64 0, .slice none 0 0]) ?_ 1 _ rfl
    refine blk_put (cs := #[.int .u32 0, .int .i64 0, .slice none 0 0, .int .i64 0, .int .i64 0, .slice none 0 0]) ?_ 0 _ rfl
    refine blk_far ?_ hn2 _
    exact BK6.out
  · refine ⟨_, _, rfl, ?_, ?_, ?_⟩
    · exact Kd.R_mono (Kd.R_far (Kd.R_far (Kd.R_far (Kd.R_far (Kd.R_far (Kd.R_far (Kd.R_far HQ.out (p := ⟨gb, 5, none⟩) (fun k_ hk => (show k_ ≠ gb by omega)) (.slice Au uu.length cu)) (p := ⟨g6, 0, none⟩) (fun k_ hk => (show k_ ≠ g6 by omega)) (.int .u32 a0_0)) (p := ⟨g6, 1, none⟩) (fun k_ hk => (show k_ ≠ g6 by omega)) (.int .i64 a0_1)) (p := ⟨g6, 2, none⟩) (fun k_ hk => (show k_ ≠ g6 by omega)) (.slice Aq qq.length cq)) (p := ⟨g6, 3, none⟩) (fun k_ hk => (show k_ ≠ g6 by omega)) (.int .i64 a0_3)) (p := ⟨g6, 4, none⟩) (fun k_ hk => (show k_ ≠ g6 by omega)) (.int .i64 a0_4)) (p := ⟨g6, 5, none⟩) (fun k_ hk => (show k_ ≠ g6 by omega)) (.slice Au uu.length cu)) (fun k_ hk => hk.1.2)
    · exact Kd.R_mono (Kd.R_far (Kd.R_far (Kd.R_far (Kd.R_far (Kd.R_far (Kd.R_far (Kd.R_far HU.out (p := ⟨gb, 5, none⟩) (fun k_ hk => (show k_ ≠ gb by omega)) (.slice Au uu.length cu)) (p := ⟨g6, 0, none⟩) (fun k_ hk => (show k_ ≠ g6 by omega)) (.int .u32 a0_0)) (p := ⟨g6, 1, none⟩) (fun k_ hk => (show k_ ≠ g6 by omega)) (.int .i64 a0_1)) (p := ⟨g6, 2, none⟩) (fun k_ hk => (show k_ ≠ g6 by omega)) (.slice Aq qq.length cq)) (p := ⟨g6, 3, none⟩) (fun k_ hk => (show k_ ≠ g6 by omega)) (.int .i64 a0_3)) (p := ⟨g6, 4, none⟩) (fun k_ hk => (show k_ ≠ g6 by omega)) (.int .i64 a0_4)) (p := ⟨g6, 5, none⟩) (fun k_ hk => (show k_ ≠ g6 by omega)) (.slice Au uu.length cu)) (fun k_ hk => fun e_ => by have h_ := (HQ.out.1 k_ e_.symm).2; omega)
    · exact below_set (j := 5) (v := .slice Au uu.length cu) (below_set (j := 4) (v := .int .i64 a0_4) (below_set (j := 3) (v := .int .i64 a0_3) (below_set (j := 2) (v := .slice Aq qq.length cq) (below_set (j := 1) (v := .int .i64 a0_1) (below_set (j := 0) (v := .int .u32 a0_0) (below_set (j := 5) (v := .slice Au uu.length cu) HB.out GB.out) G6.out) G6.out) G6.out) G6.out) G6.out) G6.out
end Go.Proofs.YtplcdbhklepkgaaDoor.PG
