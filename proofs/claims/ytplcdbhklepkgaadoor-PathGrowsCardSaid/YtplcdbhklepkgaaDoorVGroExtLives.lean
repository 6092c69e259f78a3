/- path.Encode of the one route that pathLives encodes: a string of 17 bytes; and so pathLives returns true. No condition. -/
import Derived.Test.YtplcdbhklepkgaaDoorVGroShort
import Derived.Test.YtplcdbhklepkgaaDoorVGroAry
import Derived.Test.YtplcdbhklepkgaaDoorVGroPGx7
import Derived.Test.YtplcdbhklepkgaaDoorVGroPGx9
namespace Go.Proofs.YtplcdbhklepkgaaDoor.PG
open Go.RowKit Go.Proofs.YtplcdbhklepkgaaDoorW.PrintWords Go.Proofs.YtplcdbhklepkgaaDoorW.PrintLast Go.Proofs.YtplcdbhklepkgaaDoorW.PrintMore Go.Proofs.YtplcdbhklepkgaaDoor.GenWords
set_option linter.unusedVariables false
set_option linter.unusedSimpArgs false
def path_Encode.l : Nat → List Int
  | 0 => [0, 0, 0, 0, 0, 0, 0, 0, 0, 0, 0, 0, 0]
  | 1 => [0, 0, 0, 0, 0, 0, 0, 0, 0, 0, 0, 0, 0, 1, 0, 7]
  | _ => [0, 0, 0, 0, 0, 0, 0, 0, 0, 0, 0, 0, 0, 1, 0, 7, 0]
theorem path_Encode.check : path_Check.f 100 0 0 [7] 0 0 [] = some 0 := by kernel_rfl
theorem path_Encode.put1 : path_put.f 100 [0] 0 4 = some [0, 0, 0, 0, 0] := by kernel_rfl
theorem path_Encode.put2 : path_put.f 100 [0, 0, 0, 0, 0] 0 4 = some [0, 0, 0, 0, 0, 0, 0, 0, 0] := by kernel_rfl
theorem path_Encode.put3 : path_put.f 100 [0, 0, 0, 0, 0, 0, 0, 0, 0] 0 4 = some (path_Encode.l 0) := by kernel_rfl
theorem path_Encode.put4 : path_put.f 100 (path_Encode.l 0 ++ [1]) 7 2 = some (path_Encode.l 1) := by kernel_rfl
theorem path_Encode.idx0 (x y : Option Addr) (n c m d : Nat) (W : World) : (Instr.index 69 (.agg #[.slice x n c, .slice y m d]) (.int .i64 0)).run Tryd.prog W = .ok (.slice x n c) W := by
  simp [Instr.index, run_underlying Tryd.underlying69, asIntOf, go_sem]
theorem path_Encode.idx1 (x y : Option Addr) (n c m d : Nat) (W : World) : (Instr.index 69 (.agg #[.slice x n c, .slice y m d]) (.int .i64 1)).run Tryd.prog W = .ok (.slice y m d) W := by
  simp [Instr.index, run_underlying Tryd.underlying69, asIntOf, go_sem]
theorem path_Encode.chk (gl : Nat) (W : World) (h : Kd.C (Kd.int .i64) W (some ⟨gl, 0, none⟩) 1 [7]) :
    Calls Tryd.prog 34 #[.agg #[.int .u32 0, .int .i64 0, .slice (some ⟨gl, 0, none⟩) 1 1, .int .i64 0, .int .i64 0, .slice none 0 0]] W fun e w' => e = .returned (.int .i64 0) ∧ Below W.heap.size W w' :=
  path_Check.calls 100 0 0 (some ⟨gl, 0, none⟩) 1 [7] 0 0 none 0 [] 0 W h (Nat.le_refl _) (Kd.C_nil _ _) (Nat.le_refl _) path_Encode.check
theorem path_Encode.put {xs r : List Int} {n a : Int} (gb : Nat) (w W : World) (v : Value) (h : path_put.f 100 xs a n = some r) (hB : Below w.heap.size w W) (hv : Kd.R (Kd.int .u8) 5 W w.heap.size (fun k => k ≠ gb) v xs) (o : Obj) (hb : W.heap[gb]? = some o) :
    Calls Tryd.prog 37 #[v, .int .i64 a, .int .i64 n] W fun e W' => ∃ v' : Value, e = .returned v' ∧ Kd.R (Kd.int .u8) 5 W' w.heap.size (fun k => k ≠ gb) v' r ∧ Below w.heap.size w W' ∧ W'.heap[gb]? = some o := by
  refine (path_put.calls 100 (fun k => k ≠ gb) v xs a n r w W hB hv h).mono ?_
  rintro e W' ⟨v', rfl, h1, h2, h3⟩
  refine ⟨v', rfl, Kd.R_mono h1 (fun k hk => ?_), h2, blk_kept hb h3 (by simp)⟩
  rcases hk with hk | hk
  · exact hk
  · have := blk_lt hb
    omega
set_option maxHeartbeats 1000000 in
set_option maxRecDepth 100000 in
theorem path_Encode.seven (gl : Nat) (w : World) (hr : Kd.C (Kd.int .i64) w (some ⟨gl, 0, none⟩) 1 [7]) :
    Calls Tryd.prog 24 #[.agg #[.int .u32 0, .int .i64 0, .slice (some ⟨gl, 0, none⟩) 1 1, .int .i64 0, .int .i64 0, .slice none 0 0]] w fun e w' => ∃ s : ByteArray, e = .returned (.tuple #[.string s, .int .i64 0]) ∧ s.size = 17 ∧ Below w.heap.size w w' := by
  have HR0_2 := Aside0.mk hr
  have HB := Aside0.mk (Below.refl w.heap.size w)
  clear hr
  go_enter Tryd.func24, Tryd.ntmps24
  go_wp2_with (first
    | ((with_reducible refine gate_dst (N := 1) rfl ?_); refine bx 1 (#[.int .u32 0, .int .i64 0, .slice (some ⟨gl, 0, none⟩) 1 1, .int .i64 0, .int .i64 0, .slice none 0 0]) 31 ?_; intro gb hg w1 hbox hb; have n0_ := Aside0.mk (below_step zB hb); have BK := Aside0.mk hbox; have GB := Aside0.mk ((zG hg : w.heap.size ≤ gb)); clear HB; have HB := n0_; clear n0_ hg hbox hb; have hc0 := zT BK 0; have hc1 := zT BK 1; have hc2 := zT BK 2; have hc3 := zT BK 3; have hc4 := zT BK 4; have hc5 := zT BK 5)
    | ((with_reducible refine gate_callee (f := 34) rfl ?_); refine goesL_ (some 11) rfl rfl Tryd.func34 (by kernel_rfl) rfl #[.agg #[.int .u32 0, .int .i64 0, .slice (some ⟨gl, 0, none⟩) 1 1, .int .i64 0, .int .i64 0, .slice none 0 0]] rfl zM ?_; (with_reducible refine (path_Encode.chk gl _ ?s1).mono ?_); (case s1 => exact zC HR0_2 HB); rintro e w2 ⟨rfl, hb⟩; refine ⟨_, rfl, ?_⟩; have n0_ := Aside0.mk (blk_below (zK BK) hb); have n1_ := Aside0.mk (below_step zB hb); clear BK HB hc0 hc1 hc2 hc3 hc4 hc5 hb; have BK := n0_; have HB := n1_; clear n0_ n1_; have hc0 := zT BK 0; have hc1 := zT BK 1; have hc2 := zT BK 2; have hc3 := zT BK 3; have hc4 := zT BK 4; have hc5 := zT BK 5)
    | ((with_reducible refine gate_dst (N := 19) rfl ?_); refine Kd.R_lit (Kd.int .u8) w.heap.size 5 ?hg (N := 19) ?hd (xs := ([0] : List Int)) (inner := [.int .u8 0]) (ok := fun k => k ≠ gb) (okp := fun k => k ≠ gb) ?hr ?hp (fun _ hk => hk) ?hf HB.out (below_size HB.out) (by simp) ?_; (case hd => rfl); (case hg => rfl); (case hr => first | (go_simp; done) | (go_simp; rfl)); (case hp => exact (Reps.one (show Kd.M (Kd.int .u8) _ _ _ 0 [.int .u8 0] from rfl) (Reps.none _ _))); (case hf => have := blk_lt BK.out; omega); intro v1 w3 ho hb hg_ hnew_; have HV := Aside0.mk ho; have n0_ := Aside0.mk (show w3.heap[gb]? = some (.cells #[.int .u32 0, .int .i64 0, .slice (some ⟨gl, 0, none⟩) 1 1, .int .i64 0, .int .i64 0, .slice none 0 0] 31 (0, 0)) from (hg_.block gb (blk_lt BK.out) (by simp)).trans BK.out); clear BK HB hc0 hc1 hc2 hc3 hc4 hc5 ho hnew_ hg_; have HB := Aside0.mk hb; have BK := n0_; clear n0_ hb; have hc0 := zT BK 0; have hc1 := zT BK 1; have hc2 := zT BK 2; have hc3 := zT BK 3; have hc4 := zT BK 4; have hc5 := zT BK 5)
    | ((with_reducible refine gate_callee (f := 37) rfl ?_); refine goesL_ (some 24) rfl rfl Tryd.func37 (by kernel_rfl) rfl #[v1, .int .i64 0, .int .i64 4] rfl zM ?_; (with_reducible refine (path_Encode.put gb w _ v1 path_Encode.put1 HB.out HV.out _ BK.out).mono ?_); rintro e w4 ⟨v2, rfl, h1, h2, h3⟩; refine ⟨_, rfl, ?_⟩; clear BK HB HV hc0 hc1 hc2 hc3 hc4 hc5; have HV := Aside0.mk h1; have HB := Aside0.mk h2; have BK := Aside0.mk h3; clear h1 h2 h3; have hc0 := zT BK 0; have hc1 := zT BK 1; have hc2 := zT BK 2; have hc3 := zT BK 3; have hc4 := zT BK 4; have hc5 := zT BK 5))
  have n0_ := Aside0.mk (blk_drew BK.out)
  have n1_ := Aside0.mk (below_drew1 HB.out)
  have n2_ := Aside0.mk (Kd.R_drew HV.out)
  clear BK HB HV hc0 hc1 hc2 hc3 hc4 hc5
  have BK := n0_
  have HB := n1_
  have HV := n2_
  clear n0_ n1_ n2_
  refine start_ (n := 8) (S := fun w' => w'.cell? ⟨gb, 3, none⟩ = some (.int .i64 0) ∧ w'.cell? ⟨gb, 4, none⟩ = some (.int .i64 0)) (ds := [6]) (bm 8 0) (by kernel_rfl) rfl rfl ⟨zT BK 3, zT BK 4⟩ (fun hHeld => ?_)
  generalize w4.drew = w5 at BK HB HV hHeld ⊢
  refine pv 0 (some 25) (bm 8 1) ?_
  refine pv 1 (some 26) (bm 8 3) ?_
  refine pv 4 (some 29) (bm 8 19) ?_
  refine tv 2 (some 27) (bm 8 23) hHeld ?_
  refine tv 5 (some 30) (bm 8 55) hHeld ?_
  refine one_ (i := 3) (N := some 28) (bm 8 63) rfl rfl (by kernel_rfl) (by decide) (fun K hK => ?_)
  refine goes_ Tryd.func37 (by kernel_rfl) rfl #[v2, .int .i64 0, .int .i64 4] (by rfl) rfl rfl zM ?_
  with_reducible refine (path_Encode.put gb w _ v2 path_Encode.put2 HB.out HV.out _ BK.out).mono ?_
  rintro e w6 ⟨v3, rfl, h1, h2, h3⟩
  refine ⟨_, rfl, ?_⟩
  clear BK HB HV
  have HV := Aside0.mk h1
  have HB := Aside0.mk h2
  have BK := Aside0.mk h3
  clear h1 h2 h3
  refine hK.out _ _ ⟨zT BK 3, zT BK 4⟩ (fun hHeld => ?_)
  clear hK K
  refine norm_ (a' := ?_) ?_ ?_
  rotate_left
  · show Act.put _ (some 28) _ = _; simp only [Act.put, sA, s0, sS, i64_w, i32_w]; rfl
  refine last_ (i := 6) (N := some 31) (bm 8 127) rfl rfl (by kernel_rfl) (by decide) (fun K hK => ?_)
  refine goes_ Tryd.func37 (by kernel_rfl) rfl #[v3, .int .i64 0, .int .i64 4] (by rfl) rfl rfl zM ?_
  with_reducible refine (path_Encode.put gb w _ v3 path_Encode.put3 HB.out HV.out _ BK.out).mono ?_
  rintro e w7 ⟨v4, rfl, h1, h2, h3⟩
  refine ⟨_, rfl, ?_⟩
  clear BK HB HV
  have HV := Aside0.mk h1
  have HB := Aside0.mk h2
  have BK := Aside0.mk h3
  clear h1 h2 h3
  refine hK.out _ _ ?_
  clear hK K
  refine norm_ (a' := ?_) ?_ ?_
  rotate_left
  · show Act.put _ (some 31) _ = _; simp only [Act.put, sA, s0, sS, i64_w, i32_w]; rfl
  refine pv 7 (some 5) (bm 8 255) ?_
  refine done_ (by kernel_rfl) ?_
  have hc1 := zT BK 2
  have hc4 := zT BK 5
  try go_wp2
  clear hc1 hc4
  have HX := Aside0.mk (show w.cell? ⟨gl, 0, none⟩ = some (.int .i64 7) from by obtain ⟨ad, e, hx⟩ := Kd.at_int HR0_2.out 0 (by omega) (by decide); cases e; exact hx)
  go_loopg [5, 37] 2 (fun kq v5 v37 w' => ∃ j : Nat, v37 = .int .i64 (j : Int) ∧ Aside0 (2 - j ≤ kq) ∧ Aside0 (j ≤ 2) ∧ Aside0 (Kd.R (Kd.int .u8) 5 w' w.heap.size (fun k => k ≠ gb) v5 (path_Encode.l j)) ∧ Aside0 (Below w.heap.size w w') ∧ Aside0 (w'.heap[gb]? = some (.cells #[.int .u32 0, .int .i64 0, .slice (some ⟨gl, 0, none⟩) 1 1, .int .i64 0, .int .i64 0, .slice none 0 0] 31 (0, 0))))
  case atStart => exact ⟨0, rfl, ⟨by omega⟩, ⟨by omega⟩, HV, HB, BK⟩
  case round =>
    clear HV HB BK
    obtain ⟨j, rfl, HK, HJ, HV, HB, BK⟩ := hrel
    obtain rfl | rfl | rfl : j = 0 ∨ j = 1 ∨ j = 2 := by have := HJ.out; omega
    · obtain ⟨k1, rfl⟩ : ∃ k1, gk = k1 + 1 := ⟨gk - 1, by have := HK.out; omega⟩
      have hi := path_Encode.idx0 (some ⟨gl, 0, none⟩) none 1 1 0 0
      go_wp2_with (first
        | ((with_reducible refine gate_builtin (b := .append) (xs := #[.tmp 40, .tmp 44]) rfl ?_); at_builtin; refine Kd.R_append (Kd.int .u8) (w0 := w) w.heap.size rfl (.tmp 40) (.tmp 44) 67 5 (.int .u8 0) 1 rfl Tryd.underlying67 info5 rfl (by decide) (by omega) u5 (path_Encode.l 0) (1) [.int .u8 1] (fun k => k ≠ gb) (fun _ => False) rfl rfl ?aP (fun _ hk => hk.elim) ?aF ?aO ?aB ?aS ?aL ?_; (case aP => exact rfl); (case aB => exact zB); (case aF => exact fun k_ hk => Nat.ne_of_gt (Nat.lt_of_lt_of_le (blk_lt (zK BK)) hk)); (case aO => exact (zO HV)); (case aS => exact (below_size zB)); (case aL => decide); intro v6 w8 ho hb hg hat; have n0_ := Aside0.mk hb; have n1_ := Aside0.mk (show w8.heap[gb]? = some (.cells #[.int .u32 0, .int .i64 0, .slice (some ⟨gl, 0, none⟩) 1 1, .int .i64 0, .int .i64 0, .slice none 0 0] 31 (0, 0)) from (hg.block gb (blk_lt (zK BK)) (fun e_ => (HV.out.1 gb e_.symm) rfl)).trans (zK BK)); have n2_ := Aside0.mk ho; clear HB BK HV ho hb hg hat; have HB := n0_; have BK := n1_; have HV := n2_; clear n0_ n1_ n2_))
      go_loopg [5, 48] 2 (fun kq v5 v48 w' => ∃ i : Nat, v48 = .int .i64 (i : Int) ∧ Aside0 (1 - i ≤ kq) ∧ Aside0 (i ≤ 1) ∧ Aside0 (Kd.R (Kd.int .u8) 5 w' w.heap.size (fun k => k ≠ gb) v5 (if i = 0 then path_Encode.l 0 ++ [1] else path_Encode.l 1)) ∧ Aside0 (Below w.heap.size w w') ∧ Aside0 (w'.heap[gb]? = some (.cells #[.int .u32 0, .int .i64 0, .slice (some ⟨gl, 0, none⟩) 1 1, .int .i64 0, .int .i64 0, .slice none 0 0] 31 (0, 0))))
      case atStart => exact ⟨0, rfl, ⟨by omega⟩, ⟨by omega⟩, HV, HB, BK⟩
      case round =>
        clear HV HB BK
        obtain ⟨i, rfl, HK2, HI, HV, HB, BK⟩ := hrel
        obtain rfl | rfl : i = 0 ∨ i = 1 := by have := HI.out; omega
        · obtain ⟨k2, rfl⟩ : ∃ k2, gk = k2 + 1 := ⟨gk - 1, by have := HK2.out; omega⟩
          have hv_ : Kd.R (Kd.int .u8) 5 wr w.heap.size (fun k => k ≠ gb) u5 (path_Encode.l 0 ++ [1]) := HV.out
          clear HV
          have HV := Aside0.mk hv_
          clear hv_
          have hx := zL HB HX.out
          go_wp2_with (first
            | ((with_reducible refine gate_callee (f := 37) rfl ?_); refine goesL_ (some 54) rfl rfl Tryd.func37 (by kernel_rfl) rfl #[u5, .int .i64 7, .int .i64 2] rfl zM ?_; (with_reducible refine (path_Encode.put gb w _ u5 path_Encode.put4 HB.out HV.out _ BK.out).mono ?_); rintro e w9 ⟨v9, rfl, h1, h2, h3⟩; refine ⟨_, rfl, ?_⟩; clear BK HB HV hx; have HV := Aside0.mk h1; have HB := Aside0.mk h2; have BK := Aside0.mk h3; clear h1 h2 h3))
          go_roundg k2
          case measure => have := HK2.out; omega
          case rel => exact ⟨1, by first | rfl | simp, ⟨by omega⟩, ⟨by omega⟩, HV, HB, BK⟩
        · go_wp2
          go_roundg k1
          case measure => have := HK.out; omega
          case rel => exact ⟨1, by first | rfl | simp, ⟨by have := HK.out; omega⟩, ⟨by omega⟩, HV, HB, BK⟩
    · obtain ⟨k1, rfl⟩ : ∃ k1, gk = k1 + 1 := ⟨gk - 1, by have := HK.out; omega⟩
      have hi := path_Encode.idx1 (some ⟨gl, 0, none⟩) none 1 1 0 0
      go_wp2_with (first
        | ((with_reducible refine gate_builtin (b := .append) (xs := #[.tmp 40, .tmp 44]) rfl ?_); at_builtin; refine Kd.R_append (Kd.int .u8) (w0 := w) w.heap.size rfl (.tmp 40) (.tmp 44) 67 5 (.int .u8 0) 1 rfl Tryd.underlying67 info5 rfl (by decide) (by omega) u5 (path_Encode.l 1) (0) [.int .u8 0] (fun k => k ≠ gb) (fun _ => False) rfl rfl ?aP (fun _ hk => hk.elim) ?aF ?aO ?aB ?aS ?aL ?_; (case aP => exact rfl); (case aB => exact zB); (case aF => exact fun k_ hk => Nat.ne_of_gt (Nat.lt_of_lt_of_le (blk_lt (zK BK)) hk)); (case aO => exact (zO HV)); (case aS => exact (below_size zB)); (case aL => decide); intro v6 w8 ho hb hg hat; have n0_ := Aside0.mk hb; have n1_ := Aside0.mk (show w8.heap[gb]? = some (.cells #[.int .u32 0, .int .i64 0, .slice (some ⟨gl, 0, none⟩) 1 1, .int .i64 0, .int .i64 0, .slice none 0 0] 31 (0, 0)) from (hg.block gb (blk_lt (zK BK)) (fun e_ => (HV.out.1 gb e_.symm) rfl)).trans (zK BK)); have n2_ := Aside0.mk ho; clear HB BK HV ho hb hg hat; have HB := n0_; have BK := n1_; have HV := n2_; clear n0_ n1_ n2_))
      go_loopg [5, 48] 2 (fun kq v5 v48 w' => v48 = .int .i64 0 ∧ Aside0 (Kd.R (Kd.int .u8) 5 w' w.heap.size (fun k => k ≠ gb) v5 (path_Encode.l 2)) ∧ Aside0 (Below w.heap.size w w') ∧ Aside0 (w'.heap[gb]? = some (.cells #[.int .u32 0, .int .i64 0, .slice (some ⟨gl, 0, none⟩) 1 1, .int .i64 0, .int .i64 0, .slice none 0 0] 31 (0, 0))))
      case atStart => exact ⟨rfl, HV, HB, BK⟩
      case round =>
        clear HV HB BK
        obtain ⟨rfl, HV, HB, BK⟩ := hrel
        go_wp2
        go_roundg k1
        case measure => have := HK.out; omega
        case rel => exact ⟨2, by first | rfl | simp, ⟨by have := HK.out; omega⟩, ⟨by omega⟩, HV, HB, BK⟩
    · have hcv := own_string (P := Tryd.prog) Tryd.underlying67 Tryd.underlying5 Tryd.underlying9 (Kd.own_of_R HV.out)
      go_wp2
      go_ret2
      exact ⟨_, rfl, by rw [strOfNums_size]; rfl, HB.out⟩
def g17_.f : Option Bool := some true
set_option maxHeartbeats 1000000 in
set_option maxRecDepth 100000 in
theorem g17_.calls (r : Bool) (w : World) (h : g17_.f = some r) :
    Calls Tryd.prog 14 #[] w fun e w' => e = .returned (.bool r) ∧ Below w.heap.size w w' := by
  obtain rfl : true = r := Option.some.inj h
  clear h
  go_enter Tryd.func14, Tryd.ntmps14
  go_wp2_with (first
    | ((with_reducible refine gate_dst (N := 4) rfl ?_); refine litr_event ?hg (N := 4) ?hd (cs := #[.int .i64 7]) (e := 3) (n := 1) (m := 1) ?hm ?hr ?_; (case hd => rfl); (case hg => rfl); (case hm => rfl); (case hr => first | (go_simp; done) | (go_simp; rfl)); intro gl hg w1 hbox hb; have HL := Aside0.mk (show Kd.C (Kd.int .i64) w1 (some ⟨gl, 0, none⟩) 1 [7] from Kd.C_lit hbox rfl (by simp) (Reps.one (show (Kd.int .i64).K _ 7 [.int .i64 7] from rfl) (Reps.none _ _))); have HB := Aside0.mk hb; clear hg hbox hb)
    | ((with_reducible refine gate_callee (f := 24) rfl ?_); refine goesL_ (some 6) rfl rfl Tryd.func24 (by kernel_rfl) rfl #[.agg #[.int .u32 0, .int .i64 0, .slice (some ⟨gl, 0, none⟩) 1 1, .int .i64 0, .int .i64 0, .slice none 0 0]] rfl zM ?_; (with_reducible refine (path_Encode.seven gl _ HL.out).mono ?_); rintro e w2 ⟨s, rfl, hs, hb⟩; refine ⟨_, rfl, ?_⟩; have n0_ := Aside0.mk (below_step zB hb); have HS := Aside0.mk hs; clear HB hb hs; have HB := n0_; clear n0_))
  have e : ((s.size : Int) == 17) = true := by rw [HS.out]; rfl
  simp only [e]
  go_ret
  exact ⟨rfl, HB.out⟩
end Go.Proofs.YtplcdbhklepkgaaDoor.PG
