/- slices.Repeat of a slice with one element, at most six times: a row of its own with that element in every cell. No condition beside what the plain function says. -/
import Derived.Test.YtplcdbhklepkgaaDoorVGroShort
import Derived.Test.YtplcdbhklepkgaaDoorVGroPGx0
import Derived.Shelf.Bits.Mul64
import Derived.Shelf.Lay
import Derived.Ground.NamesProg
import Derived.Laws.CopyOwn
import Derived.Deep.RegionLaw
namespace Go.Proofs.YtplcdbhklepkgaaDoor.PG
open Go.RowKit Go.Proofs.YtplcdbhklepkgaaDoorW.PrintWords Go.Proofs.YtplcdbhklepkgaaDoorW.PrintLast Go.Proofs.YtplcdbhklepkgaaDoorW.PrintMore Go.Proofs.YtplcdbhklepkgaaDoor.GenWords Go.Shelf
set_option linter.unusedVariables false
set_option linter.unusedSimpArgs false
shelf_lay Lays.n212 Nm 212 at Tryd as Tryd.bitsMul
def g6_.f (l0 : List Int) (a1 : Int) : Option (List Int) := if l0.length = 1 then (if 0 ≤ a1 then (if a1 ≤ 6 then some (List.replicate a1.toNat (l0.headD 0)) else none) else none) else none
/-- The row behind n cells that are told. -/
def g6_.row (c n : Nat) (x : Int) : List Value := List.replicate n (.int .i64 x) ++ List.replicate (c - n) (.int .i64 0)
theorem g6_.row_len {c n : Nat} (h : n ≤ c) (x : Int) : (g6_.row c n x).length = c := by unfold g6_.row; simp; omega
theorem g6_.row_splice {c n m : Nat} (h : n + m ≤ c) (x : Int) : splice (g6_.row c n x) n (List.replicate m (.int .i64 x)) = g6_.row c (n + m) x := by
  unfold splice g6_.row
  rw [List.take_append_of_le_length (by simp), List.take_of_length_le (by simp), List.length_replicate, List.drop_append, List.drop_of_length_le (by simp), List.length_replicate, List.nil_append, List.drop_replicate, ← List.append_assoc, List.replicate_append_replicate, show c - n - (n + m - n) = c - (n + m) from by omega]
theorem g6_.mul (c : Nat) (hc : c ≤ 6) (w : World) : Calls Tryd.prog 42 #[.int .u64 1, .int .u64 c] w fun e w' => e = .returned (.tuple #[.int .u64 0, .int .u64 c]) ∧ w' = w := by
  have h := Any.bits_Mul Tryd.bitsMul 1 c (by omega) (by omega) w
  rw [show 1 * c / 18446744073709551616 = 0 from by omega, show 1 * c % 18446744073709551616 = c from by omega] at h
  exact h
theorem g6_.many {m : Nat} {x : Value} {j : Nat} {v : Value} (h : (List.replicate m x)[j]? = some v) : j < m ∧ v = x := by
  obtain ⟨h1, h2⟩ := List.getElem?_eq_some_iff.mp h
  rw [List.length_replicate] at h1
  rw [List.getElem_replicate] at h2
  exact ⟨h1, h2.symm⟩
theorem g6_.one {c : Nat} {x : Value} {j : Nat} {v : Value} (h : (List.replicate (min 1 c) x)[j]? = some v) : j = 0 ∧ v = x := by
  obtain ⟨h1, h2⟩ := List.getElem?_eq_some_iff.mp h
  rw [List.length_replicate] at h1
  rw [List.getElem_replicate] at h2
  exact ⟨by omega, h2.symm⟩
theorem g6_.first {c : Nat} (x : Int) : splice (g6_.row c 0 0) 0 (List.replicate (min 1 c) (.int .i64 x)) = g6_.row c (min 1 c) x := by
  have := g6_.row_splice (c := c) (n := 0) (m := min 1 c) (by omega) x
  rw [Nat.zero_add] at this
  exact this
theorem g6_.cell {w : World} {g c n : Nat} {x : Int} (h : w.heap[g]? = some (.cells (g6_.row c n x).toArray 3 (0, 0))) (j : Nat) (hj : j < n) : w.cell? (Addr.add ⟨g, 0, none⟩ j) = some (.int .i64 x) := by
  have e : (g6_.row c n x).toArray[j]? = some (.int .i64 x) := by
    unfold g6_.row
    rw [List.getElem?_toArray, List.getElem?_append_left (by simpa using hj), List.getElem?_replicate, if_pos hj]
  have := (blk_cell h j).trans e
  rwa [show Addr.add ⟨g, 0, none⟩ j = (⟨g, j, none⟩ : Addr) from by unfold Addr.add; split <;> simp_all]
theorem g6_.made (c : Nat) (hc : c ≤ 6) : madeCells #[.int .i64 0] c = (g6_.row c 0 0).toArray := by
  rcases c with _ | _ | _ | _ | _ | _ | _ | c
  · kernel_rfl
  · kernel_rfl
  · kernel_rfl
  · kernel_rfl
  · kernel_rfl
  · kernel_rfl
  · kernel_rfl
  · omega
theorem g6_.mk_event {ops : Array Oper} {rest : List Oper} {o : Oper} {a : Act} {Q : Exit → Act → World → Prop} {W : World} (hgd : o.guard = none) {N : Tmp} (hd : o.dst = some N) (x y : Operand) (ho : o.op = .makeSlice 23 x y) (c : Nat) (hc : c ≤ 6)
    (hx : a.eval x = .int .i64 (c : Int)) (hy : a.eval y = .int .i64 (c : Int))
    (h : ∀ g, g = W.heap.size → ∀ w1, w1.heap[g]? = some (.cells (g6_.row c 0 0).toArray 3 (0, 0)) → Below W.heap.size W w1 → wpList Tryd.prog ops Q rest (a.put o.dst (.slice (some ⟨g, 0, none⟩) c c)) w1) : wpList Tryd.prog ops Q (o :: rest) a W := by
  have hr := print_make_int (P := Tryd.prog) 23 3 (.int .i64 0) 8 Tryd.underlying23 (by kernel_rfl) rfl (by omega) (c : Int) (by omega) (by simp; omega) W
  rw [Int.toNat_natCast, g6_.made c hc] at hr
  refine Kd.event_run hgd (v := .slice (some ⟨W.heap.size, 0, none⟩) c c) (w1 := W.alloc (.cells (g6_.row c 0 0).toArray 3)) ?_ (h _ rfl _ (blk_new W _) (below_alloc (Below.refl _ _) _))
  simp [execOp, ho, hx, hy, hr]
theorem g6_.copy_step {P : Program} {ops : Array Oper} {o : Oper} {a : Act} {w : World} {K : Act → World → Prop} {Q : Exit → Act → World → Prop} {E : Prop} (N : Option Tmp) (hN : o.dst = N) (hgd : o.guard = none) (d s : Operand) (dT sT : TypeId)
    (ho : o.op = .call { callee := .builtin .copy, args := #[d, s], argTypes := #[dT, sT] }) (elem : TypeId) (hu : P.underlying dT = some (.slice elem)) (hsz : (P.info? elem).map (·.size) = some 1)
    (dp sp : Option Addr) (dLen dCap sLen sCap : Nat) (hd : a.eval d = .slice dp dLen dCap) (hs : a.eval s = .slice sp sLen sCap)
    (g off : Nat) (cur : List Value) (t : TypeId) (hg : w.heap[g]? = some (.cells cur.toArray t (0, 0))) (cs : List Value) (hn : cs.length = Nat.min sLen dLen)
    (hpos : 0 < cs.length → dp = some ⟨g, off, none⟩ ∧ ∃ ad, sp = some ad ∧ ∀ j v, cs[j]? = some v → w.cell? (ad.add j) = some v)
    (hfit : off + cs.length ≤ cur.length) (h1 : ∀ v ∈ cs, v.oneCell' = true) (B : Nat) (w0 : World) (hb : RowKit.Below B w0 w) (hBg : B ≤ g)
    (h : ∀ w', RowKit.Hid (w'.heap[g]? = some (.cells (splice cur off cs).toArray t (0, 0))) → RowKit.Below B w0 w' → K (a.put N (goInt cs.length)) w') :
    if Region.wanted o (yielded ops a.tmps) = true then Oper.wp P o a w K Q else E := by
  subst hN
  exact step_copy_splice hgd d s dT sT ho elem hu hsz dp sp dLen dCap sLen sCap hd hs g off cur t hg cs hn hpos hfit h1 B w0 hb hBg h
set_option maxHeartbeats 1000000 in
set_option maxRecDepth 100000 in
theorem g6_.calls (A0 : Option Addr) (c0 : Nat) (l0 : List Int) (a1 : Int) (r : List Int) (w : World) (hr0 : Kd.C (Kd.int .i64) w A0 l0.length l0) (hc0 : l0.length ≤ c0) (h : g6_.f l0 a1 = some r) :
    Calls Tryd.prog 31 #[.slice A0 l0.length c0, .int .i64 a1] w fun e w' => ∃ v0_ : Value, e = .returned (v0_) ∧ Kd.R (Kd.int .i64) 3 w' w.heap.size (fun _ => True) v0_ r ∧ Below w.heap.size w w' := by
  unfold g6_.f at h
  by_cases h1 : l0.length = 1
  rotate_left
  · rw [if_neg h1] at h; cases h
  by_cases h2 : 0 ≤ a1
  rotate_left
  · rw [if_pos h1, if_neg h2] at h; cases h
  by_cases h3 : a1 ≤ 6
  rotate_left
  · rw [if_pos h1, if_pos h2, if_neg h3] at h; cases h
  rw [if_pos h1, if_pos h2, if_pos h3] at h
  obtain rfl := Option.some.inj h
  obtain ⟨c, rfl⟩ := Int.eq_ofNat_of_zero_le h2
  obtain ⟨x, rfl⟩ : ∃ x, l0 = [x] := by
    cases l0 with
    | nil => simp at h1
    | cons x l =>
      obtain rfl : l = [] := List.eq_nil_of_length_eq_zero (by simpa using h1)
      exact ⟨x, rfl⟩
  obtain ⟨ad, rfl, hx⟩ := Kd.at_int hr0 0 (by omega) (by simp)
  have HX := Aside0.mk (show w.cell? (ad.add 0) = some (.int .i64 x) from hx)
  have HC := Aside0.mk (show c ≤ 6 by omega)
  have HM := Aside0.mk (fun w => g6_.mul c (by omega) w)
  have d1 : decide ((c : Int) < 0) = false := decide_eq_false (by omega)
  have d2 : decide ((c : Int) > 9223372036854775807) = false := decide_eq_false (by omega)
  have w1 : IntKind.u64.wrap (c : Int) = (c : Int) := by rw [IntKind.wrap_u64]; omega
  have w2 : IntKind.i64.wrap (c : Int) = (c : Int) := by rw [i64_w]; unfold wrap64; omega
  clear h h1 h2 h3 hx hr0 hc0
  simp only [List.length_cons, List.length_nil, Int.toNat_natCast, List.headD_cons]
  go_enter Tryd.func31, Tryd.ntmps31
  go_wp2_with (first
    | ((with_reducible refine gate_callee (f := 42) rfl ?_); refine goesL_ (some 18) rfl rfl Tryd.func42 (by kernel_rfl) rfl #[.int .u64 1, .int .u64 c] rfl zM ?_; (with_reducible refine (HM.out _).mono ?_); rintro e w' ⟨rfl, hw⟩; refine ⟨_, rfl, ?_⟩; have hw2 := hw.symm; clear hw; subst hw2)
    | ((with_reducible refine gate_dst (N := 30) rfl ?_); refine g6_.mk_event rfl (N := 30) rfl (.tmp 29) (.tmp 29) rfl c HC.out rfl rfl ?_; intro g hg w1 hb1 hbel; have HG := Aside0.mk hg; have HR1 := Aside0.mk hb1; have HB := Aside0.mk hbel; clear hg hb1 hbel)
    | ((with_reducible refine gate_dst (N := 33) rfl ?_); refine wpList_copy_splice rfl (.tmp 31) (.tmp 32) 23 23 rfl 3 Tryd.underlying23 (by kernel_rfl) (some ⟨g, 0, none⟩) (some ad) c c 1 c0 ?hd ?hs g 0 (g6_.row c 0 0) 3 HR1.out (List.replicate (min 1 c) (.int .i64 x)) ?hn ?hpos ?hfit ?h1 w.heap.size w HB.out ?hB ?_; (case hd => rfl); (case hs => rfl); (case hn => exact List.length_replicate); (case hpos => exact fun _ => ⟨rfl, ad, rfl, fun j v hj => by obtain ⟨rfl, rfl⟩ := g6_.one hj; exact (HB.out.cell (World.block_lt_of_cell? w _ HX.out)).trans HX.out⟩); (case hfit => rw [g6_.row_len (by omega), List.length_replicate]; omega); (case h1 => intro v hv; rw [(List.mem_replicate.mp hv).2]; rfl); (case hB => exact Nat.le_of_eq HG.out.symm); intro w2 hb2 hbel2; have HR2 := Aside0.mk hb2.out; have HB2 := Aside0.mk hbel2; clear hb2 hbel2))
  have HR3 := HR2.out
  rw [g6_.first] at HR3
  have HR4 := Aside0.mk HR3
  clear HR3 HR2 HR1 HB HM
  go_loopg [8] c (fun kq v8 w' => ∃ n : Nat, v8 = .int .i64 (n : Int) ∧ Aside0 (c - n ≤ kq) ∧ Aside0 (n ≤ c ∧ (n = 0 → c = 0)) ∧ Aside0 (w'.heap[g]? = some (.cells (g6_.row c n x).toArray 3 (0, 0))) ∧ Aside0 (Below w.heap.size w w'))
  case atStart => exact ⟨min 1 c, by first | rfl | simp [goInt], ⟨by omega⟩, ⟨by omega⟩, HR4, HB2⟩
  case round =>
    obtain ⟨n, rfl, HK, HN, HR, HB⟩ := hrel
    clear HR4 HB2
    by_cases hlt : n < c
    · have e1 : decide ((n : Int) < (c : Int)) = true := decide_eq_true (by omega)
      have hcn : ¬ c = n := by omega
      obtain ⟨m, hm⟩ : ∃ m, m = min n (c - n) := ⟨_, rfl⟩
      have HM := Aside0.mk (show m ≤ n ∧ n + m ≤ c ∧ 0 < m ∧ m = min n (c - n) from ⟨by omega, by omega, by have := HN.out; omega, hm⟩)
      clear hm
      have p0 : (0 : Int) ≤ (n : Int) := by omega
      have p1 : (n : Int) ≤ (c : Int) := by omega
      go_wp2
      refine start_ (n := 10) (S := fun w' => True) (ds := [7]) (bm 10 0) (by kernel_rfl) rfl rfl trivial (fun hHeld => ?_)
      have HR1 := Aside0.mk (blk_drew HR.out)
      have HB1 := Aside0.mk (below_drew1 HB.out)
      clear HR HB
      generalize wr.drew = w2 at HR1 HB1 ⊢
      refine pv 0 (some 38) (bm 10 1) ?_
      refine pv 1 (some 39) (bm 10 3) ?_
      refine pv 2 (some 40) (bm 10 7) ?_
      refine pv 3 (some 41) (bm 10 15) ?_
      refine pv 4 (some 42) (bm 10 31) ?_
      refine pv 5 (some 43) (bm 10 63) ?_
      refine pv 6 (some 44) (bm 10 127) ?_
      refine last_ (i := 7) (N := some 45) (bm 10 255) rfl rfl (by kernel_rfl) (by decide) (fun K hK => ?_)
      refine g6_.copy_step (some 45) rfl rfl (.tmp 41) (.tmp 44) 23 23 rfl 3 Tryd.underlying23 (by kernel_rfl) _ _ _ _ _ _ rfl rfl g n (g6_.row c n x) 3 HR1.out (List.replicate m (.int .i64 x)) ?hn ?hpos ?hfit ?h1 w.heap.size w HB1.out ?hB ?_
      case hn => exact List.length_replicate.trans HM.out.2.2.2
      case hpos => exact fun _ => ⟨by first | rfl | exact if_neg hcn, _, rfl, fun j v hj => by obtain ⟨h1, rfl⟩ := g6_.many hj; exact g6_.cell HR1.out j (by have := HM.out; omega)⟩
      case hfit => rw [g6_.row_len HN.out.1, List.length_replicate]; exact HM.out.2.1
      case h1 => intro v hv; rw [(List.mem_replicate.mp hv).2]; rfl
      case hB => exact Nat.le_of_eq HG.out.symm
      intro w3 hb3 hbel3
      have hb4 := hb3.out
      rw [g6_.row_splice HM.out.2.1] at hb4
      have HR3 := Aside0.mk hb4
      have HB3 := Aside0.mk hbel3
      clear hb3 hb4 hbel3 HR1 HB1
      refine hK.out _ _ ?_
      clear hK K
      have e2 : goInt (List.replicate m (Value.int .i64 x)).length = .int .i64 ((m : Nat) : Int) := by rw [List.length_replicate]; rfl
      rw [e2]
      have e3 : IntKind.i64.wrap ((n : Int) + ((m : Nat) : Int)) = (n : Int) + (m : Int) := by have := HM.out; have := HC.out; rw [i64_w]; unfold wrap64; omega
      clear e2
      refine pv 8 (some 46) (bm 10 511) ?_
      refine pv 9 (some 8) (bm 10 1023) ?_
      refine done_ (by kernel_rfl) ?_
      clear p0 p1 e3
      try go_wp2
      obtain ⟨k1, rfl⟩ : ∃ k1, gk = k1 + 1 := ⟨gk - 1, by have := HK.out; omega⟩
      try go_wp2
      go_roundg k1
      case measure => omega
      case rel => exact ⟨n + m, by rw [Int.natCast_add], ⟨by have := HK.out; have := HM.out; omega⟩, ⟨by have := HM.out; omega⟩, HR3, HB3⟩
    · have e1 : decide ((n : Int) < (c : Int)) = false := decide_eq_false (by omega)
      have hnc : n = c := by have := HN.out; omega
      subst hnc
      go_wp2
      go_ret
      refine ⟨_, rfl, ?_, HB.out⟩
      have e5 : g6_.row n n x = encs (Value.int .i64) (List.replicate n x) := by unfold g6_.row encs; simp
      have h5 := HR.out
      rw [e5] at h5
      refine Kd.R_of_own (enc := Value.int .i64) ⟨by rw [encs_length]; simp, .inr ⟨g, n, _, by first | rfl | simp, Nat.le_of_eq HG.out.symm, h5, by simp, by have := HC.out; simp [maxLen]; omega, by rw [List.size_toArray, encs_length]; simp, by rw [List.take_of_length_le]; rw [encs_length]; simp⟩⟩ ?_
      exact fun _ _ => trivial
end Go.Proofs.YtplcdbhklepkgaaDoor.PG
