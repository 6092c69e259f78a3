/- best.ties: the table of all ties, as a list of 256 rows of two numbers, filled link by link. No condition beside what the plain function says. -/
import Derived.Test.YtplcdbhklepkgaaVValleyBSx2
import Derived.Deep.RegionHeld3
import Derived.Laws.Rows
import Derived.Deep.MidRow
namespace Go.Proofs.Ytplcdbhklepkgaa.BS
open Go.RowKit Go.Proofs.YtplcdbhklepkgaaW.PrintWords Go.Proofs.YtplcdbhklepkgaaW.PrintLast Go.Proofs.YtplcdbhklepkgaaW.PrintMore Go.Proofs.Ytplcdbhklepkgaa.GenWords
set_option linter.unusedVariables false
set_option linter.unusedSimpArgs false
def best_ties.zero : Array Value := ag66 (List.replicate 256 z64)
theorem best_ties.info : (Try.prog.info? 66).map (fun i => (i.zero, i.size, i.bytes)) = some (some (.agg best_ties.zero), 512, 4096) := infoA66
def best_ties.put (acc : List S64) (i j k p : Int) : Option (List S64) :=
  if 0 ≤ i then if i < 16 then if 0 ≤ j then if j < 16 then if acc.length = 256 then some (acc.set (16 * i + j).toNat ⟨k, p⟩) else none else none else none else none else none
def best_ties.step (k : Nat) (acc : List S64) (x : S71) : Option (List S64) :=
  (best_usual.f x.f2).bind fun u1 => (cmp_Or_int.f k [x.f3, u1]).bind fun p1 => (best_ties.put acc x.f0 x.f1 x.f2 p1).bind fun acc1 =>
  (best_usual.f (wrap64 (4 - x.f2))).bind fun u2 => (cmp_Or_int.f k [x.f4, u2]).bind fun p2 => best_ties.put acc1 x.f1 x.f0 (wrap64 (4 - x.f2)) p2
def best_ties.fold (k : Nat) : List S71 → List S64 → Option (List S64)
  | [], acc => some acc
  | x :: l, acc => (best_ties.step k acc x).bind fun acc1 => best_ties.fold k l acc1
def best_ties.f (k : Nat) (a0_0 : Int) (l0_1 : List S71) : Option (List S64) := best_ties.fold k l0_1 (List.replicate 256 z64)
theorem best_ties.mono_step (k : Nat) (acc : List S64) (x : S71) : LeO (best_ties.step k acc x) (best_ties.step (k + 1) acc x) := by
  unfold best_ties.step
  exact LeO.bind (LeO.refl _) fun _ => LeO.bind (cmp_Or_int.mono _ _) fun _ => LeO.bind (LeO.refl _) fun _ => LeO.bind (LeO.refl _) fun _ => LeO.bind (cmp_Or_int.mono _ _) fun _ => LeO.refl _
theorem best_ties.mono_fold (k : Nat) : ∀ (l : List S71) (acc : List S64), LeO (best_ties.fold k l acc) (best_ties.fold (k + 1) l acc)
  | [], acc => LeO.refl _
  | x :: l, acc => LeO.bind (best_ties.mono_step k acc x) fun acc1 => best_ties.mono_fold k l acc1
theorem best_ties.mono : ∀ a0 a1 k, LeO (best_ties.f k a0 a1) (best_ties.f (k + 1) a0 a1) := fun _ a1 k => best_ties.mono_fold k a1 _
theorem best_ties.put_len {acc r : List S64} {i j k p : Int} (h : best_ties.put acc i j k p = some r) : acc.length = 256 ∧ r.length = 256 := by
  unfold best_ties.put at h
  by_cases c1 : 0 ≤ i
  · by_cases c2 : i < 16
    · by_cases c3 : 0 ≤ j
      · by_cases c4 : j < 16
        · by_cases c5 : acc.length = 256
          · rw [if_pos c1, if_pos c2, if_pos c3, if_pos c4, if_pos c5] at h
            obtain rfl := Option.some.inj h
            rw [List.length_set]
            exact ⟨c5, c5⟩
          · rw [if_pos c1, if_pos c2, if_pos c3, if_pos c4, if_neg c5] at h
            cases h
        · rw [if_pos c1, if_pos c2, if_pos c3, if_neg c4] at h
          cases h
      · rw [if_pos c1, if_pos c2, if_neg c3] at h
        cases h
    · rw [if_pos c1, if_neg c2] at h
      cases h
  · rw [if_neg c1] at h
    cases h
theorem best_ties.put_some {acc r : List S64} {i j k p : Int} (h : best_ties.put acc i j k p = some r) : 0 ≤ i ∧ i < 16 ∧ 0 ≤ j ∧ j < 16 ∧ acc.length = 256 ∧ r = acc.set (16 * i + j).toNat ⟨k, p⟩ := by
  unfold best_ties.put at h
  by_cases c1 : 0 ≤ i
  · by_cases c2 : i < 16
    · by_cases c3 : 0 ≤ j
      · by_cases c4 : j < 16
        · by_cases c5 : acc.length = 256
          · rw [if_pos c1, if_pos c2, if_pos c3, if_pos c4, if_pos c5] at h
            exact ⟨c1, c2, c3, c4, c5, (Option.some.inj h).symm⟩
          · rw [if_pos c1, if_pos c2, if_pos c3, if_pos c4, if_neg c5] at h
            cases h
        · rw [if_pos c1, if_pos c2, if_pos c3, if_neg c4] at h
          cases h
      · rw [if_pos c1, if_pos c2, if_neg c3] at h
        cases h
    · rw [if_pos c1, if_neg c2] at h
      cases h
  · rw [if_neg c1] at h
    cases h
/-- What a store of one tie does to the array's block. -/
theorem best_ties.block {w : World} {g : Nat} {acc : List S64} {i j k p : Int} (hb : w.heap[g]? = some (.cells (ag66 acc) 66 (0, 0))) (h0 : 0 ≤ i) (h1 : 0 ≤ j) (h : (16 * i + j).toNat < acc.length) :
    ((w.setCell ⟨g, i.toNat * 32 + j.toNat * 2, none⟩ (.int .i64 k)).setCell ⟨g, i.toNat * 32 + j.toNat * 2 + 1, none⟩ (.int .i64 p)).heap[g]? = some (.cells (ag66 (acc.set (16 * i + j).toNat ⟨k, p⟩)) 66 (0, 0)) := by
  have h2 := blk_set (blk_set hb (i.toNat * 32 + j.toNat * 2) (.int .i64 k)) (i.toNat * 32 + j.toNat * 2 + 1) (.int .i64 p)
  rw [h2]
  have h3 : i.toNat * 32 + j.toNat * 2 = (16 * i + j).toNat * 2 := by omega
  have h4 := arrOf_set2 (enc := ag66_enc) (c0 := fun s : S64 => .int .i64 s.f0) (c1 := fun s : S64 => .int .i64 s.f1) (fun _ => rfl) acc (16 * i + j).toNat ⟨k, p⟩ h
  unfold ag66
  rw [h4, h3]
theorem best_ties.at2 {w : World} {g : Nat} {acc : List S64} {i j : Int} (hb : w.heap[g]? = some (.cells (ag66 acc) 66 (0, 0))) (h0 : 0 ≤ i) (h1 : 0 ≤ j) (h : (16 * i + j).toNat < acc.length) :
    ∃ a b, w.cell? ⟨g, i.toNat * 32 + j.toNat * 2, none⟩ = some (.int .i64 a) ∧ w.cell? ⟨g, i.toNat * 32 + j.toNat * 2 + 1, none⟩ = some (.int .i64 b) := by
  have hl : 16 * i + j < (acc.length : Int) := by omega
  have e0 := arr_cell (enc := ag66_enc) ag66_len hb z64 16 0 (Mi := 16) rfl (i := i) (j := j) h0 h1 hl (by decide) rfl
  have e1 := arr_cell (enc := ag66_enc) ag66_len hb z64 16 1 (Mi := 16) rfl (i := i) (j := j) h0 h1 hl (by decide) rfl
  exact ⟨_, _, e0, e1⟩
theorem best_ties.or_calls (k : Nat) (a b r : Int) (W : World) (n : Nat) (h : cmp_Or_int.f k [a, b] = some r) :
    Calls Try.prog 39 #[.slice (some ⟨W.heap.size, 0, none⟩) 2 2] ((W.drewN n).alloc (.cells #[.int .i64 a, .int .i64 b] 3)) fun e w' => ∃ m, e = .returned (.int .i64 r) ∧ w' = ((W.drewN n).alloc (.cells #[.int .i64 a, .int .i64 b] 3)).drewN m := by
  have hC : Kd.C (Kd.int .i64) ((W.drewN n).alloc (.cells #[.int .i64 a, .int .i64 b] 3)) (some ⟨W.heap.size, 0, none⟩) [a, b].length [a, b] :=
    Kd.C_lit (heap_alloc_new (W.drewN n) _) rfl (by simp) (Kd.reps_scalar (enc := Value.int .i64) [a, b])
  refine (cmp_Or_int.calls k (some ⟨W.heap.size, 0, none⟩) 2 [a, b] r _ hC (by simp) h).mono ?_
  rintro e w' ⟨rfl, ⟨m, rfl⟩⟩
  exact ⟨m, rfl, rfl⟩
set_option maxHeartbeats 1000000 in
set_option maxRecDepth 100000 in
theorem best_ties.calls (k : Nat) (a0_0 : Int) (A0_1 : Option Addr) (c0_1 : Nat) (l0_1 : List S71) (r : List S64) (w : World) (hr0_1 : Kd.C k71 w A0_1 l0_1.length l0_1) (hc0_1 : l0_1.length ≤ c0_1) (h : best_ties.f k a0_0 l0_1 = some r) :
    Calls Try.prog 28 #[.agg #[.int .i64 a0_0, .slice A0_1 l0_1.length c0_1]] w fun e w' => e = .returned (.agg (ag66 r)) ∧ Below w.heap.size w w' := by
  have H : best_ties.fold k l0_1 (List.replicate 256 z64) = some r := h
  have hmax := Kd.C_max hr0_1
  have HR := Aside0.mk hr0_1
  have HH := Aside0.mk H
  have HM := Aside0.mk hmax
  clear h H hr0_1 hmax
  go_enter Try.func28, Try.ntmps28
  go_wp2_with (first
    | ((with_reducible refine gate_dst (N := 1) rfl ?_); refine box_event ?hg (N := 1) ?hd (cs := #[.int .i64 a0_0, .slice A0_1 l0_1.length c0_1]) (t := 42) ?hr ?_; (case hd => rfl); (case hg => rfl); (case hr => first | (go_simp; done) | (go_simp; rfl)); intro g1 hg1 w1 hb1 hbel1; have E1 := Aside0.mk hg1; have B1 := Aside0.mk hb1; have L1 := Aside0.mk hbel1; clear hg1 hb1 hbel1)
    | ((with_reducible refine gate_dst (N := 2) rfl ?_); refine arrz_event rfl (N := 2) rfl rfl best_ties.info ?_; intro g2 hg2 w2 hb2 hbel2; have E2 := Aside0.mk hg2; have B2 := Aside0.mk hb2; have L2 := Aside0.mk hbel2; clear hg2 hb2 hbel2)
    | ((with_reducible refine gate_dst (N := 3) rfl ?_); refine arrz_event rfl (N := 3) rfl rfl best_ties.info ?_; intro g3 hg3 w3 hb3 hbel3; have E3 := Aside0.mk hg3; have B3 := Aside0.mk hb3; have L3 := Aside0.mk hbel3; clear hg3 hb3 hbel3; have hc13 : w3.cell? ⟨g1, 1, none⟩ = some (.slice A0_1 l0_1.length c0_1) := (blk_cell (blk_below (blk_below B1.out L2.out) L3.out) 1).trans rfl))
  have HB1 := Aside0.mk (blk_below (blk_below B1.out L2.out) L3.out)
  have HB2 := Aside0.mk (blk_below B2.out L3.out)
  have HB3 := Aside0.mk B3.out
  have HB := Aside0.mk (below_step (below_step L1.out L2.out) L3.out)
  have HG := Aside0.mk (show g1 < g2 ∧ g2 < g3 ∧ w.heap.size ≤ g1 from ⟨by have := blk_lt B1.out; have := E2.out; omega, by have := blk_lt B2.out; have := E3.out; omega, by have := E1.out; omega⟩)
  clear B1 B2 B3 L1 L2 L3 E1 E2 E3 hc13
  go_loopg [10] l0_1.length (fun kq v10 w' => ∃ (i : Nat) (acc : List S64), v10 = .int .i64 i ∧ Aside0 (l0_1.length - i ≤ kq) ∧ Aside0 (i ≤ l0_1.length) ∧ Aside0 (acc.length = 256) ∧ Aside0 (best_ties.fold k (l0_1.drop i) acc = some r) ∧ Aside0 (w'.heap[g1]? = some (.cells #[.int .i64 a0_0, .slice A0_1 l0_1.length c0_1] 42 (0, 0))) ∧ Aside0 (w'.heap[g2]? = some (.cells best_ties.zero 66 (0, 0))) ∧ Aside0 (w'.heap[g3]? = some (.cells (ag66 acc) 66 (0, 0))) ∧ Aside0 (Below w.heap.size w w'))
  case atStart => exact ⟨0, _, rfl, ⟨by omega⟩, ⟨by omega⟩, ⟨by rw [List.length_replicate]⟩, HH, HB1, HB2, HB3, HB⟩
  case round =>
    clear HH HB1 HB2 HB3 HB
    obtain ⟨i, acc, rfl, HK, HI, HL, HH, HB1, HB2, HB3, HB⟩ := hrel
    by_cases hlt : i < l0_1.length
    · obtain ⟨k1, rfl⟩ : ∃ k1, gk = k1 + 1 := ⟨gk - 1, by have := HK.out; omega⟩
      have HT := Aside0.mk hlt
      have hdrop : l0_1.drop i = rd_T71 l0_1 (i : Int) :: l0_1.drop (i + 1) := by
        rw [List.drop_eq_getElem_cons hlt]
        unfold rd_T71
        rw [Int.toNat_natCast, List.getD_eq_getElem?_getD, List.getElem?_eq_getElem hlt]
        rfl
      have HS := HH.out
      rw [hdrop] at HS
      obtain ⟨ad, e, hx0, hx1, hx2, hx3, hx4⟩ := at_T71 HR.out (i : Int) (by omega) (by omega)
      generalize rd_T71 l0_1 (i : Int) = x at HS hx0 hx1 hx2 hx3 hx4
      unfold best_ties.fold at HS
      obtain ⟨acc2, hst, hrest⟩ := Option.bind_eq_some_iff.1 HS
      unfold best_ties.step at hst
      obtain ⟨u1, hu1, hst⟩ := Option.bind_eq_some_iff.1 hst
      obtain ⟨p1, hp1, hst⟩ := Option.bind_eq_some_iff.1 hst
      obtain ⟨acc1, ha1, hst⟩ := Option.bind_eq_some_iff.1 hst
      obtain ⟨u2, hu2, hst⟩ := Option.bind_eq_some_iff.1 hst
      obtain ⟨p2, hp2, ha2⟩ := Option.bind_eq_some_iff.1 hst
      obtain ⟨q0, q1, q2, q3, q4, q5⟩ := best_ties.put_some ha1
      obtain ⟨_, _, _, _, q6, q7⟩ := best_ties.put_some ha2
      have U1 := Aside0.mk hu1
      have P1 := Aside0.mk hp1
      have U2 := Aside0.mk hu2
      have P2 := Aside0.mk hp2
      have HREST := Aside0.mk hrest
      have E1 := Aside0.mk q5
      have E2 := Aside0.mk q7
      have L1 := Aside0.mk q6
      clear HS hst hu1 hp1 hu2 hp2 ha1 ha2 hrest q4 q5 q6 q7 hdrop HH
      cases e
      simp only [Int.toNat_natCast] at hx0 hx1 hx2 hx3 hx4
      replace hx0 := (HB.out.cell (World.block_lt_of_cell? w _ hx0)).trans hx0
      replace hx1 := (HB.out.cell (World.block_lt_of_cell? w _ hx1)).trans hx1
      replace hx2 := (HB.out.cell (World.block_lt_of_cell? w _ hx2)).trans hx2
      replace hx3 := (HB.out.cell (World.block_lt_of_cell? w _ hx3)).trans hx3
      replace hx4 := (HB.out.cell (World.block_lt_of_cell? w _ hx4)).trans hx4
      have pi0 : ((0 : Int) ≤ (i : Int)) = True := eq_true (by omega)
      have pi1 : ((i : Int) < (l0_1.length : Int)) = True := eq_true (by omega)
      have pa0 := eq_true q0
      have pa1 := eq_true q1
      have pa2 := eq_true q2
      have pa3 := eq_true q3
      go_wp2_with (first
        | ((with_reducible refine gate_dst (N := 5) rfl ?_); refine arr_event rfl rfl (N := 5) rfl rfl rfl rfl (z := .agg #[.int .i64 0, .int .i64 0, .int .i64 0, .int .i64 0, .int .i64 0]) (bytes := 40) (k := 5) (by kernel_rfl) rfl (cs := #[.int .i64 x.f0, .int .i64 x.f1, .int .i64 x.f2, .int .i64 x.f3, .int .i64 x.f4]) rfl (by intro u hu; simp only [List.mem_cons, List.not_mem_nil, or_false] at hu; rcases hu with rfl | rfl | rfl | rfl | rfl <;> rfl) ?hn ?hx ?_; (case hn => first | rfl | (go_simp; done) | (go_simp; rfl)); (case hx => first | rfl | (go_simp; done) | (go_simp; rfl)); intro g5 hg5 w5 hb5 hbel5; have B5 := Aside0.mk hb5; have E5 := Aside0.mk hg5; have L5 := Aside0.mk hbel5; clear hg5 hb5 hbel5; have hc50 : w5.cell? ⟨g5, 0, none⟩ = some (.int .i64 x.f0) := (blk_cell B5.out 0).trans rfl; have hc51 : w5.cell? ⟨g5, 1, none⟩ = some (.int .i64 x.f1) := (blk_cell B5.out 1).trans rfl; have hc52 : w5.cell? ⟨g5, 2, none⟩ = some (.int .i64 x.f2) := (blk_cell B5.out 2).trans rfl; have hc53 : w5.cell? ⟨g5, 3, none⟩ = some (.int .i64 x.f3) := (blk_cell B5.out 3).trans rfl; have hc54 : w5.cell? ⟨g5, 4, none⟩ = some (.int .i64 x.f4) := (blk_cell B5.out 4).trans rfl; clear hx0 hx1 hx2 hx3 hx4))
      have hz : (16 * x.f0 + x.f1).toNat < acc.length := by have := HL.out; omega
      have B3 := Aside0.mk (blk_below HB3.out L5.out)
      obtain ⟨za, zb, hz0, hz1⟩ := best_ties.at2 B3.out q0 q2 hz
      have hf0 := blk_frozen B3.out (x.f0.toNat * 32 + x.f1.toNat * 2)
      have hf1 := blk_frozen B3.out (x.f0.toNat * 32 + x.f1.toNat * 2 + 1)
      have ez := World.new_ne w5 _ hz0
      have QL := Aside0.mk (show x.f0.toNat * 32 + x.f1.toNat * 2 + 1 < (ag66 acc).size by rw [ag66_size, HL.out]; omega)
      have QI := Aside0.mk (show 0 ≤ x.f0 ∧ x.f0 < 16 ∧ 0 ≤ x.f1 ∧ x.f1 < 16 from ⟨q0, q1, q2, q3⟩)
      have hy0 : ∀ (n : Nat) (c : Array Value), ((w5.drewN n).alloc (.cells c 3)).cell? ⟨g3, x.f0.toNat * 32 + x.f1.toNat * 2, none⟩ = some (.int .i64 za) := fun n c => (World.cell?_alloc_lt (w5.drewN n) _ _ (World.block_lt_of_cell? w5 _ hz0)).trans hz0
      have hy1 : ∀ (n : Nat) (c : Array Value), ((w5.drewN n).alloc (.cells c 3)).cell? ⟨g3, x.f0.toNat * 32 + x.f1.toNat * 2 + 1, none⟩ = some (.int .i64 zb) := fun n c => (World.cell?_alloc_lt (w5.drewN n) _ _ (World.block_lt_of_cell? w5 _ hz1)).trans hz1
      have hzz : ∀ (W : World) (v : Value), (W.setCell ⟨g3, x.f0.toNat * 32 + x.f1.toNat * 2, none⟩ v).cell? ⟨g3, x.f0.toNat * 32 + x.f1.toNat * 2 + 1, none⟩ = W.cell? ⟨g3, x.f0.toNat * 32 + x.f1.toNat * 2 + 1, none⟩ := fun W v => World.cell?_setCell_other _ _ _ _ (by intro e; injection e with _ e2; omega)
      have hg0 : ∀ (n : Nat) (c : Array Value), ((w5.drewN n).alloc (.cells c 3)).frozen? ⟨g3, x.f0.toNat * 32 + x.f1.toNat * 2, none⟩ = false := fun n c => (frozen?_alloc_cells _ _ _ _).trans hf0
      have hg1 : ∀ (n : Nat) (c : Array Value), ((w5.drewN n).alloc (.cells c 3)).frozen? ⟨g3, x.f0.toNat * 32 + x.f1.toNat * 2 + 1, none⟩ = false := fun n c => (frozen?_alloc_cells _ _ _ _).trans hf1
      have n53 : g5 ≠ g3 := by have := blk_lt HB3.out; have := E5.out; omega
      have n35 : g3 ≠ g5 := n53.symm
      have HBn := Aside0.mk (below_step HB.out L5.out)
      have B1 := Aside0.mk (blk_below HB1.out L5.out)
      have B2 := Aside0.mk (blk_below HB2.out L5.out)
      clear HB HB1 HB2 HB3 q0 q1 q2 q3 pi0 pi1 hlt hz
      go_region_held3 (fun w' => w'.cell? ⟨g5, 0, none⟩ = some (.int .i64 x.f0) ∧ w'.cell? ⟨g5, 1, none⟩ = some (.int .i64 x.f1) ∧ w'.cell? ⟨g5, 2, none⟩ = some (.int .i64 x.f2) ∧ w'.cell? ⟨g5, 3, none⟩ = some (.int .i64 x.f3))
        (go_keep)
        (first
          | (go_at_call 40; refine (best_usual.calls _ _ _ U1.out).mono ?_; rintro e w' ⟨rfl, hd⟩; obtain ⟨nd, rfl⟩ := hd)
          | (go_at_call 39; refine (best_ties.or_calls k x.f3 u1 p1 w5 _ P1.out).mono ?_; rintro e w' ⟨nd2, rfl, rfl⟩))
      have hz6 : (16 * x.f0 + x.f1).toNat < acc.length := by have := HL.out; have := QI.out; omega
      have C3 := best_ties.block (k := x.f2) (p := p1) (blk_drewN (blk_alloc (blk_drewN B3.out (1 + nd)) (Obj.cells #[Value.int IntKind.i64 x.f3, Value.int IntKind.i64 u1] 3)) nd2) QI.out.1 QI.out.2.2.1 hz6
      have C5 := blk_far (blk_far (blk_drewN (blk_alloc (blk_drewN B5.out (1 + nd)) (Obj.cells #[Value.int IntKind.i64 x.f3, Value.int IntKind.i64 u1] 3)) nd2) (p := ⟨g3, x.f0.toNat * 32 + x.f1.toNat * 2, none⟩) n53 (.int .i64 x.f2)) (p := ⟨g3, x.f0.toNat * 32 + x.f1.toNat * 2 + 1, none⟩) n53 (.int .i64 p1)
      have C1 := blk_far (blk_far (blk_drewN (blk_alloc (blk_drewN B1.out (1 + nd)) (Obj.cells #[Value.int IntKind.i64 x.f3, Value.int IntKind.i64 u1] 3)) nd2) (p := ⟨g3, x.f0.toNat * 32 + x.f1.toNat * 2, none⟩) (show g1 ≠ g3 by have := HG.out; omega) (.int .i64 x.f2)) (p := ⟨g3, x.f0.toNat * 32 + x.f1.toNat * 2 + 1, none⟩) (show g1 ≠ g3 by have := HG.out; omega) (.int .i64 p1)
      have C2 := blk_far (blk_far (blk_drewN (blk_alloc (blk_drewN B2.out (1 + nd)) (Obj.cells #[Value.int IntKind.i64 x.f3, Value.int IntKind.i64 u1] 3)) nd2) (p := ⟨g3, x.f0.toNat * 32 + x.f1.toNat * 2, none⟩) (show g2 ≠ g3 by have := HG.out; omega) (.int .i64 x.f2)) (p := ⟨g3, x.f0.toNat * 32 + x.f1.toNat * 2 + 1, none⟩) (show g2 ≠ g3 by have := HG.out; omega) (.int .i64 p1)
      have CB := below_set (j := x.f0.toNat * 32 + x.f1.toNat * 2 + 1) (v := .int .i64 p1) (below_set (j := x.f0.toNat * 32 + x.f1.toNat * 2) (v := .int .i64 x.f2) (pw_below_drewN (below_alloc (pw_below_drewN HBn.out (1 + nd)) (Obj.cells #[Value.int IntKind.i64 x.f3, Value.int IntKind.i64 u1] 3)) nd2) (show w.heap.size ≤ g3 by have := HG.out; omega)) (show w.heap.size ≤ g3 by have := HG.out; omega)
      clear hz0 hz1 hf0 hf1 hy0 hy1 hg0 hg1 hzz ez B1 B2 B3 B5 HBn QL hc50 hc51 hc52 hc53 hc54 hz6
      generalize (((((w5.drewN (1 + nd)).alloc (Obj.cells #[Value.int IntKind.i64 x.f3, Value.int IntKind.i64 u1] 3)).drewN nd2).setCell ⟨g3, x.f0.toNat * 32 + x.f1.toNat * 2, none⟩ (.int .i64 x.f2)).setCell ⟨g3, x.f0.toNat * 32 + x.f1.toNat * 2 + 1, none⟩ (.int .i64 p1)) = w6 at C1 C2 C3 C5 CB ⊢
      rw [← E1.out] at C3
      have D1 := Aside0.mk C1
      have D2 := Aside0.mk C2
      have D3 := Aside0.mk C3
      have D5 := Aside0.mk C5
      have DB := Aside0.mk CB
      clear C1 C2 C3 C5 CB
      have hc60 : w6.cell? ⟨g5, 0, none⟩ = some (.int .i64 x.f0) := (blk_cell D5.out 0).trans rfl
      have hc61 : w6.cell? ⟨g5, 1, none⟩ = some (.int .i64 x.f1) := (blk_cell D5.out 1).trans rfl
      have hc64 : w6.cell? ⟨g5, 4, none⟩ = some (.int .i64 x.f4) := (blk_cell D5.out 4).trans rfl
      have hz : (16 * x.f1 + x.f0).toNat < acc1.length := by have := L1.out; have := QI.out; omega
      obtain ⟨za, zb, hz0, hz1⟩ := best_ties.at2 D3.out QI.out.2.2.1 QI.out.1 hz
      have hf0 := blk_frozen D3.out (x.f1.toNat * 32 + x.f0.toNat * 2)
      have hf1 := blk_frozen D3.out (x.f1.toNat * 32 + x.f0.toNat * 2 + 1)
      have ez := World.new_ne w6 _ hz0
      have hy0 : ∀ (n : Nat) (c : Array Value), ((w6.drewN n).alloc (.cells c 3)).cell? ⟨g3, x.f1.toNat * 32 + x.f0.toNat * 2, none⟩ = some (.int .i64 za) := fun n c => (World.cell?_alloc_lt (w6.drewN n) _ _ (World.block_lt_of_cell? w6 _ hz0)).trans hz0
      have hy1 : ∀ (n : Nat) (c : Array Value), ((w6.drewN n).alloc (.cells c 3)).cell? ⟨g3, x.f1.toNat * 32 + x.f0.toNat * 2 + 1, none⟩ = some (.int .i64 zb) := fun n c => (World.cell?_alloc_lt (w6.drewN n) _ _ (World.block_lt_of_cell? w6 _ hz1)).trans hz1
      have hzz : ∀ (W : World) (v : Value), (W.setCell ⟨g3, x.f1.toNat * 32 + x.f0.toNat * 2, none⟩ v).cell? ⟨g3, x.f1.toNat * 32 + x.f0.toNat * 2 + 1, none⟩ = W.cell? ⟨g3, x.f1.toNat * 32 + x.f0.toNat * 2 + 1, none⟩ := fun W v => World.cell?_setCell_other _ _ _ _ (by intro e; injection e with _ e2; omega)
      have hg0 : ∀ (n : Nat) (c : Array Value), ((w6.drewN n).alloc (.cells c 3)).frozen? ⟨g3, x.f1.toNat * 32 + x.f0.toNat * 2, none⟩ = false := fun n c => (frozen?_alloc_cells _ _ _ _).trans hf0
      have hg1 : ∀ (n : Nat) (c : Array Value), ((w6.drewN n).alloc (.cells c 3)).frozen? ⟨g3, x.f1.toNat * 32 + x.f0.toNat * 2 + 1, none⟩ = false := fun n c => (frozen?_alloc_cells _ _ _ _).trans hf1
      clear hz
      go_wp2
      go_region_held3 (fun w' => w'.cell? ⟨g5, 0, none⟩ = some (.int .i64 x.f0) ∧ w'.cell? ⟨g5, 1, none⟩ = some (.int .i64 x.f1) ∧ w'.cell? ⟨g5, 4, none⟩ = some (.int .i64 x.f4))
        (go_keep)
        (first
          | (go_at_call 40; refine (best_usual.calls _ _ _ U2.out).mono ?_; rintro e w' ⟨rfl, hd⟩; obtain ⟨ne, rfl⟩ := hd)
          | (go_at_call 39; refine (best_ties.or_calls k x.f4 u2 p2 w6 _ P2.out).mono ?_; rintro e w' ⟨ne2, rfl, rfl⟩))
      have hz7 : (16 * x.f1 + x.f0).toNat < acc1.length := by have := L1.out; have := QI.out; omega
      have C3 := best_ties.block (k := wrap64 (4 - x.f2)) (p := p2) (blk_drewN (blk_alloc (blk_drewN D3.out (1 + ne)) (Obj.cells #[Value.int IntKind.i64 x.f4, Value.int IntKind.i64 u2] 3)) ne2) QI.out.2.2.1 QI.out.1 hz7
      have C1 := blk_far (blk_far (blk_drewN (blk_alloc (blk_drewN D1.out (1 + ne)) (Obj.cells #[Value.int IntKind.i64 x.f4, Value.int IntKind.i64 u2] 3)) ne2) (p := ⟨g3, x.f1.toNat * 32 + x.f0.toNat * 2, none⟩) (show g1 ≠ g3 by have := HG.out; omega) (.int .i64 (wrap64 (4 - x.f2)))) (p := ⟨g3, x.f1.toNat * 32 + x.f0.toNat * 2 + 1, none⟩) (show g1 ≠ g3 by have := HG.out; omega) (.int .i64 p2)
      have C2 := blk_far (blk_far (blk_drewN (blk_alloc (blk_drewN D2.out (1 + ne)) (Obj.cells #[Value.int IntKind.i64 x.f4, Value.int IntKind.i64 u2] 3)) ne2) (p := ⟨g3, x.f1.toNat * 32 + x.f0.toNat * 2, none⟩) (show g2 ≠ g3 by have := HG.out; omega) (.int .i64 (wrap64 (4 - x.f2)))) (p := ⟨g3, x.f1.toNat * 32 + x.f0.toNat * 2 + 1, none⟩) (show g2 ≠ g3 by have := HG.out; omega) (.int .i64 p2)
      have CB := below_set (j := x.f1.toNat * 32 + x.f0.toNat * 2 + 1) (v := .int .i64 p2) (below_set (j := x.f1.toNat * 32 + x.f0.toNat * 2) (v := .int .i64 (wrap64 (4 - x.f2))) (pw_below_drewN (below_alloc (pw_below_drewN DB.out (1 + ne)) (Obj.cells #[Value.int IntKind.i64 x.f4, Value.int IntKind.i64 u2] 3)) ne2) (show w.heap.size ≤ g3 by have := HG.out; omega)) (show w.heap.size ≤ g3 by have := HG.out; omega)
      clear hz0 hz1 hf0 hf1 hy0 hy1 hg0 hg1 hzz ez D1 D2 D3 D5 DB hc60 hc61 hc64 hz7
      generalize (((((w6.drewN (1 + ne)).alloc (Obj.cells #[Value.int IntKind.i64 x.f4, Value.int IntKind.i64 u2] 3)).drewN ne2).setCell ⟨g3, x.f1.toNat * 32 + x.f0.toNat * 2, none⟩ (.int .i64 (wrap64 (4 - x.f2)))).setCell ⟨g3, x.f1.toNat * 32 + x.f0.toNat * 2 + 1, none⟩ (.int .i64 p2)) = w7 at C1 C2 C3 CB ⊢
      rw [← E2.out] at C3
      have D1 := Aside0.mk C1
      have D2 := Aside0.mk C2
      have D3 := Aside0.mk C3
      have DB := Aside0.mk CB
      have LA := Aside0.mk (show acc2.length = 256 by rw [E2.out, List.length_set]; exact L1.out)
      clear C1 C2 C3 CB pa0 pa1 pa2 pa3
      have hib : (i : Int) < 9223372036854775807 := by have := HT.out; have := HM.out; omega
      go_wp2
      clear hib
      go_roundg k1
      case measure => omega
      case rel => exact ⟨i + 1, acc2, by go_num, ⟨by have := HK.out; omega⟩, ⟨by have := HI.out; have := HT.out; omega⟩, LA, HREST, D1, D2, D3, DB⟩
    · have hie : i = l0_1.length := by have := HI.out; omega
      have HE := Aside0.mk hie
      have HH2 := HH.out
      rw [hie, List.drop_length] at HH2
      unfold best_ties.fold at HH2
      obtain rfl := Option.some.inj HH2
      clear hie HH2
      go_wp2_with (first
        | ((with_reducible refine gate_dst (N := 48) rfl ?_); refine arrls_event (w0 := w) rfl rfl (N := 48) rfl rfl rfl rfl Try.underlying66 rfl best_ties.info (g := g3) (g' := g2) ?hp ?hq ?hn HB3.out HB2.out ((ag66_size _).trans (by have := HL.out; omega)) ((ag66_size _).trans (by rw [List.length_replicate])) (ag66_one _) HB.out (by have := HG.out; omega) ?_; (case hp => first | rfl | (go_simp; done) | (go_simp; rfl)); (case hq => first | rfl | (go_simp; done) | (go_simp; rfl)); (case hn => first | rfl | (go_simp; done) | (go_simp; rfl)); intro w9 h9 hb9; have D2 := Aside0.mk h9; have DB := Aside0.mk hb9; clear h9 hb9))
      refine bodyPost_ret (results_cell_row rfl _ _ g2 66 (ag66 acc) (0, 0) _ rfl D2.out Try.underlying66 rfl (by rw [ag66_size, HL.out]; kernel_rfl)) rfl ?_
      exact ⟨rfl, DB.out⟩
end Go.Proofs.Ytplcdbhklepkgaa.BS
