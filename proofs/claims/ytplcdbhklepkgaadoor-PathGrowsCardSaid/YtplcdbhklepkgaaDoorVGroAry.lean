/- Words for texts that gen.py prints: variables in memory that hold an array of arrays of small structs: made and filled at once, and read by two indices. No condition. -/
import Derived.Test.YtplcdbhklepkgaaDoorVGroClear
import Derived.Laws.Rows
namespace Go.Proofs.YtplcdbhklepkgaaDoorW.PrintWords
open Go.RowKit
/-- The cells of a list of elements, each of which has its own. -/
def arrOf {α : Type} (enc : α → List Value) (l : List α) : Array Value := (l.flatMap enc).toArray
section
variable {α : Type} {enc : α → List Value} {n : Nat}
theorem arrOf_size (hn : ∀ x, (enc x).length = n) (l : List α) : (arrOf enc l).size = l.length * n := by
  unfold arrOf
  rw [List.size_toArray]
  induction l with
  | nil => simp
  | cons x l ih => rw [List.flatMap_cons, List.length_append, hn, ih, List.length_cons, Nat.succ_mul, Nat.add_comm]
theorem flat_get (hn : ∀ x, (enc x).length = n) : ∀ (l : List α) (d : α) (i f : Nat), i < l.length → f < n → (l.flatMap enc)[i * n + f]? = (enc (l.getD i d))[f]?
  | [], _, i, _, h, _ => absurd h (by simp)
  | x :: l, d, 0, f, _, hf => by
    rw [List.flatMap_cons, Nat.zero_mul, Nat.zero_add, List.getElem?_append_left (by rw [hn]; exact hf)]
    rfl
  | x :: l, d, i + 1, f, h, hf => by
    rw [List.flatMap_cons, List.getElem?_append_right (by rw [hn, Nat.succ_mul]; omega), hn, show (i + 1) * n + f - n = i * n + f by rw [Nat.succ_mul]; omega, flat_get hn l d i f (by simpa using h) hf]
    rfl
theorem flat_set2 {c0 c1 : α → Value} (hc : ∀ x, enc x = [c0 x, c1 x]) : ∀ (l : List α) (i : Nat) (x : α), i < l.length → (l.set i x).flatMap enc = ((l.flatMap enc).set (i * 2) (c0 x)).set (i * 2 + 1) (c1 x)
  | [], _, _, h => absurd h (by simp)
  | y :: l, 0, x, _ => by simp [hc]
  | y :: l, i + 1, x, h => by
    rw [List.set_cons_succ, List.flatMap_cons, flat_set2 hc l i x (by simpa using h), List.flatMap_cons, hc y, show (i + 1) * 2 = i * 2 + 1 + 1 by omega]
    rfl
theorem arrOf_set2 {c0 c1 : α → Value} (hc : ∀ x, enc x = [c0 x, c1 x]) (l : List α) (i : Nat) (x : α) (h : i < l.length) : arrOf enc (l.set i x) = ((arrOf enc l).setIfInBounds (i * 2) (c0 x)).setIfInBounds (i * 2 + 1) (c1 x) := by
  unfold arrOf
  rw [flat_set2 hc l i x h]
  simp
theorem arr_cell (hn : ∀ x, (enc x).length = n) {w : World} {g T : Nat} {l : List α} (hb : w.heap[g]? = some (.cells (arrOf enc l) T (0, 0))) (d : α) (M f : Nat) {Mi : Int} (hM : Mi = (M : Int)) {i j : Int} (h0 : 0 ≤ i) (h1 : 0 ≤ j) (h : Mi * i + j < (l.length : Int)) (hf : f < n) {v : Value} (hv : (enc (l.getD (Mi * i + j).toNat d))[f]? = some v) :
    w.cell? ⟨g, i.toNat * (M * n) + j.toNat * n + f, none⟩ = some v := by
  subst hM
  have h2 := blk_cell hb (i.toNat * (M * n) + j.toNat * n + f)
  rw [h2]
  obtain ⟨i, rfl⟩ := Int.eq_ofNat_of_zero_le h0
  obtain ⟨j, rfl⟩ := Int.eq_ofNat_of_zero_le h1
  have h3 : ((M : Int) * (i : Int) + (j : Int)).toNat = M * i + j := by
    rw [← Int.natCast_mul, ← Int.natCast_add, Int.toNat_natCast]
  rw [h3] at hv
  simp only [Int.toNat_natCast]
  have h4 : M * i + j < l.length := by
    rw [← Int.natCast_mul, ← Int.natCast_add] at h
    exact Int.ofNat_lt.1 h
  have h5 : i * (M * n) + j * n + f = (M * i + j) * n + f := by
    rw [Nat.add_mul, Nat.mul_comm i (M * n), Nat.mul_right_comm]
  rw [h5]
  unfold arrOf
  rw [List.getElem?_toArray, flat_get hn l d _ f h4 hf, hv]
end
section
variable {P : Program} {ops : Array Oper} {rest : List Oper} {o o2 : Oper} {a : Act} {Q : Exit → Act → World → Prop}
/-- An array variable, made and filled. -/
theorem arr_event {W : World} (hgd : o.guard = none) (hgd2 : o2.guard = none) {N : Tmp} (hd : o.dst = some N) (hd2 : o2.dst = none) {T : TypeId} (ho : o.op = .alloc T) {x : Operand} (ho2 : o2.op = .store T (.tmp N) x)
    {z : Value} {bytes k : Nat} (hinfo : (P.info? T).map (fun i => (i.zero, i.size, i.bytes)) = some (some z, k, bytes)) (hz : z.cells.size = k) {cs : Array Value} (hcs : cs.size = k) (hone : ∀ u ∈ cs.toList, u.oneCell' = true)
    (hn : (a.put (some N) (.pointer (some ⟨W.heap.size, 0, none⟩))).eval (.tmp N) = .pointer (some ⟨W.heap.size, 0, none⟩)) (hx : (a.put (some N) (.pointer (some ⟨W.heap.size, 0, none⟩))).eval x = .agg cs)
    (h : ∀ g, g = W.heap.size → ∀ w1, w1.heap[g]? = some (.cells cs T (0, 0)) → Below W.heap.size W w1 → wpList P ops Q rest (a.put (some N) (.pointer (some ⟨g, 0, none⟩))) w1) : wpList P ops Q (o :: o2 :: rest) a W := by
  obtain ⟨i0, hi0, hzz, hsz, _⟩ := info_parts hinfo
  have hv : ∀ w, (zeroValue T).run P w = .ok z w := by
    intro w
    simp [zeroValue, run_typeInfo, hi0, hzz]
  have hsize : ∀ w, (sizeOf T).run P w = .ok k w := by
    intro w
    simp [sizeOf, run_typeInfo, hi0, hsz]
  have hrun1 : (execOp a.eval o).run P W = .ok (.value (.pointer (some ⟨W.heap.size, 0, none⟩))) (W.alloc (.cells z.cells T (0, 0))) := by
    unfold execOp
    simp only [ho, Instr.alloc, Sem.run_bind, Sem.run_pure, hv, Result.andThen_ok, newVar, newRow, run_newObj_alloc]
  refine Kd.event_run hgd hrun1 ?_
  rw [hd]
  have hb0 : (W.alloc (.cells z.cells T (0, 0))).heap[W.heap.size]? = some (.cells z.cells T (0, 0)) := blk_new W _
  have hst := run_storeCells_cells (P := P) W.heap.size 0 cs.toList 0 (W.alloc (.cells z.cells T (0, 0))) (fun j hj => by rw [cell_of_row _ W.heap.size _ z.cells T (0, 0) hb0]; simp at hj ⊢; omega) (fun j _ => blk_frozen hb0 _) hone
  simp only [Nat.add_zero] at hst
  obtain ⟨cur', h3, h4, h5⟩ := setCells_row cs.toList 0 _ z.cells hb0 (by rw [Array.length_toList]; omega)
  have hcur : cur' = cs := by
    apply Array.toList_inj.1
    rw [h5, List.take_zero, List.nil_append, Nat.zero_add, List.drop_eq_nil_of_le (by rw [Array.length_toList, Array.length_toList]; omega), List.append_nil]
  rw [hcur] at h3
  obtain ⟨s1, s2, s3, s4⟩ := setCells_same W.heap.size cs.toList 0 (W.alloc (.cells z.cells T (0, 0)))
  have hbel : Below W.heap.size W ((W.alloc (.cells z.cells T (0, 0))).setCells W.heap.size 0 cs.toList) := by
    have hg : (W.alloc (.cells z.cells T (0, 0))).grownBy ((W.alloc (.cells z.cells T (0, 0))).setCells W.heap.size 0 cs.toList) (some W.heap.size) :=
      ⟨s1, s2, s3, by rw [s4]; exact Nat.le_refl _, fun k' _ hk' => setCells_far cs.toList _ k' (fun he => hk' (by rw [he]))⟩
    exact (below_alloc (Below.refl _ _) _).grown hg (Nat.le_of_lt (by rw [World.alloc, Array.size_push]; omega)) (fun k hk => by injection hk with hk; omega)
  have hrun2 : (execOp (a.put (some N) (.pointer (some ⟨W.heap.size, 0, none⟩))).eval o2).run P (W.alloc (.cells z.cells T (0, 0))) = .ok .skip ((W.alloc (.cells z.cells T (0, 0))).setCells W.heap.size 0 cs.toList) := by
    unfold execOp
    simp only [ho2, Instr.storeAt, Sem.run_bind, hx, hn, Instr.sureAddr, Sem.run_pure, Result.andThen_ok, storeVar, hsize, show (Value.agg cs).cells = cs from rfl, hcs, ne_eq, not_true_eq_false, if_false, hst]
  refine wpList_plain hgd2 fun K hK => ?_
  unfold Oper.wp
  rw [hrun2]
  show K ((a.put (some N) (.pointer (some ⟨W.heap.size, 0, none⟩))).put o2.dst undef) _
  rw [hd2]
  exact hK _ _ (h _ rfl _ h3 hbel)
/-- An array variable, made. -/
theorem arrz_event {W : World} (hgd : o.guard = none) {N : Tmp} (hd : o.dst = some N) {T : TypeId} (ho : o.op = .alloc T) {cs : Array Value} {bytes k : Nat} (hinfo : (P.info? T).map (fun i => (i.zero, i.size, i.bytes)) = some (some (.agg cs), k, bytes))
    (h : ∀ g, g = W.heap.size → ∀ w1, w1.heap[g]? = some (.cells cs T (0, 0)) → Below W.heap.size W w1 → wpList P ops Q rest (a.put (some N) (.pointer (some ⟨g, 0, none⟩))) w1) : wpList P ops Q (o :: rest) a W := by
  obtain ⟨i0, hi0, hzz, hsz, _⟩ := info_parts hinfo
  have hv : ∀ w, (zeroValue T).run P w = .ok (.agg cs) w := by
    intro w
    simp [zeroValue, run_typeInfo, hi0, hzz]
  have hrun1 : (execOp a.eval o).run P W = .ok (.value (.pointer (some ⟨W.heap.size, 0, none⟩))) (W.alloc (.cells cs T (0, 0))) := by
    unfold execOp
    simp only [ho, Instr.alloc, Sem.run_bind, Sem.run_pure, hv, Result.andThen_ok, newVar, newRow, run_newObj_alloc, show (Value.agg cs).cells = cs from rfl]
  refine Kd.event_run hgd hrun1 ?_
  rw [hd]
  exact h _ rfl _ (blk_new W _) (below_alloc (Below.refl _ _) _)
/-- An array variable is copied, whole, into another one that is known. -/
theorem arrls_event {W w0 : World} (hgd : o.guard = none) (hgd2 : o2.guard = none) {N : Tmp} (hd : o.dst = some N) (hd2 : o2.dst = none) {T : TypeId} {p q : Operand} (ho : o.op = .load T p) (ho2 : o2.op = .store T q (.tmp N)) {d : TypeDesc} (hu : P.underlying T = some d) (hda : (match d with | .struct _ | .array _ _ => true | _ => false) = true)
    {z : Option Value} {bytes k : Nat} (hinfo : (P.info? T).map (fun i => (i.zero, i.size, i.bytes)) = some (z, k, bytes)) {g g' : Nat} {cs cs' : Array Value} (hp : a.eval p = .pointer (some ⟨g, 0, none⟩)) (hq : (a.put (some N) (.agg cs)).eval q = .pointer (some ⟨g', 0, none⟩)) (hn : (a.put (some N) (.agg cs)).eval (.tmp N) = .agg cs)
    (hb : W.heap[g]? = some (.cells cs T (0, 0))) (hb' : W.heap[g']? = some (.cells cs' T (0, 0))) (hs : cs.size = k) (hs' : cs'.size = k) (hone : ∀ u ∈ cs.toList, u.oneCell' = true) (HB : Below w0.heap.size w0 W) (hg : w0.heap.size ≤ g')
    (h : ∀ w1, w1.heap[g']? = some (.cells cs T (0, 0)) → Below w0.heap.size w0 w1 → wpList P ops Q rest (a.put (some N) (.agg cs)) w1) : wpList P ops Q (o :: o2 :: rest) a W := by
  have hi2 : (P.info? T).map (·.size) = some cs.size := by
    cases hi : P.info? T with
    | none => rw [hi] at hinfo; cases hinfo
    | some i0 => rw [hi] at hinfo; injection hinfo with e; injection e with e1 e2; injection e2 with e2 e3; rw [Option.map_some, e2, hs]
  refine wpList_load_row hgd T p ho g hp T cs (0, 0) d hb hu hda hi2 ?_
  rw [hd]
  have hsize : ∀ w, (sizeOf T).run P w = .ok k w := by
    intro w
    cases hi : P.info? T with
    | none => rw [hi] at hinfo; cases hinfo
    | some i0 => rw [hi] at hinfo; injection hinfo with e; injection e with e1 e2; injection e2 with e2 e3; simp [sizeOf, run_typeInfo, hi, e2]
  have hst := run_storeCells_cells (P := P) g' 0 cs.toList 0 W (fun j hj => by rw [cell_of_row _ g' _ cs' T (0, 0) hb']; simp at hj ⊢; omega) (fun j _ => blk_frozen hb' _) hone
  simp only [Nat.add_zero] at hst
  obtain ⟨cur', h3, h4, h5⟩ := setCells_row cs.toList 0 W cs' hb' (by rw [Array.length_toList]; omega)
  have hcur : cur' = cs := by
    apply Array.toList_inj.1
    rw [h5, List.take_zero, List.nil_append, Nat.zero_add, List.drop_eq_nil_of_le (by rw [Array.length_toList, Array.length_toList]; omega), List.append_nil]
  rw [hcur] at h3
  obtain ⟨s1, s2, s3, s4⟩ := setCells_same g' cs.toList 0 W
  have hgr : W.grownBy (W.setCells g' 0 cs.toList) (some g') := ⟨s1, s2, s3, by rw [s4]; exact Nat.le_refl _, fun k' _ hk' => setCells_far cs.toList _ k' (fun he => hk' (by rw [he]))⟩
  have hrun2 : (execOp (a.put (some N) (.agg cs)).eval o2).run P W = .ok .skip (W.setCells g' 0 cs.toList) := by
    unfold execOp
    simp only [ho2, Instr.storeAt, Sem.run_bind, hq, hn, Instr.sureAddr, Sem.run_pure, Result.andThen_ok, storeVar, hsize, show (Value.agg cs).cells = cs from rfl, hs, ne_eq, not_true_eq_false, if_false, hst]
  refine wpList_plain hgd2 fun K hK => ?_
  unfold Oper.wp
  rw [hrun2]
  show K ((a.put (some N) (.agg cs)).put o2.dst undef) _
  rw [hd2]
  exact hK _ _ (h _ h3 (HB.grown hgr HB.size (fun k hk => by injection hk with hk; omega)))
/-- A slice literal that is only read. -/
theorem litr_event {W : World} (hgd : o.guard = none) {N : Tmp} (_hd : o.dst = some N) {cs : Array Value} {e : TypeId} {n m : Nat} (hm : m = n)
    (hrun : (execOp a.eval o).run P W = .ok (.value (.slice (some ⟨W.heap.size, 0, none⟩) n n)) (W.alloc (.cells cs e (0, 0))))
    (h : ∀ g, g = W.heap.size → ∀ w1, w1.heap[g]? = some (.cells cs e (0, 0)) → Below W.heap.size W w1 → wpList P ops Q rest (a.put o.dst (.slice (some ⟨g, 0, none⟩) m n)) w1) : wpList P ops Q (o :: rest) a W := by
  subst hm
  exact Kd.event_run hgd hrun (h _ rfl _ (blk_new W _) (below_alloc (Below.refl _ _) _))
end
/-- The store of two cells into a block that is known, as one step of a region that draws. -/
theorem step_store2 {P : Program} {ops : Array Oper} {o : Oper} {a : Act} {w : World} {K : Act → World → Prop} {Q : Exit → Act → World → Prop} {E : Prop} (hg : o.guard = none) {T : TypeId} {p v : Operand} (hop : o.op = .store T p v) (hd : o.dst = none)
    {zb : Nat} {z : Option Value} (hinfo : (P.info? T).map (fun i => (i.zero, i.size, i.bytes)) = some (z, 2, zb)) {g off : Nat} {c0 c1 : Value} (hp : a.eval p = .pointer (some ⟨g, off, none⟩)) (hv : a.eval v = .agg #[c0, c1]) (h0 : c0.oneCell' = true) (h1 : c1.oneCell' = true)
    {cs : Array Value} {T' : TypeId} (hb : w.heap[g]? = some (.cells cs T' (0, 0))) (hl : off + 1 < cs.size) (hK : K a ((w.setCell ⟨g, off, none⟩ c0).setCell ⟨g, off + 1, none⟩ c1)) :
    if Region.wanted o (yielded ops a.tmps) = true then Oper.wp P o a w K Q else E := by
  have hw : Region.wanted o (yielded ops a.tmps) = true := by simp [Region.wanted, hg]
  rw [if_pos hw]
  obtain ⟨i0, hi0, _, hsz, _⟩ : ∃ i0, P.info? T = some i0 ∧ i0.zero = z ∧ i0.size = 2 ∧ i0.bytes = zb := by
    cases hi : P.info? T with
    | none => rw [hi] at hinfo; cases hinfo
    | some i0 => rw [hi] at hinfo; injection hinfo with e; injection e with e1 e2; injection e2 with e2 e3; exact ⟨i0, rfl, e1, e2, e3⟩
  have hsize : ∀ w, (sizeOf T).run P w = .ok 2 w := by
    intro w
    simp [sizeOf, run_typeInfo, hi0, hsz]
  have hst := run_storeCells_cells (P := P) g off [c0, c1] 0 w (fun j hj => by rw [Nat.add_zero, cell_of_row w g _ cs T' (0, 0) hb]; simp at hj ⊢; omega) (fun j _ => blk_frozen hb _) (by intro u hu; simp only [List.mem_cons, List.not_mem_nil, or_false] at hu; rcases hu with rfl | rfl <;> assumption)
  simp only [Nat.add_zero, World.setCells] at hst
  have hrun : (execOp a.eval o).run P w = .ok .skip ((w.setCell ⟨g, off, none⟩ c0).setCell ⟨g, off + 1, none⟩ c1) := by
    unfold execOp
    simp only [hop, Instr.storeAt, Sem.run_bind, hp, hv, Instr.sureAddr, Sem.run_pure, Result.andThen_ok, storeVar, hsize, show (Value.agg #[c0, c1]).cells = #[c0, c1] from rfl, show (#[c0, c1] : Array Value).size = 2 from rfl, show (#[c0, c1] : Array Value).toList = [c0, c1] from rfl, ne_eq, not_true_eq_false, if_false, hst]
  unfold Oper.wp
  rw [hrun]
  show K (a.put o.dst undef) _
  rw [hd]
  exact hK
theorem Kd.C_lit {α : Type} {d : Kd α} {w : World} {g e : Nat} {cs : Array Value} {xs : List α} {inner : List Value} (hb : w.heap[g]? = some (.cells cs e (0, 0))) (hc : cs.toList = inner) (hl : xs.length ≤ 9223372036854775807) (hr : Reps (d.K w) d.sz xs inner) : d.C w (some ⟨g, 0, none⟩) xs.length xs := by
  subst hc
  refine ⟨rfl, hl, fun hn => ⟨_, rfl, fun j p hj => ⟨(cs.toList.drop (j * d.sz)).take d.sz, d.K_len (hr.2 j p hj), hr.2 j p hj, fun i u hu => ?_⟩⟩⟩
  rw [List.getElem?_take] at hu
  split at hu
  · rw [List.getElem?_drop] at hu
    have h2 := blk_cell hb (j * d.sz + i)
    rw [add_plain, h2]
    simpa using hu
  · exact absurd hu (by simp)
end Go.Proofs.YtplcdbhklepkgaaDoorW.PrintWords
