/- Words for texts that gen.py prints: clear of the rest of a row of the call's own, whatever its elements' width; rows of known functions. No condition. -/
import Derived.Test.YtplcdbhklepkgaaDoorVGroWMore
import Derived.Lib.SliceRun
namespace Go.Proofs.YtplcdbhklepkgaaDoorW.PrintWords
open Go.RowKit
namespace Kd
section
variable {P : Program} {ops : Array Oper} {rest : List Oper} {o : Oper} {a : Act} {Q : Exit → Act → World → Prop} {Kc : Act → World → Prop} {α : Type}
theorem R_clear_run (d : Kd α) {W : World} (base : Nat) (t ty e : TypeId) (z : Value) (z0 : α) (ht : P.underlying t = some (.slice e)) (hv : ∀ w, (zeroValue e).run P w = .ok z w) (hz : z.cells.size = d.sz) (hs0 : 0 < d.sz) (h0 : ∀ W' b' ok', d.M W' b' ok' z0 z.cells.toList)
    {n c k : Nat} {A0 : Option Addr} {xs : List α} {ok : Nat → Prop} (HO : d.R e W base ok (.slice A0 n c) xs) (hk : k ≤ n) {A : Option Addr} (hA : A = if c = k then A0 else A0.map (·.add (k * d.sz))) (c2 : Nat) :
    ∃ w1, (Builtin.clear_ #[t] ty #[.slice A (n - k) c2]).run P W = .ok (.tuple #[]) w1 ∧ d.R e w1 base ok (.slice A0 n c) (xs.take k ++ List.replicate (n - k) z0) ∧ W.grownBy w1 (Value.slice A0 n c).ownBlock := by
  obtain ⟨hn, hnc, _⟩ := R_reads' HO
  by_cases hk0 : n - k = 0
  · have hkn : k = n := by omega
    refine ⟨W, ?_, ?_, World.grownBy.refl _ _⟩
    · rw [hk0]
      cases A <;> simp [Builtin.clear_, run_underlying ht]
    · rw [hk0, List.replicate_zero, List.append_nil, List.take_of_length_le (by omega)]
      exact HO
  obtain ⟨hok, inner, hown, hr⟩ := HO
  have hin : inner.length = n * d.sz := by rw [hr.1, hn]
  rcases hown.2 with ⟨hv', _⟩ | ⟨g, cap', cur, hv', hb, hh, _, hcm, hcs, htake⟩
  · injection hv' with _ hz1 _
    omega
  injection hv' with ha _ hc
  subst ha; subst hc
  rw [← hn] at htake
  obtain ⟨news, hnews⟩ : ∃ news, news = (Builtin.zeroCells z.cells (n - k)).toList := ⟨_, rfl⟩
  have hreps : ∀ W' b' ok', Reps (d.M W' b' ok') d.sz (List.replicate (n - k) z0) news := fun W' b' ok' => by rw [hnews]; exact reps_zeros hz hs0 (h0 W' b' ok') (n - k)
  have hnl : news.length = (n - k) * d.sz := by rw [(hreps W base ok).1, List.length_replicate]
  have hle : k * d.sz ≤ n * d.sz := Nat.mul_le_mul_right _ hk
  have hnc' : n * d.sz ≤ c * d.sz := Nat.mul_le_mul_right _ hnc
  have hsub : (n - k) * d.sz = n * d.sz - k * d.sz := Nat.sub_mul _ _ _
  have hAe : A = some ⟨g, 0 + k * d.sz, none⟩ := by
    rw [hA, if_neg (by omega), Option.map_some, add_at]
  subst hAe
  have hone : ∀ u ∈ news, u.oneCell' = true := by
    intro u hu
    obtain ⟨q, hq, rfl⟩ := List.mem_iff_getElem.1 hu
    have hq2 : q / d.sz < n - k := by rw [Nat.div_lt_iff_lt_mul hs0, ← hnl]; exact hq
    have hr0 := (hreps W base ok).2 (q / d.sz) z0 (by rw [List.getElem?_replicate, if_pos hq2])
    refine d.K_one (d.K_of_M hr0) _ ?_
    rw [List.mem_iff_getElem?]
    refine ⟨q % d.sz, ?_⟩
    rw [List.getElem?_take, if_pos (Nat.mod_lt _ hs0), List.getElem?_drop, Nat.mul_comm, Nat.div_add_mod, List.getElem?_eq_getElem hq]
  have hfit : 0 + k * d.sz + news.length ≤ cur.size := by omega
  have hst := run_storeCells_cells (P := P) g (0 + k * d.sz) news 0 W (fun j hj => by rw [cell_of_row W g _ cur e (0, 0) hh]; simp; omega) (fun j _ => blk_frozen hh _) hone
  simp only [Nat.add_zero] at hst
  obtain ⟨cur', h3, h4, h5⟩ := setCells_row news (0 + k * d.sz) W cur hh hfit
  obtain ⟨s1, s2, s3, s4⟩ := setCells_same g news (0 + k * d.sz) W
  have hfar : ∀ k', k' ≠ g → (W.setCells g (0 + k * d.sz) news).heap[k']? = W.heap[k']? := fun k' hk' => setCells_far news _ k' hk'
  have hgo : ∀ m, some g = (Value.slice (some ⟨g, 0, none⟩) m c).ownBlock := fun m => by simp [Value.ownBlock]
  have hel : (xs.take k ++ List.replicate (n - k) z0).length = n := by simp; omega
  refine ⟨W.setCells g (0 + k * d.sz) news, ?_, ⟨fun k' hk' => hok k' hk', inner.take (k * d.sz) ++ news, ⟨?_, .inr ⟨g, c, cur', by rw [hel], hb, h3, by rw [hel]; omega, hcm, by rw [h4, hcs], ?_⟩⟩, ?_⟩, ⟨s1, s2, s3, by rw [s4]; exact Nat.le_refl _, fun k' _ hk' => hfar k' (fun he => hk' (by rw [he]; exact hgo _))⟩⟩
  · obtain ⟨m, hm⟩ : ∃ m, n - k = m + 1 := ⟨n - k - 1, by omega⟩
    rw [hm] at hnews ⊢
    rw [Nat.zero_add] at hst ⊢
    simp [Builtin.clear_, run_underlying ht, hv, ← hnews, hst]
  · rw [List.length_append, List.length_take, hnl, hel]
    omega
  · rw [hel, h5]
    have h7 : cur.toList.take (k * d.sz) = inner.take (k * d.sz) := by
      rw [← htake, List.take_take, Nat.min_eq_left (by omega)]
    rw [Nat.zero_add, h7]
    exact List.take_left' (by rw [List.length_append, List.length_take, hnl]; omega)
  · have hmv : ∀ p q, d.M W base (fun k' => ok k' ∧ some k' ≠ (Value.slice (some ⟨g, 0, none⟩) n c).ownBlock) p q → d.M (W.setCells g (0 + k * d.sz) news) base (fun k' => ok k' ∧ some k' ≠ (Value.slice (some ⟨g, 0, none⟩) n c).ownBlock) p q := fun p q hp =>
      d.M_move (fun k' hk' => hfar k' (fun he => hk'.2 (by rw [← hgo, he]))) hp
    exact reps_append ((reps_take hr (by omega)).imp_ hmv) (hreps _ _ _)
theorem R_clear (d : Kd α) {w0 W : World} (base : Nat) (hgd : o.guard = none) (x : Operand) (t e : TypeId) (z : Value) (z0 : α) (ho : o.op = .call { callee := .builtin .clear, args := #[x], argTypes := #[t] })
    (ht : P.underlying t = some (.slice e)) {bytes : Nat} (hinfo : (P.info? e).map (fun i => (i.zero, i.size, i.bytes)) = some (some z, d.sz, bytes)) (hz : z.cells.size = d.sz) (hs0 : 0 < d.sz) (h0 : ∀ W' b' ok', d.M W' b' ok' z0 z.cells.toList) {n c k m c2 : Nat} {A0 : Option Addr} {A : Option Addr} {xs : List α} {ok : Nat → Prop}
    (hx : a.eval x = .slice A m c2) (hA : A = if c = k then A0 else A0.map (·.add (k * d.sz))) (hm : m = n - k)
    (HO : d.R e W base ok (.slice A0 n c) xs) (hk : k ≤ n) (HB : Below base w0 W) (hbase : base ≤ W.heap.size)
    (h : ∀ w1, d.R e w1 base ok (.slice A0 n c) (xs.take k ++ List.replicate (n - k) z0) → Below base w0 w1 → W.grownBy w1 (Value.slice A0 n c).ownBlock → wpList P ops Q rest (a.put o.dst (.tuple #[])) w1) : wpList P ops Q (o :: rest) a W := by
  obtain ⟨i0, hi0, hzz, _, _⟩ := info_parts hinfo
  have hv : ∀ w, (zeroValue e).run P w = .ok z w := by
    intro w
    simp [zeroValue, run_typeInfo, hi0, hzz]
  subst hm
  obtain ⟨w1, hr, h1, h2⟩ := R_clear_run (P := P) d base t o.type e z z0 ht hv hz hs0 h0 HO hk hA c2
  refine wpList_plain hgd fun K hK => ?_
  unfold Oper.wp execOp
  simp only [ho, resolve, invoke, builtin, Sem.run_bind, Sem.run_pure, Result.andThen_ok, List.map_toArray, List.map_cons, List.map_nil, hx, hr]
  exact hK _ _ (h w1 h1 (HB.grown h2 hbase (fun k hk => R_base HO _ hk)) h2)
end
/-- Function values that are known: by their numbers. -/
def fn : Kd Int := scalar (fun i : Int => Value.func (.func i.toNat) #[] #[]) (fun _ => rfl)
theorem at_fn {w : World} {A : Option Addr} {n : Nat} {xs : List Int} (h : Kd.fn.C w A n xs) (i : Int) (h0 : 0 ≤ i) (h1 : i < n) : ∃ ad, A = some ad ∧ w.cell? (ad.add i.toNat) = some (.func (.func (rd xs i).toNat) #[] #[]) :=
  ReadsOf.at_ (reads_of_C (enc := fun i : Int => Value.func (.func i.toNat) #[] #[]) (d := (0 : Int)) (h1 := fun _ => rfl) h) i h0 h1
end Kd
end Go.Proofs.YtplcdbhklepkgaaDoorW.PrintWords
