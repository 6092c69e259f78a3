/- BestSettles, the plain law. No condition. -/
import Derived.Test.YtplcdbhklepkgaaVSettlesMBestOBS
import Derived.Test.YtplcdbhklepkgaaVSettlesMBestGBS
import Derived.Test.YtplcdbhklepkgaaVSettlesBSx19
namespace Go.Proofs.Ytplcdbhklepkgaa.BS
open Go.RowKit Go.Proofs.YtplcdbhklepkgaaW.PrintWords Go.Proofs.YtplcdbhklepkgaaW.PrintLast Go.Proofs.YtplcdbhklepkgaaW.PrintMore Go.Proofs.Ytplcdbhklepkgaa.Num Go.Proofs.Ytplcdbhklepkgaa.BestM
set_option linter.unusedVariables false
set_option linter.unusedSimpArgs false

theorem eqf_l (n : Nat) (hn : n ≤ 16) (W X : Nat → List Int) (hW : ∀ v, v < n → (W v).length < 100) : ∀ d i k : Nat, i + d = n → d + 200 ≤ k →
    ∃ b, g1_.l0 k (pack n X) (pack n W) n i = some b ∧ (b = true ↔ ∀ v, i ≤ v → v < n → W v = X v) := by
  intro d
  induction d with
  | zero =>
    intro i k hi hk
    obtain ⟨k, rfl⟩ : ∃ m, k = m + 1 := ⟨k - 1, by omega⟩
    rw [g1_.l0, if_neg (by omega)]
    exact ⟨true, rfl, by simp; omega⟩
  | succ d ih =>
    intro i k hi hk
    obtain ⟨k, rfl⟩ : ∃ m, k = m + 1 := ⟨k - 1, by omega⟩
    have hin : i < n := by omega
    have sh := hW i hin
    have wr : wrap64 ((i : Int) + 1) = ((i + 1 : Nat) : Int) := by rw [wrap64_id (by omega) (by omega)]; omega
    rw [g1_.l0, if_pos (by omega), if_pos (by omega), if_pos (by rw [pack_len]; omega), if_pos (by rw [pack_len]; omega), pack_at i hin, pack_at i hin, wr]
    unfold g36_.f
    rw [equal_s k (W i) (X i) (by omega) (by omega)]
    simp only [Option.bind_some, decide_eq_true_eq]
    by_cases c : W i = X i
    · rw [if_pos c]
      obtain ⟨b, b1, b2⟩ := ih (i + 1) k (by omega) (by omega)
      refine ⟨b, b1, b2.trans ⟨fun h v h1 h2 => ?_, fun h v h1 h2 => h v (by omega) h2⟩⟩
      by_cases e : v = i
      · subst e; exact c
      · exact h v (by omega) h2
    · rw [if_neg c]
      exact ⟨false, rfl, by simp; exact ⟨i, Nat.le_refl _, hin, c⟩⟩

theorem eqf_s (n : Nat) (hn : n ≤ 16) (W X : Nat → List Int) (hW : ∀ v, v < n → (W v).length < 100) (k : Nat) (hk : 300 ≤ k) :
    ∃ b, g1_.f k (pack n W) (pack n X) = some b ∧ (b = true ↔ ∀ v, v < n → W v = X v) := by
  obtain ⟨b, b1, b2⟩ := eqf_l n hn W X hW n 0 k (by omega) (by omega)
  refine ⟨b, ?_, b2.trans ⟨fun h v h2 => h v (by omega) h2, fun h v _ h2 => h v h2⟩⟩
  unfold g1_.f
  rw [pack_len, pack_len, if_pos rfl]
  exact b1

theorem runs_short {K : Int → Int → Int} (N : Net K) {n : Nat} (hn : n ≤ 16) {o : Int} (ho : 0 ≤ o ∧ o < n) (j v : Nat) (hv : v < n) : (runs K o n j v).length < 100 := (fit_of hn (runs_inv N ho j)).short v hv

theorem settle_l {K : Int → Int → Int} (N : Net K) {t : List S64} (T : Tab K t) (n : Nat) (hn : n ≤ 6) {o : Int} (ho : 0 ≤ o ∧ o < n) : ∀ d i k : Nat, i + d = 2 * n → d + 400 ≤ k →
    ∃ j : Nat, best_Settle.l0 k o (pack n (runs K o n i)) 40 i t = some (pack n (runs K o n j), (j : Int), 0) ∧ ∀ v, v < n → runs K o n (j + 1) v = runs K o n j v := by
  intro d
  induction d with
  | zero =>
    intro i k hi hk
    obtain ⟨k, rfl⟩ : ∃ m, k = m + 1 := ⟨k - 1, by omega⟩
    obtain ⟨b, b1, b2⟩ := eqf_s n (by omega) (runs K o n (i + 1)) (runs K o n i) (fun v hv => runs_short N (by omega) ho (i + 1) v hv) k (by omega)
    have all : ∀ v, v < n → runs K o n (i + 1) v = runs K o n i v := fun v hv => settled N ho v i hv (by omega)
    have bt := b2.mpr all
    subst bt
    refine ⟨i, ?_, all⟩
    rw [best_Settle.l0, if_pos (by omega), round_s T (by omega) (fit_of (by omega) (runs_inv N ho i)) o k (by omega)]
    simp only [Option.bind_some]
    have e : roundW K o n (runs K o n i) = runs K o n (i + 1) := rfl
    rw [e, b1]
    rfl
  | succ d ih =>
    intro i k hi hk
    obtain ⟨k, rfl⟩ : ∃ m, k = m + 1 := ⟨k - 1, by omega⟩
    have wr : wrap64 ((i : Int) + 1) = ((i + 1 : Nat) : Int) := by rw [wrap64_id (by omega) (by omega)]; omega
    obtain ⟨b, b1, b2⟩ := eqf_s n (by omega) (runs K o n (i + 1)) (runs K o n i) (fun v hv => runs_short N (by omega) ho (i + 1) v hv) k (by omega)
    rw [best_Settle.l0, if_pos (by omega), round_s T (by omega) (fit_of (by omega) (runs_inv N ho i)) o k (by omega)]
    simp only [Option.bind_some]
    have e : roundW K o n (runs K o n i) = runs K o n (i + 1) := rfl
    rw [e, b1]
    simp only [Option.bind_some]
    by_cases c : b = true
    · rw [if_pos c]
      exact ⟨i, rfl, b2.mp c⟩
    · rw [if_neg c, wr]
      exact ih (i + 1) k (by omega) (by omega)

theorem Settle_s (n : Nat) (h1 : 1 ≤ n) (hn : n ≤ 6) {o : Int} (ho : 0 ≤ o ∧ o < n) (L : List S71) (h : Links n L) (hL : L.length ≤ 64) (k : Nat) (hk : 1000 ≤ k) :
    ∃ j : Nat, best_Settle.f k n L o 40 = some (pack n (runs (rel L) o n j), (j : Int), 0) ∧ ∀ v, v < n → runs (rel L) o n (j + 1) v = runs (rel L) o n j v := by
  obtain ⟨k, rfl⟩ : ∃ m, k = m + 1 := ⟨k - 1, by omega⟩
  obtain ⟨t, t1, T⟩ := ties_s n (by omega) k (by omega) n L h
  obtain ⟨j, j1, j2⟩ := settle_l (rel_net n L h) T n hn ho (2 * n) 0 k (by omega) (by omega)
  refine ⟨j, ?_, j2⟩
  unfold best_Settle.f
  have e : decide (o ≥ (n : Int)) = false := by simp; omega
  rw [check_s n h1 (by omega) L h hL (k + 1) (by omega)]
  simp only [Option.bind_some, if_true]
  rw [if_neg (by omega), e, best_Settle.j0, if_neg (by decide), if_neg (by omega), if_neg (by omega), t1]
  simp only [Option.bind_some]
  rw [if_pos T.len, if_pos (by omega), if_pos (by omega), Int.toNat_natCast]
  have p0 : List.replicate n z52 = pack n (runs (rel L) o n 0) := by
    refine (List.eq_replicate_iff.mpr ⟨pack_len n _, ?_⟩).symm
    intro b hb
    unfold pack at hb
    obtain ⟨u, _, rfl⟩ := List.mem_map.mp hb
    rfl
  rw [p0]
  exact j1

theorem eqg_l (n : Nat) (hn : n ≤ 16) (W : Nat → List Int) (hW : ∀ v, v < n → (W v).length < 100) : ∀ d i k : Nat, i + d = n → d + 200 ≤ k →
    g0_.l0 k (pack n W) (pack n W) n i = some true := by
  intro d
  induction d with
  | zero =>
    intro i k hi hk
    obtain ⟨k, rfl⟩ : ∃ m, k = m + 1 := ⟨k - 1, by omega⟩
    rw [g0_.l0, if_neg (by omega)]
  | succ d ih =>
    intro i k hi hk
    obtain ⟨k, rfl⟩ : ∃ m, k = m + 1 := ⟨k - 1, by omega⟩
    have hin : i < n := by omega
    have sh := hW i hin
    have wr : wrap64 ((i : Int) + 1) = ((i + 1 : Nat) : Int) := by rw [wrap64_id (by omega) (by omega)]; omega
    rw [g0_.l0, if_pos (by omega), if_pos (by omega), if_pos (by rw [pack_len]; omega), if_pos (by rw [pack_len]; omega), wr]
    unfold g23_.f
    rw [pack_at i hin, equal_s k (W i) (W i) (by omega) (by omega)]
    simp only [Option.bind_some, decide_true, if_true]
    exact ih (i + 1) k (by omega) (by omega)

theorem law_settles (a0 : Int) (l : List S71) (a1 : Int) : g13_.f 3001 a0 l a1 = some true := by
  unfold g13_.f
  rw [gadget_k 3001 (by omega)]
  simp only [gadgetIs, Option.bind_some]
  obtain ⟨gl, gm, g1⟩ := settle_k 3001 (by omega)
  rw [g1]
  simp only [Option.bind_some]
  rw [lives_k 3001 (by omega)]
  simp only [Option.bind_some, if_true]
  rw [show ((12 : Int) != 12) = false from by decide, g13_.j0, if_neg (by decide)]
  obtain ⟨n, L, o1, n2, n6, A, hL⟩ := ordered_s 3000 (by omega) a0 l
  rw [o1]
  simp only [Option.bind_some]
  have hu : IntKind.u64.wrap (n : Int) = (n : Int) := by rw [wrap_u64]; omega
  rw [if_neg (by rw [hu]; omega)]
  obtain ⟨o, eo, o0, o2⟩ := tmod_rng a1 n (by omega) (by omega)
  rw [eo]
  obtain ⟨j, j1, j2⟩ := Settle_s n (by omega) n6 ⟨o0, o2⟩ L A (by omega) 3000 (by omega)
  have N := rel_net n L A
  rw [j1]
  simp only [Option.bind_some]
  rw [Round_s n (by omega) (by omega) ⟨o0, o2⟩ L A (by omega) (runs_inv N ⟨o0, o2⟩ j) 3000 (by omega)]
  simp only [Option.bind_some, if_true]
  have e : pack n (roundW (rel L) o n (runs (rel L) o n j)) = pack n (runs (rel L) o n j) := pack_eq j2
  rw [e, pack_len, if_pos rfl]
  unfold g0_.f
  rw [pack_len, if_pos rfl]
  have := eqg_l n (by omega) (runs (rel L) o n j) (fun v hv => runs_short N (by omega) ⟨o0, o2⟩ j v hv) n 0 3000 (by omega) (by omega)
  rw [show ((0 : Nat) : Int) = 0 from rfl] at this
  rw [this]
  rfl
end Go.Proofs.Ytplcdbhklepkgaa.BS
