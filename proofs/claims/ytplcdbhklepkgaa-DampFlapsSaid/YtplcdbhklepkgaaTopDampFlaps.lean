/- DampFlaps: for every plan and every waits the call returns true. No condition. -/
import Derived.Test.YtplcdbhklepkgaaPDampFlapsx
import Derived.Test.YtplcdbhklepkgaaDampCoreDampFlaps
namespace Go.Proofs.Ytplcdbhklepkgaa.TopDampFlaps
open Go.RowKit Go.Proofs.YtplcdbhklepkgaaW.PrintWords Go.Proofs.YtplcdbhklepkgaaW.PrintLast Go.Proofs.YtplcdbhklepkgaaW.PrintMore Go.Proofs.Ytplcdbhklepkgaa.PDampFlaps Go.Proofs.Ytplcdbhklepkgaa.Num Go.Proofs.Ytplcdbhklepkgaa.DampCoreDampFlaps
set_option linter.unusedVariables false

theorem flap_f {H F Ho R M : Int} (h : Plan H F Ho R M) (k : Nat) (p at_ now : Int) (b : Bool) (hp : 0 ≤ p) (hp2 : p ≤ M) (ha : 0 ≤ at_) (hn : at_ ≤ now) (hn2 : now ≤ 1000000000) :
    damp_Flap.f (k + 1) H F Ho R M p at_ b now = some (mn M (D H p (now - at_) + F), now, (b && decide (R ≤ D H p (now - at_))) || decide (Ho ≤ mn M (D H p (now - at_) + F)), 0) := by
  unfold damp_Flap.f
  rw [look_f h k p at_ now b hp hp2 ha hn hn2]
  have d0 := D_nonneg H p (now - at_)
  have d1 := D_le H p (now - at_) hp
  have m2 := h.m2
  have f1 := h.f1
  have f2 := h.f2
  simp only [Option.bind_some, if_true]
  rw [wrap64_id (x := D H p (now - at_) + F) (by omega) (by omega)]
  cases hb : (b && decide (R ≤ D H p (now - at_))) <;> simp

theorem loop {H F Ho R M : Int} (h : Plan H F Ho R M) (l : List Int) (hl : l.length ≤ 6) : ∀ (d k : Nat) (i : Nat) (now p at_ : Int) (b : Bool), l.length = i + d → d + 1 < k → 0 ≤ at_ → at_ ≤ now → now ≤ 255 * i → 0 ≤ p → p ≤ M →
    patchbaykeep2_DampFlaps.l0 k now l (l.length : Int) (i : Int) H F Ho R M p at_ b = some true := by
  intro d
  induction d with
  | zero =>
    intro k i now p at_ b hi hk _ _ _ _ _
    obtain ⟨k, rfl⟩ : ∃ m, k = m + 1 := ⟨k - 1, by omega⟩
    simp only [patchbaykeep2_DampFlaps.l0]
    rw [if_neg (by omega)]
  | succ d ih =>
    intro k i now p at_ b hi hk ha hn hn2 hp hp2
    obtain ⟨k, rfl⟩ : ∃ m, k = m + 1 := ⟨k - 1, by omega⟩
    simp only [patchbaykeep2_DampFlaps.l0]
    rw [if_pos (by omega), if_pos (by omega), if_pos (by omega)]
    have x1 : 0 ≤ Go.bits .and .i64 (rd l (i : Int)) 255 ∧ Go.bits .and .i64 (rd l (i : Int)) 255 ≤ 255 := and_rng _ 255 (by omega)
    generalize Go.bits .and .i64 (rd l (i : Int)) 255 = x at *
    rw [wrap64_id (x := now + x) (by omega) (by omega), wrap64_id (x := (i : Int) + 1) (by omega) (by omega)]
    obtain ⟨k, rfl⟩ : ∃ m, k = m + 1 := ⟨k - 1, by omega⟩
    rw [look_f h k p at_ (now + x) b hp hp2 ha (by omega) (by omega), flap_f h k p at_ (now + x) b hp hp2 ha (by omega) (by omega)]
    have d0 := D_nonneg H p (now + x - at_)
    have d1 := D_le H p (now + x - at_) hp
    have m1 := h.m1
    have m2 := h.m2
    have f1 := h.f1
    have f2 := h.f2
    simp only [Option.bind_some, if_true]
    generalize D H p (now + x - at_) = y at *
    rw [wrap64_id (x := y + F) (by omega) (by omega)]
    have e1 : y ≤ mn M (y + F) ∧ mn M (y + F) ≤ M ∧ 0 ≤ mn M (y + F) := by unfold mn; split <;> omega
    generalize mn M (y + F) = z at *
    rw [if_neg (by omega), if_neg (by omega)]
    have again := ih (k + 1) (i + 1) (now + x) z (now + x) ((b && decide (R ≤ y)) || decide (Ho ≤ z)) (by omega) (by omega) (by omega) (by omega) (by omega) (by omega) (by omega)
    have e2 : ((i + 1 : Nat) : Int) = (i : Int) + 1 := by omega
    rw [e2] at again
    cases hb : (b && decide (R ≤ y))
    · rw [hb] at again
      simp only [Bool.false_or] at again ⊢
      simp [again]
    · rw [hb] at again
      simp only [Bool.true_or] at again ⊢
      simp [again]

theorem some_f (l : List Int) (h : l.length ≤ 9223372036854775807) : patchbaykeep2_some_int.f l 6 = some (l.take 6) := by
  unfold patchbaykeep2_some_int.f
  have e : mn (l.length : Int) 6 = ((min l.length 6 : Nat) : Int) := by unfold mn; split <;> omega
  rw [e, if_pos (by omega), if_pos (by omega)]
  congr 1
  rw [Int.toNat_natCast, Nat.min_comm]
  exact (List.take_eq_take_min).symm

theorem pure (a0 a1 a2 a3 a4 : Int) (l : List Int) (hl : l.length ≤ 9223372036854775807) : patchbaykeep2_DampFlaps.f 9 a0 a1 a2 a3 a4 l = some true := by
  unfold patchbaykeep2_DampFlaps.f
  rw [lives_f 8]
  obtain ⟨H, F, Ho, R, M, hp, h⟩ := planned_f a0 a1 a2 a3 a4
  simp only [Option.bind_some, if_true]
  rw [hp, some_f l hl]
  simp only [Option.bind_some]
  have hl6 : (l.take 6).length ≤ 6 := by rw [List.length_take]; omega
  have r1 := h.r1
  have o1 := h.o1
  have m1 := h.m1
  exact loop h (l.take 6) hl6 (l.take 6).length 9 0 0 0 0 false (by omega) (by omega) (by omega) (by omega) (by omega) (by omega) (by omega)

theorem walk (a0_0 : Int) (a0_1 : Int) (a0_2 : Int) (a0_3 : Int) (a0_4 : Int) (A1 : Option Addr) (c1 : Nat) (l1 : List Int) (W : World)
    (w0_0 : (Lit.int .i64 a0_0).wf = true)
    (w0_1 : (Lit.int .i64 a0_1).wf = true)
    (w0_2 : (Lit.int .i64 a0_2).wf = true)
    (w0_3 : (Lit.int .i64 a0_3).wf = true)
    (w0_4 : (Lit.int .i64 a0_4).wf = true)
    (hr1 : Kd.C (Kd.int .i64) W A1 l1.length l1) (hc1 : l1.length ≤ c1) (hk1 : ∀ a, a ∈ l1 → (Lit.int .i64 a).wf = true) (hl1 : l1.length ≤ 9223372036854775807) :
    Calls Try.prog 4 #[.agg #[.int .i64 a0_0, .int .i64 a0_1, .int .i64 a0_2, .int .i64 a0_3, .int .i64 a0_4], .slice A1 l1.length c1] W fun e W' => e = .returned (.bool true) ∧ Below W.heap.size W W' :=
  patchbaykeep2_DampFlaps.calls 9 _ _ _ _ _ A1 c1 l1 true W hr1 hc1 (pure _ _ _ _ _ l1 hl1)
end Go.Proofs.Ytplcdbhklepkgaa.TopDampFlaps
