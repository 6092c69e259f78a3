/- BestOfTwo, the plain law. No condition. -/
import Derived.Test.YtplcdbhklepkgaaDoorVTwoMPathCBO
namespace Go.Proofs.YtplcdbhklepkgaaDoor.BO
open Go.RowKit Go.Proofs.YtplcdbhklepkgaaDoorW.PrintWords Go.Proofs.YtplcdbhklepkgaaDoorW.PrintLast Go.Proofs.YtplcdbhklepkgaaDoorW.PrintMore Go.Proofs.YtplcdbhklepkgaaDoor.Num Go.Proofs.YtplcdbhklepkgaaDoor.PathM
set_option linter.unusedVariables false
set_option linter.unusedSimpArgs false

/-! ### two routes -/
def pl (p q : Bool) : List Int := (if p = true then [0] else []) ++ (if q = true then [1] else [])
noncomputable def sp (c : S31 → S31 → Int) (a b : S31) (p q : Bool) : Bool := p && !(q && decide (c b a > 0))
theorem g0 (a b : S31) : g [a, b] 0 = a := rfl
theorem g1 (a b : S31) : g [a, b] 1 = b := rfl
theorem Kl_two (c : S31 → S31 → Int) (irr : ∀ x, ¬ c x x > 0) (a b : S31) (p q : Bool) : Kl c [a, b] (pl p q) = pl (sp c a b p q) (sp c b a q p) := by
  have i0 := irr a
  have i1 := irr b
  unfold Kl pl sp bet
  cases p <;> cases q <;> by_cases h1 : c b a > 0 <;> by_cases h2 : c a b > 0 <;> simp [g0, g1, h1, h2, i0, i1]
structure St (p q p' q' : Bool) : Prop where
  a : p' = q
  b : q' = p
theorem irr1 (x : S31) : ¬ c1 x x > 0 := by unfold c1; rw [cmp_pos]; omega
theorem irr2 (x : S31) : ¬ c2 x x > 0 := by unfold c2; rw [cmp_pos]; omega
theorem irr3 (x : S31) : ¬ c3 x x > 0 := by unfold c3; rw [if_pos rfl, cmp_pos]; omega
theorem irr4 (x : S31) : ¬ c4 x x > 0 := by unfold c4; rw [lx_self]; omega
theorem L4_two (a b : S31) : ∃ p q : Bool, L4 [a, b] (nums 2) = pl p q ∧ L4 [b, a] (nums 2) = pl q p := by
  have e : nums 2 = pl true true := rfl
  unfold L4
  rw [e]
  rw [Kl_two c1 irr1, Kl_two c1 irr1, Kl_two c2 irr2, Kl_two c2 irr2, Kl_two c3 irr3, Kl_two c3 irr3, Kl_two c4 irr4, Kl_two c4 irr4]
  exact ⟨_, _, rfl, rfl⟩

def val2 (p q : Bool) : Int := if p = true then (if q = true then 0 else 1) else -1
theorem Better_s (a b : S31) (ha : POk a) (hb : POk b) (p q : Bool) (h : L4 [a, b] (nums 2) = pl p q) (k : Nat) (hk : 1000 ≤ k) :
    best_Better.f k a.f0.f0 a.f0.f1 a.f1 a.f2 a.f3 a.f4 b.f0.f0 b.f0.f1 b.f1 b.f2 b.f3 b.f4 = some (val2 p q, 0) ∧ (p = true ∨ q = true) := by
  have ok : ∀ x, x ∈ [a, b] → POk x := by
    intro x hx
    simp only [List.mem_cons, List.not_mem_nil, or_false] at hx
    rcases hx with rfl | rfl
    · exact ha
    · exact hb
  have ne : p = true ∨ q = true := by
    have := V4_ne (l := [a, b]) (by simp)
    rw [← L4_val [a, b]] at this
    have e2 : nums [a, b].length = nums 2 := rfl
    rw [e2, h] at this
    cases p <;> cases q <;> simp [pl] at this ⊢
  refine ⟨?_, ne⟩
  unfold best_Better.f
  simp only [Option.bind_some]
  have eta : ([⟨⟨a.f0.f0, a.f0.f1⟩, a.f1, a.f2, a.f3, a.f4⟩, ⟨⟨b.f0.f0, b.f0.f1⟩, b.f1, b.f2, b.f3, b.f4⟩] : List S31) = [a, b] := rfl
  rw [eta, wrong_s k (by omega) [a, b] (by simp) ok]
  simp only [Option.bind_some, if_true]
  rw [left_s [a, b] ok (by simp) k (by omega), show nums [a, b].length = nums 2 from rfl, h]
  simp only [Option.bind_some]
  unfold val2
  cases p <;> cases q
  · simp at ne
  · simp [pl, rd]
  · simp [pl, rd]
  · simp [pl, rd]

/-! ### no better one -/
theorem none_l (L : List S31) (i : Int) (hi : Valid L i) (hb : ∀ p, p ∈ L → ¬ (p.f2 > (g L i).f2 ∨ p.f2 = (g L i).f2 ∧ p.f1.length < (g L i).f1.length)) (hL : L.length ≤ 50) : ∀ (s p : List S31) (k : Nat), L = p ++ s → s.length < k →
    g1_.l0 k L L.length p.length L i = some (-1) := by
  intro s
  induction s with
  | nil =>
    intro p k hp hk
    obtain ⟨k, rfl⟩ : ∃ m, k = m + 1 := ⟨k - 1, by omega⟩
    rw [g1_.l0, if_neg (by rw [hp]; simp)]
  | cons x s ih =>
    intro p k hq hk
    obtain ⟨k, rfl⟩ : ∃ m, k = m + 1 := ⟨k - 1, by omega⟩
    have lw : L.length = p.length + s.length + 1 := by rw [hq]; simp; omega
    have rx : rd_T31 L (p.length : Int) = x := by rw [hq]; exact rd31 p s x
    have no := hb x (by rw [hq]; simp)
    have e : g27_.f x.f0.f0 x.f0.f1 x.f1 x.f2 x.f3 x.f4 L i = some false := by
      unfold g27_.f
      unfold g at no
      rw [if_pos hi.1, if_pos hi.2, if_neg (fun h => no (Or.inl h))]
      by_cases c : x.f2 = (rd_T31 L i).f2
      · rw [if_pos c]
        have d : decide ((x.f1.length : Int) < ((rd_T31 L i).f1.length : Int)) = false := by
          rw [decide_eq_false_iff_not]
          intro h
          exact no (Or.inr ⟨c, by omega⟩)
        rw [d]
      · rw [if_neg c]
    rw [g1_.l0, if_pos (by omega), if_pos (by omega), if_pos (by omega), rx, e, wrap64_id (x := (p.length : Int) + 1) (by omega) (by omega)]
    simp only [Option.bind_some, Bool.false_eq_true, if_false]
    have next := ih (p ++ [x]) k (by rw [hq]; simp) (by simp at hk; omega)
    simpa using next

theorem chosen_best (L : List S31) (v : S31) (hv : v ∈ V4 L) : ∀ p, p ∈ L → ¬ (p.f2 > v.f2 ∨ p.f2 = v.f2 ∧ p.f1.length < v.f1.length) := by
  unfold V4 at hv
  have h3 := (Kv_mem.mp hv).1
  have h2 := (Kv_mem.mp h3).1
  obtain ⟨h1, b2⟩ := Kv_mem.mp h2
  obtain ⟨h0, b1⟩ := Kv_mem.mp h1
  have pref : ∀ q, q ∈ L → q.f2 ≤ v.f2 := by
    intro q hq
    have := b1 q hq
    unfold c1 at this
    rw [cmp_pos] at this
    omega
  intro p hp hh
  rcases hh with hh | ⟨hh, hl⟩
  · have := pref p hp; omega
  · have pk : p ∈ Kv c1 L := by
      refine Kv_mem.mpr ⟨hp, fun q hq => ?_⟩
      unfold c1
      rw [cmp_pos]
      have := pref q hq
      omega
    have := b2 p pk
    unfold c2 at this
    rw [cmp_pos] at this
    omega

theorem lives_200 : g15_.f 200 = some true := by kernel_rfl
theorem lives_k (k : Nat) (hk : 200 ≤ k) : g15_.f k = some true := at_rounds (g := fun k => g15_.f k) (fun k => g15_.mono _) hk lives_200

theorem law_two (l : List S31) : ∃ k, g8_.f k l = some true := by
  obtain ⟨k0, L, s1, hL, ok⟩ := same_s l
  have s2 := at_rounds (g := fun k => g11_.f k l 5) (fun k => g11_.mono _ _ _) (k' := k0 + 2000) (by omega) s1
  refine ⟨k0 + 2000, ?_⟩
  unfold g8_.f
  rw [lives_k _ (by omega)]
  simp only [Option.bind_some, if_true]
  rw [s2]
  simp only [Option.bind_some]
  by_cases h2 : (L.length : Int) < 2
  · rw [if_pos h2]
  · rw [if_neg h2]
    have hne : L ≠ [] := by intro z; rw [z] at h2; simp at h2
    obtain ⟨i, c1, c2, c3⟩ := Choose_s L ok (by omega) hne (k0 + 2000) (by omega)
    rw [c1]
    simp only [Option.bind_some]
    rw [if_pos (by omega), if_pos (by omega)]
    have v0 : Valid L 0 := ⟨by omega, by omega⟩
    have v1 : Valid L 1 := ⟨by omega, by omega⟩
    have m0 := ok _ (g_mem v0)
    have m1 := ok _ (g_mem v1)
    unfold g at m0 m1
    obtain ⟨p, q, e1, e2⟩ := L4_two (rd_T31 L 0) (rd_T31 L 1)
    obtain ⟨b1, ne⟩ := Better_s _ _ m0 m1 p q e1 (k0 + 2000) (by omega)
    obtain ⟨b2, _⟩ := Better_s _ _ m1 m0 q p e2 (k0 + 2000) (by omega)
    rw [b1]
    simp only [Option.bind_some]
    rw [b2]
    simp only [Option.bind_some, if_true]
    have neg : val2 p q = wrap64 (-val2 q p) := by
      cases p <;> cases q <;> simp [val2, wrap64] at ne ⊢
    rw [if_pos neg, if_neg (by have := c2.1; omega), if_neg (by have := c2.2; omega)]
    unfold g6_.f g1_.f
    have no := none_l L i c2 (chosen_best L _ c3) (by omega) L [] (k0 + 2000) rfl (by omega)
    rw [List.length_nil, show ((0 : Nat) : Int) = 0 from rfl] at no
    rw [no]
    rfl
end Go.Proofs.YtplcdbhklepkgaaDoor.BO
