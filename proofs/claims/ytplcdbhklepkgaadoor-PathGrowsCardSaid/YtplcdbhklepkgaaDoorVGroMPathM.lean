/- Choosing among routes, in plain lists: what is left behind comparisons that are strict orders. No condition. -/
namespace Go.Proofs.YtplcdbhklepkgaaDoor.PathM
set_option linter.unusedVariables false

theorem min_exists {α : Type} (R : α → α → Prop) (irr : ∀ x, ¬ R x x) (tr : ∀ x y z, R x y → R y z → R x z) : ∀ l : List α, l ≠ [] → ∃ m, m ∈ l ∧ ∀ k, k ∈ l → ¬ R k m
  | [], h => absurd rfl h
  | [x], _ => ⟨x, by simp, fun k hk => by simp at hk; subst hk; exact irr k⟩
  | x :: y :: t, _ => by
    obtain ⟨m, h1, h2⟩ := min_exists R irr tr (y :: t) (by simp)
    by_cases c : R x m
    · refine ⟨x, by simp, fun k hk => ?_⟩
      rcases List.mem_cons.mp hk with rfl | hk
      · exact irr k
      · exact fun h => h2 k hk (tr k x m h c)
    · refine ⟨m, List.mem_cons_of_mem _ h1, fun k hk => ?_⟩
      rcases List.mem_cons.mp hk with rfl | hk
      · exact c
      · exact h2 k hk

/-- Those of a list that none of it is better than. -/
def Kv {α : Type} (c : α → α → Int) (l : List α) : List α := l.filter fun i => decide (∀ k, k ∈ l → ¬ c k i > 0)
theorem Kv_mem {α : Type} {c : α → α → Int} {l : List α} {i : α} : i ∈ Kv c l ↔ i ∈ l ∧ ∀ k, k ∈ l → ¬ c k i > 0 := by
  unfold Kv
  rw [List.mem_filter]
  simp
theorem Kv_ne {α : Type} {c : α → α → Int} (irr : ∀ x, ¬ c x x > 0) (tr : ∀ x y z, c x y > 0 → c y z > 0 → c x z > 0) {l : List α} (h : l ≠ []) : Kv c l ≠ [] := by
  obtain ⟨m, h1, h2⟩ := min_exists (fun a b => c a b > 0) irr tr l h
  exact List.ne_nil_of_mem (Kv_mem.mpr ⟨h1, h2⟩)
theorem Kv_perm {α : Type} (c : α → α → Int) {l m : List α} (h : l.Perm m) : (Kv c l).Perm (Kv c m) := by
  unfold Kv
  have e : (fun i => decide (∀ k, k ∈ l → ¬ c k i > 0)) = (fun i => decide (∀ k, k ∈ m → ¬ c k i > 0)) := by
    funext i
    simp only [decide_eq_decide]
    exact ⟨fun a k hk => a k (h.mem_iff.mpr hk), fun a k hk => a k (h.mem_iff.mp hk)⟩
  rw [e]
  exact h.filter _

/-- The order of words. -/
def lx : List Int → List Int → Int
  | [], [] => 0
  | [], _ :: _ => -1
  | _ :: _, [] => 1
  | x :: s, y :: t => if x < y then -1 else if x > y then 1 else lx s t
theorem lx_self : ∀ a : List Int, lx a a = 0
  | [] => rfl
  | x :: a => by unfold lx; rw [if_neg (by omega), if_neg (by omega)]; exact lx_self a
theorem lx_neg : ∀ a b : List Int, lx b a = - lx a b
  | [], [] => rfl
  | [], _ :: _ => rfl
  | _ :: _, [] => rfl
  | x :: a, y :: b => by
    unfold lx
    by_cases h : x < y
    · rw [if_neg (by omega), if_pos (by omega), if_pos h]; rfl
    · by_cases g : x > y
      · rw [if_pos (by omega), if_neg h, if_pos g]
      · rw [if_neg (by omega), if_neg (by omega), if_neg h, if_neg g]; exact lx_neg a b
theorem lx_trans : ∀ a b c : List Int, lx a b > 0 → lx b c > 0 → lx a c > 0
  | [], [], _, h, _ => absurd h (by decide)
  | [], _ :: _, _, h, _ => absurd h (show ¬ (-1 : Int) > 0 by decide)
  | _ :: _, [], [], _, h => absurd h (by decide)
  | _ :: _, [], _ :: _, _, h => absurd h (show ¬ (-1 : Int) > 0 by decide)
  | _ :: _, _ :: _, [], _, _ => (by decide : (1 : Int) > 0)
  | x :: a, y :: b, z :: c, h, g => by
    unfold lx at h g ⊢
    by_cases h1 : x < y
    · rw [if_pos h1] at h; omega
    · by_cases g1 : y < z
      · rw [if_pos g1] at g; omega
      · rw [if_neg h1] at h
        rw [if_neg g1] at g
        rw [if_neg (by omega)]
        by_cases e : x > z
        · rw [if_pos e]; omega
        · rw [if_neg (by omega)] at h g
          rw [if_neg e]
          exact lx_trans a b c h g
theorem lx_zero : ∀ a b : List Int, lx a b = 0 → a = b
  | [], [], _ => rfl
  | [], _ :: _, h => absurd h (show ¬ (-1 : Int) = 0 by decide)
  | _ :: _, [], h => absurd h (show ¬ (1 : Int) = 0 by decide)
  | x :: a, y :: b, h => by
    unfold lx at h
    by_cases h1 : x < y
    · rw [if_pos h1] at h; omega
    · by_cases h2 : x > y
      · rw [if_neg h1, if_pos h2] at h; omega
      · rw [if_neg h1, if_neg h2] at h
        rw [lx_zero a b h, show x = y from by omega]

def cmp (a b : Int) : Int := if a < b then -1 else if a > b then 1 else 0
theorem cmp_pos {a b : Int} : cmp a b > 0 ↔ a > b := by unfold cmp; (repeat' split) <;> omega
theorem cmp_neg (a b : Int) : cmp b a = - cmp a b := by unfold cmp; (repeat' split) <;> omega
end Go.Proofs.YtplcdbhklepkgaaDoor.PathM
