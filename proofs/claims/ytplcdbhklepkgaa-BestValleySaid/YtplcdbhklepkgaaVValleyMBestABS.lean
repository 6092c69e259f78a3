/- BestSettles, BestValley, the plain law: what the small functions answer. No condition. -/
import Derived.Test.YtplcdbhklepkgaaVValleyBSx9
import Derived.Test.YtplcdbhklepkgaaVValleyNum
import Derived.Test.YtplcdbhklepkgaaVValleyMBestM
namespace Go.Proofs.Ytplcdbhklepkgaa.BS
open Go.RowKit Go.Proofs.YtplcdbhklepkgaaW.PrintWords Go.Proofs.YtplcdbhklepkgaaW.PrintLast Go.Proofs.YtplcdbhklepkgaaW.PrintMore Go.Proofs.Ytplcdbhklepkgaa.Num Go.Proofs.Ytplcdbhklepkgaa.BestM
set_option linter.unusedVariables false
set_option linter.unusedSimpArgs false
theorem or_zero (b : Int) : cmp_Or_int.f 3 [0, b] = some b := by
  have h1 : wrap64 1 = 1 := wrap64_id (by omega) (by omega)
  have h2 : wrap64 2 = 2 := wrap64_id (by omega) (by omega)
  by_cases hb : b = 0
  · subst hb
    simp [cmp_Or_int.f, cmp_Or_int.l0, h1, h2, rd, show (0 : Int) + 1 = 1 from rfl, show (1 : Int) + 1 = 2 from rfl]
  · simp [cmp_Or_int.f, cmp_Or_int.l0, h1, h2, rd, hb, show (0 : Int) + 1 = 1 from rfl]
theorem or_k (k : Nat) (hk : 3 ≤ k) (b : Int) : cmp_Or_int.f k [0, b] = some b := at_rounds (g := fun k => cmp_Or_int.f k [0, b]) (fun k => cmp_Or_int.mono _ _) hk (or_zero b)
theorem usual_of {k : Int} (h0 : 0 ≤ k) (h1 : k ≤ 3) : best_usual.f k = some (400 - 100 * k) := by
  unfold best_usual.f
  rw [wrap64_id (x := 100 * k) (by omega) (by omega), wrap64_id (by omega) (by omega)]

theorem rdm (p s : List Int) (x : Int) : rd (p ++ x :: s) (p.length : Int) = x := by simp [rd]
theorem rd52 (p s : List S52) (x : S52) : rd_T52 (p ++ x :: s) (p.length : Int) = x := by simp [rd_T52]
theorem rd71 (p s : List S71) (x : S71) : rd_T71 (p ++ x :: s) (p.length : Int) = x := by simp [rd_T71]

theorem index_s (n : Nat) (hn : n < 4611686018427387904) (a : Int) : ∀ (s p : List Int) (k : Nat), (p ++ s).length = n → s.length < k →
    ∃ j, g20_.l0 k (p ++ s) a (n : Int) (p.length : Int) = some j ∧ (0 ≤ j ↔ a ∈ s) := by
  intro s
  induction s with
  | nil =>
    intro p k hl hk
    obtain ⟨k, rfl⟩ : ∃ m, k = m + 1 := ⟨k - 1, by simp at hk; omega⟩
    simp only [List.append_nil] at hl
    simp only [g20_.l0]
    rw [if_neg (by omega)]
    exact ⟨-1, rfl, by simp⟩
  | cons x s ih =>
    intro p k hl hk
    obtain ⟨k, rfl⟩ : ∃ m, k = m + 1 := ⟨k - 1, by simp at hk; omega⟩
    have hl2 : p.length + s.length + 1 = n := by simp at hl; omega
    simp only [g20_.l0]
    rw [if_pos (by omega), if_pos (by omega), if_pos (by rw [hl]; omega), rdm, wrap64_id (x := (p.length : Int) + 1) (by omega) (by omega)]
    by_cases hx : a = x
    · subst hx
      simp
    · rw [if_neg hx]
      have h2 := ih (p ++ [x]) k (by simp; omega) (by simp at hk; omega)
      simp only [List.append_assoc, List.singleton_append, List.length_append, List.length_singleton] at h2
      rw [show ((p.length : Int) + 1) = ((p.length + 1 : Nat) : Int) from by omega]
      obtain ⟨j, h3, h4⟩ := h2
      refine ⟨j, h3, ?_⟩
      rw [h4, List.mem_cons]
      exact ⟨Or.inr, fun h => h.resolve_left hx⟩

theorem contains_s (k : Nat) (l : List Int) (a : Int) (hn : l.length < 4611686018427387904) (hk : l.length < k) :
    g15_.f k l a = some (decide (a ∈ l)) := by
  obtain ⟨j, h1, h2⟩ := index_s l.length hn a l [] k (by simp) hk
  simp only [List.nil_append, List.length_nil] at h1
  unfold g15_.f g20_.f
  rw [show ((0 : Nat) : Int) = 0 from rfl] at h1
  rw [h1]
  simp only [Option.bind_some, Option.some.injEq, decide_eq_decide]
  rw [← h2]

theorem equal_l (n : Nat) (hn : n < 4611686018427387904) : ∀ (s t p q : List Int) (k : Nat), (p ++ s).length = n → p.length = q.length → s.length = t.length → s.length < k →
    g19_.l0 k (p ++ s) (q ++ t) (n : Int) (p.length : Int) = some (decide (s = t)) := by
  intro s
  induction s with
  | nil =>
    intro t p q k hl hp ht hk
    obtain ⟨k, rfl⟩ : ∃ m, k = m + 1 := ⟨k - 1, by simp at hk; omega⟩
    obtain rfl : t = [] := List.eq_nil_of_length_eq_zero (by simpa using ht.symm)
    simp only [List.append_nil] at hl
    simp only [g19_.l0]
    rw [if_neg (by omega)]
    simp
  | cons x s ih =>
    intro t p q k hl hp ht hk
    obtain ⟨k, rfl⟩ : ∃ m, k = m + 1 := ⟨k - 1, by simp at hk; omega⟩
    obtain ⟨y, t, rfl⟩ : ∃ y t', t = y :: t' := by
      cases t with
      | nil => simp at ht
      | cons y t => exact ⟨y, t, rfl⟩
    have hl2 : p.length + s.length + 1 = n := by simp at hl; omega
    have e : rd (q ++ y :: t) (p.length : Int) = y := by rw [hp]; exact rdm q t y
    simp only [g19_.l0]
    rw [if_pos (by omega), if_pos (by omega), if_pos (by rw [hl]; omega), if_pos (by simp; omega), rdm, e, wrap64_id (x := (p.length : Int) + 1) (by omega) (by omega)]
    by_cases hx : x = y
    · subst hx
      rw [if_pos rfl]
      have h2 := ih t (p ++ [x]) (q ++ [x]) k (by simp; omega) (by simp; omega) (by simpa using ht) (by simp at hk; omega)
      simp only [List.append_assoc, List.singleton_append, List.length_append, List.length_singleton] at h2
      rw [show ((p.length : Int) + 1) = ((p.length + 1 : Nat) : Int) from by omega, h2]
      simp
    · rw [if_neg hx]
      simp [hx]

theorem equal_s (k : Nat) (a b : List Int) (ha : a.length < 4611686018427387904) (hk : a.length < k) : g19_.f k a b = some (decide (a = b)) := by
  unfold g19_.f
  by_cases h : a.length = b.length
  · rw [if_pos (by omega)]
    have := equal_l a.length ha a b [] [] k (by simp) rfl h hk
    simpa using this
  · rw [if_neg (by omega)]
    have : a ≠ b := fun e => h (by rw [e])
    simp [this]

theorem concat_s (k : Nat) (hk : 8 ≤ k) (u : Int) (w : List Int) (hw : w.length < 100) : g14_.f k [[u], w] = some (u :: w) := by
  have h1 : wrap64 1 = 1 := wrap64_id (by omega) (by omega)
  have h2 : wrap64 2 = 2 := wrap64_id (by omega) (by omega)
  have h3 : wrap64 (1 + (w.length : Int)) = 1 + (w.length : Int) := wrap64_id (by omega) (by omega)
  have g : g35_.f (1 + (w.length : Int)) = some [] := by
    unfold g35_.f
    rw [if_neg (by omega), h3, if_pos (by omega), if_pos (by omega), if_pos (by simp; omega)]
    simp only [Option.bind_some, List.nil_append]
    rw [if_pos (by omega)]
    simp
  have e : g14_.f 8 [[u], w] = some (u :: w) := by
    have a1 : (0 : Int) + 1 = 1 := rfl
    have a2 : (1 : Int) + 1 = 2 := rfl
    have r0 : rd_L3 [[u], w] 0 = [u] := rfl
    have r1 : rd_L3 [[u], w] 1 = w := rfl
    simp only [g14_.f, g14_.l0, g14_.l1, List.length_cons, List.length_nil, r0, r1]
    rw [if_pos (by omega), if_pos (by omega), if_pos (by omega)]
    simp only [Int.natCast_zero, Int.zero_add, Int.natCast_add, Int.natCast_one, a1, a2, h1, h2, r1]
    rw [if_neg (by omega), if_pos (by omega), if_pos (by omega), if_pos (by omega), h3, if_neg (by omega), if_neg (by omega), g]
    simp only [Option.bind_some]
    rw [if_pos (by omega), if_pos (by omega), if_pos (by omega), if_pos (by simp), if_pos (by omega), if_pos (by omega), if_pos (by omega), if_pos (by simp; omega), if_neg (by omega)]
    simp
  exact at_rounds (g := fun k => g14_.f k [[u], w]) (fun k => g14_.mono _ _) hk e
end Go.Proofs.Ytplcdbhklepkgaa.BS
