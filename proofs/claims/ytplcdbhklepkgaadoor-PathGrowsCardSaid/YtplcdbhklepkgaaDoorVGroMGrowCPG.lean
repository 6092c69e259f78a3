/- PathGrows, the plain law: what a domain in front does. No condition. -/
import Derived.Test.YtplcdbhklepkgaaDoorVGroMGrowBPG
namespace Go.Proofs.YtplcdbhklepkgaaDoor.PG
open Go.RowKit Go.Proofs.YtplcdbhklepkgaaDoorW.PrintWords Go.Proofs.YtplcdbhklepkgaaDoorW.PrintLast Go.Proofs.YtplcdbhklepkgaaDoorW.PrintMore Go.Proofs.YtplcdbhklepkgaaDoor.Num Go.Proofs.YtplcdbhklepkgaaDoor.PathM
set_option linter.unusedVariables false
set_option linter.unusedSimpArgs false

theorem concat_s (k : Nat) (hk : 8 ≤ k) (u w : List Int) (hu : u.length < 100) (hw : w.length < 100) : g7_.f k [u, w] = some (u ++ w) := by
  have h1 : wrap64 1 = 1 := wrap64_id (by omega) (by omega)
  have h2 : wrap64 2 = 2 := wrap64_id (by omega) (by omega)
  have h3 : wrap64 ((u.length : Int) + (w.length : Int)) = (u.length : Int) + (w.length : Int) := wrap64_id (by omega) (by omega)
  have h4 : wrap64 (u.length : Int) = (u.length : Int) := wrap64_id (by omega) (by omega)
  have g : g16_.f ((u.length : Int) + (w.length : Int)) = some [] := by
    unfold g16_.f
    by_cases c : (u.length : Int) + (w.length : Int) = 0
    · rw [c, if_neg (by omega), wrap64_id (x := 0) (by omega) (by omega), if_neg (by omega)]
    · rw [if_neg (by omega), wrap64_id (by omega) (by omega), if_pos (by omega), if_pos (by omega), if_pos (by simp; omega)]
      simp only [Option.bind_some, List.nil_append]
      rw [if_pos (by omega)]
      simp
  have e : g7_.f 8 [u, w] = some (u ++ w) := by
    have a1 : (0 : Int) + 1 = 1 := rfl
    have a2 : (1 : Int) + 1 = 2 := rfl
    have r0 : rd_L2 [u, w] 0 = u := rfl
    have r1 : rd_L2 [u, w] 1 = w := rfl
    simp only [g7_.f, g7_.l0, g7_.l1, List.length_cons, List.length_nil, r0, r1]
    rw [if_pos (by omega), if_pos (by omega), if_pos (by omega)]
    simp only [Int.natCast_zero, Int.zero_add, Int.natCast_add, Int.natCast_one, a1, a2, h1, h2, h4, r1]
    rw [if_neg (by omega), if_pos (by omega), if_pos (by omega), if_pos (by omega), h3, if_neg (by omega), if_neg (by omega), g]
    simp only [Option.bind_some]
    rw [if_pos (by omega), if_pos (by omega), if_pos (by omega), if_pos (by simp; omega), if_pos (by omega), if_pos (by omega), if_pos (by omega), if_pos (by simp; omega), if_neg (by omega)]
    simp
  exact at_rounds (g := fun k => g7_.f k [u, w]) (fun k => g7_.mono _ _) hk e

theorem clone_s (l : List Int) (hl : l.length ≤ 100) : g18_.f l = some l := by
  unfold g18_.f
  simp only [Option.bind_some, List.length_nil, List.nil_append]
  rw [if_pos (by omega)]

theorem equal_s (l : List Int) (hl : l.length ≤ 100) (k : Nat) (hk : 200 ≤ k) : g9_.f k l l = some true := by
  have h : ∀ (d i k : Nat), l.length = i + d → d < k → g9_.l0 k l l (l.length : Int) (i : Int) = some true := by
    intro d
    induction d with
    | zero =>
      intro i k hi hk
      obtain ⟨k, rfl⟩ : ∃ m, k = m + 1 := ⟨k - 1, by omega⟩
      rw [g9_.l0, if_neg (by omega)]
    | succ d ih =>
      intro i k hi hk
      obtain ⟨k, rfl⟩ : ∃ m, k = m + 1 := ⟨k - 1, by omega⟩
      rw [g9_.l0, if_pos (by omega), if_pos (by omega), if_pos (by omega), if_pos (by omega), if_pos rfl, wrap64_id (x := (i : Int) + 1) (by omega) (by omega)]
      have := ih (i + 1) k (by omega) (by omega)
      rwa [show ((i + 1 : Nat) : Int) = (i : Int) + 1 from by omega] at this
  unfold g9_.f
  rw [if_pos rfl]
  exact h l.length 0 k (by omega) (by omega)

theorem index_l (n : Nat) (hn : n < 1000) (x : Int) : ∀ (s p : List Int) (k : Nat), (p ++ s).length = n → s.length < k →
    ∃ j, g10_.l0 k (p ++ s) x n p.length = some j ∧ (0 ≤ j ↔ x ∈ s) := by
  intro s
  induction s with
  | nil =>
    intro p k hl hk
    obtain ⟨k, rfl⟩ : ∃ m, k = m + 1 := ⟨k - 1, by simp at hk; omega⟩
    simp only [List.append_nil] at hl
    rw [g10_.l0, if_neg (by omega)]
    exact ⟨-1, rfl, by simp⟩
  | cons y s ih =>
    intro p k hl hk
    obtain ⟨k, rfl⟩ : ∃ m, k = m + 1 := ⟨k - 1, by simp at hk; omega⟩
    have hl2 : p.length + s.length + 1 = n := by simp at hl; omega
    rw [g10_.l0, if_pos (by omega), if_pos (by omega), if_pos (by rw [hl]; omega), rdm, wrap64_id (x := (p.length : Int) + 1) (by omega) (by omega)]
    by_cases c : x = y
    · rw [if_pos c]
      exact ⟨_, rfl, ⟨fun _ => by simp [c], fun _ => by omega⟩⟩
    · rw [if_neg c]
      obtain ⟨j, j1, j2⟩ := ih (p ++ [y]) k (by simp; omega) (by simp at hk; omega)
      refine ⟨j, by simpa using j1, j2.trans ?_⟩
      simp [c]
theorem contains_s (l : List Int) (hl : l.length ≤ 100) (x : Int) (k : Nat) (hk : 200 ≤ k) : g12_.f k l x = some (decide (x ∈ l)) := by
  obtain ⟨j, j1, j2⟩ := index_l l.length (by omega) x l [] k (by simp) (by omega)
  simp only [List.nil_append, List.length_nil] at j1
  rw [show ((0 : Nat) : Int) = 0 from rfl] at j1
  unfold g12_.f g10_.f
  rw [j1]
  simp only [Option.bind_some, Option.some.injEq]
  rw [decide_eq_decide]
  exact j2

theorem wrong_g (k : Nat) (hk : 200 ≤ k) {a b : Int} {w : List Int} {p m : Int} {t : List Int} (h : GOk a b w p m t) (d : Int) (h0 : 1 ≤ d) (h1 : d ≤ 65535) : path_wrong.f k a b w p m t d = some 0 := by
  unfold path_wrong.f
  rw [check_s k hk h]
  simp only [Option.bind_some, if_true]
  rw [if_neg (by omega), if_neg (by omega)]
theorem prepend_s (k : Nat) (hk : 300 ≤ k) {a b : Int} {w : List Int} {p m : Int} {t : List Int} (h : GOk a b w p m t) (d : Int) (h0 : 1 ≤ d) (h1 : d ≤ 65535) (n : Int) (n0 : 0 ≤ n) (n1 : n ≤ 6) (hn : n + (w.length : Int) ≤ 32) :
    path_Prepend.f k a b w p m t d n = some (a, b, List.replicate n.toNat d ++ w, p, m, t, 0) := by
  unfold path_Prepend.f
  rw [if_pos n0, if_pos n1, if_pos hn, wrong_g k (by omega) h d h0 h1]
  simp only [Option.bind_some, if_true]
  have hr : g6_.f [d] n = some (List.replicate n.toNat d) := by
    unfold g6_.f
    rw [if_pos (show [d].length = 1 from rfl), if_pos n0, if_pos n1]
    rfl
  rw [hr]
  simp only [Option.bind_some]
  rw [concat_s k (by omega) _ _ (by simp; omega) (by have := h.wl; omega)]
  simp only [Option.bind_some]
  rw [clone_s t (by have := h.tl; omega)]
  rfl
theorem GOk.more {a b : Int} {w : List Int} {p m : Int} {t : List Int} (h : GOk a b w p m t) (d : Int) (h0 : 1 ≤ d) (h1 : d ≤ 65535) (n : Nat) (hn : n + w.length ≤ 32) : GOk a b (List.replicate n d ++ w) p m t :=
  { h with
    wl := by rw [List.length_append, List.length_replicate]; exact hn
    wr := fun x hx => by
      rcases List.mem_append.mp hx with hx | hx
      · rw [(List.mem_replicate.mp hx).2]; exact ⟨h0, h1⟩
      · exact h.wr x hx }
theorem loop_s (k : Nat) (hk : 300 ≤ k) {a b : Int} {w : List Int} {p m : Int} {t : List Int} (h : GOk a b w p m t) (d : Int) (h0 : 1 ≤ d) (h1 : d ≤ 65535) : path_Loop.f k a b w p m t d = some (decide (d ∈ w), 0) := by
  unfold path_Loop.f
  rw [wrong_g k (by omega) h d h0 h1]
  simp only [Option.bind_some, if_true]
  rw [contains_s w (by have := h.wl; omega) d k (by omega)]
  rfl
theorem same_s (k : Nat) (hk : 300 ≤ k) {a b : Int} {w : List Int} {p m : Int} {t : List Int} (h : GOk a b w p m t) : g11_.f k a b w p m t a b w p m t = some true := by
  unfold g11_.f
  rw [if_pos (by simp), if_pos rfl, if_pos rfl, equal_s w (by have := h.wl; omega) k (by omega)]
  simp only [Option.bind_some, if_true]
  rw [equal_s t (by have := h.tl; omega) k (by omega)]
  rfl

theorem law_grows (x0 x1 : Int) (l2 : List Int) (x3 x4 : Int) (l5 : List Int) (a1 a2 a3 : Int) : ∃ k, g1_.f k x0 x1 l2 x3 x4 l5 a1 a2 a3 = some true := by
  obtain ⟨k0, a, b, w, p, m, t, s1, s2, ok⟩ := lean_g x0 x1 l2 x3 x4 l5
  have e1 := at_rounds (g := fun k => g4_.f k x0 x1 l2 x3 x4 l5) (fun k => g4_.mono _ _ _ _ _ _ _) (k' := k0 + 1001) (by omega) s1
  refine ⟨k0 + 1001, ?_⟩
  have d1 : 0 ≤ Go.bits .and .i64 a1 255 ∧ Go.bits .and .i64 a1 255 ≤ 255 := and_rng a1 255 (by omega)
  have m1 : 0 ≤ Go.bits .and .i64 a2 3 ∧ Go.bits .and .i64 a2 3 ≤ 3 := and_rng a2 3 (by omega)
  have n1 : 0 ≤ Go.bits .and .i64 a3 3 ∧ Go.bits .and .i64 a3 3 ≤ 3 := and_rng a3 3 (by omega)
  unfold g1_.f g17_.f
  rw [Option.bind_some, if_pos rfl, e1, Option.bind_some]
  dsimp only
  rw [wrap64_id (x := 1 + Go.bits .and .i64 a1 255) (by omega) (by omega)]
  generalize hd : 1 + Go.bits .and .i64 a1 255 = d
  have d2 : 1 ≤ d ∧ d ≤ 65535 := by omega
  have m2 : 0 ≤ Go.bits .and .i64 a2 3 ∧ Go.bits .and .i64 a2 3 ≤ 3 := by omega
  have n2 : 0 ≤ Go.bits .and .i64 a3 3 ∧ Go.bits .and .i64 a3 3 ≤ 3 := by omega
  generalize Go.bits .and .i64 a2 3 = M at *
  generalize Go.bits .and .i64 a3 3 = N at *
  obtain ⟨M, rfl⟩ := Int.eq_ofNat_of_zero_le m2.1
  obtain ⟨N, rfl⟩ := Int.eq_ofNat_of_zero_le n2.1
  have okM := ok.more d d2.1 d2.2 M (by omega)
  have okMN := ok.more d d2.1 d2.2 (M + N) (by omega)
  have wMN : wrap64 ((M : Int) + (N : Int)) = ((M + N : Nat) : Int) := by rw [wrap64_id (by omega) (by omega)]; omega
  have app : List.replicate N d ++ (List.replicate M d ++ w) = List.replicate (M + N) d ++ w := by rw [← List.append_assoc, List.replicate_append_replicate, Nat.add_comm]
  rw [prepend_s (k0 + 1001) (by omega) ok d d2.1 d2.2 M m2.1 (by omega) (by omega)]
  rw [Option.bind_some]
  dsimp only
  rw [Int.toNat_natCast, prepend_s (k0 + 1001) (by omega) okM d d2.1 d2.2 N n2.1 (by omega) (by simp; omega)]
  rw [Option.bind_some]
  dsimp only
  rw [Int.toNat_natCast, wMN, prepend_s (k0 + 1001) (by omega) ok d d2.1 d2.2 ((M + N : Nat) : Int) (by omega) (by omega) (by omega)]
  rw [Option.bind_some]
  dsimp only
  rw [if_pos rfl, if_pos rfl, if_pos rfl, Int.toNat_natCast, app, same_s (k0 + 1001) (by omega) okMN, Option.bind_some, if_pos rfl]
  have hlen : (((List.replicate (M + N) d ++ w).length : Int) != wrap64 (wrap64 ((w.length : Int) + (M : Int)) + (N : Int))) = false := by
    rw [wrap64_id (x := (w.length : Int) + (M : Int)) (by omega) (by omega), wrap64_id (by omega) (by omega), bne_eq_false_iff_eq, List.length_append, List.length_replicate]
    omega
  rw [hlen]
  rw [show k0 + 1001 = (k0 + 1000) + 1 from rfl, g1_.j0, if_neg (by decide), loop_s (k0 + 1000) (by omega) ok d d2.1 d2.2]
  rw [Option.bind_some, loop_s (k0 + 1000) (by omega) okMN d d2.1 d2.2, Option.bind_some]
  dsimp only
  rw [if_pos rfl, if_pos rfl]
  by_cases c : d ∈ w
  · rw [if_pos (by simpa using c)]
    simp [c]
  · rw [if_neg (by simpa using c), wMN]
    congr 1
    rw [beq_iff_eq, decide_eq_decide, List.mem_append, List.mem_replicate]
    constructor
    · rintro (⟨h, _⟩ | h)
      · omega
      · exact absurd h c
    · intro h
      exact Or.inl ⟨by omega, rfl⟩
end Go.Proofs.YtplcdbhklepkgaaDoor.PG
