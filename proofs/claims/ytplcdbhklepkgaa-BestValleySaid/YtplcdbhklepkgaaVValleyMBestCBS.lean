/- BestSettles, BestValley, the plain law: a whole call of Round. No condition. -/
import Derived.Test.YtplcdbhklepkgaaVValleyMBestBBS
namespace Go.Proofs.Ytplcdbhklepkgaa.BS
open Go.RowKit Go.Proofs.YtplcdbhklepkgaaW.PrintWords Go.Proofs.YtplcdbhklepkgaaW.PrintLast Go.Proofs.YtplcdbhklepkgaaW.PrintMore Go.Proofs.Ytplcdbhklepkgaa.Num Go.Proofs.Ytplcdbhklepkgaa.BestM
set_option linter.unusedVariables false
set_option linter.unusedSimpArgs false

theorem V_drop {K : Int → Int → Int} : ∀ (p s : List Int), V K (p ++ s) → V K s
  | [], s, h => h
  | [a], [], h => trivial
  | [a], b :: s, h => h.2.2
  | a :: b :: p, s, h => V_drop (b :: p) s h.2.2
theorem V_link {K : Int → Int → Int} (p : List Int) (a b : Int) (s : List Int) (h : V K (p ++ a :: b :: s)) : K a b ≠ 0 := (V_drop p (a :: b :: s) h).1

theorem formed_1 {K : Int → Int → Int} {t : List S64} (T : Tab K t) {n : Nat} (hn : n ≤ 16) {o : Int} (v : Nat) (w : List Int) (hw : w = [] ∨ Rway K n o v w) (l : List S52) (L : List S71)
    (H : ∀ k, 100 ≤ k → best_formed.l0 (k + 40 * (n - (v + 1))) l n ((v + 1 : Nat) : Int) n L t = some true) (hv : v < n) :
    ∀ (s p : List Int), w = p ++ s → ∀ k, 2 * s.length + 101 ≤ k → best_formed.l1 (k + 40 * (n - (v + 1))) v l n v w w.length p.length n L t w = some true := by
  have wr : wrap64 ((v : Int) + 1) = ((v + 1 : Nat) : Int) := by rw [wrap64_id (by omega) (by omega)]; omega
  have len := T.len
  generalize 40 * (n - (v + 1)) = g at H ⊢
  intro s
  induction s with
  | nil =>
    intro p hp k hk
    obtain ⟨k, rfl⟩ : ∃ m, k = m + 1 := ⟨k - 1, by omega⟩
    rw [show k + 1 + g = (k + g) + 1 from by omega]
    rw [best_formed.l1, if_neg (by rw [hp]; simp), wr]
    exact H k (by simp at hk; omega)
  | cons x s ih =>
    intro p hp k hk
    have way : Rway K n o v w := hw.resolve_left (by rw [hp]; simp)
    have sh := short_of n w way.nd way.rng
    have lw : w.length = p.length + s.length + 1 := by rw [hp]; simp; omega
    obtain ⟨k, rfl⟩ : ∃ m, k = m + 2 := ⟨k - 2, by simp at hk; omega⟩
    have hx := way.rng x (by rw [hp]; simp)
    have rx : rd w (p.length : Int) = x := by rw [hp]; exact rdm p s x
    have tk : w.take ((p.length : Nat) : Int).toNat = p := by rw [hp]; simp
    have nx : x ∉ p := by
      intro h
      have nd := way.nd
      rw [hp, List.nodup_append] at nd
      exact nd.2.2 x h x (by simp) rfl
    have wr2 : wrap64 ((p.length : Int) + 1) = ((p ++ [x]).length : Int) := by rw [wrap64_id (by omega) (by omega)]; simp
    have next := ih (p ++ [x]) (by rw [hp]; simp) k (by simp at hk; omega)
    have go : best_formed.l1 (k + g + 2) v l n v w w.length p.length n L t w = best_formed.j2 (k + g + 1) v p.length x l n v w w.length p.length false n L t w := by
      rw [best_formed.l1, if_pos (by omega), if_pos (by omega), if_pos (by omega), rx, if_neg (by omega), if_neg (by omega), tk, contains_s (k + g + 1) p x (by omega) (by omega)]
      simp only [nx, decide_false, Option.bind_some]
      cases p with
      | nil =>
        have e : x = v := by
          have h := way.head
          rw [hp] at h
          simpa using h
        rw [if_pos (by simp), if_pos e, if_pos (by simp)]
      | cons a p => rw [if_neg (by simp; omega), if_pos (by omega)]
    rw [show k + 2 + g = k + g + 2 from by omega, go, best_formed.j2, if_neg (by decide), wr2]
    rcases List.eq_nil_or_concat p with rfl | ⟨q, a, rfl⟩
    · rw [if_neg (by simp)]
      exact next
    · simp only [List.concat_eq_append] at *
      have ha := way.rng a (by rw [hp]; simp)
      have lq : (q ++ [a]).length = q.length + 1 := by simp
      have ra : rd w (wrap64 (((q ++ [a]).length : Int) - 1)) = a := by
        rw [lq, wrap64_id (by omega) (by omega), hp, show (((q.length + 1 : Nat) : Int) - 1) = (q.length : Int) from by omega]
        have := rdm q (x :: s) a
        simpa using this
      have kk : K a x ≠ 0 := by
        have := way.val
        rw [hp] at this
        simp only [List.append_assoc, List.singleton_append] at this
        exact V_link q a x s this
      have w1 : wrap64 (((q ++ [a]).length : Int) - 1) = (q.length : Int) := by rw [lq, wrap64_id (by omega) (by omega)]; omega
      rw [if_pos (by omega), ra, w1, if_pos (by omega), if_pos (by omega), if_pos (by omega), if_pos (by omega), if_pos (by omega), if_pos (by omega), if_pos (by omega), T.kd a x (by omega) (by omega) (by omega) (by omega), if_neg kk]
      exact next

theorem formed_0 {K : Int → Int → Int} {t : List S64} (T : Tab K t) {n : Nat} (hn : n ≤ 16) {o : Int} {W : Nat → List Int} (I : Inv K n o W) (L : List S71) :
    ∀ d i k : Nat, i + d = n → 100 ≤ k → best_formed.l0 (k + 40 * d) (pack n W) n i n L t = some true := by
  intro d
  induction d with
  | zero =>
    intro i k hi hk
    obtain ⟨k, rfl⟩ : ∃ m, k = m + 1 := ⟨k - 1, by omega⟩
    rw [Nat.mul_zero, Nat.add_zero, best_formed.l0, if_neg (by omega)]
  | succ d ih =>
    intro i k hi hk
    have hin : i < n := by omega
    have lw : (W i).length ≤ n := by
      rcases I i hin with e | way
      · rw [e]; simp
      · exact short_of n (W i) way.nd way.rng
    have h := formed_1 T hn i (W i) (I i hin) (pack n W) L (fun k' hk' => by
      have e : 40 * (n - (i + 1)) = 40 * d := by omega
      rw [e]
      exact ih (i + 1) k' (by omega) hk') hin (W i) [] rfl (k + 39) (by omega)
    have e : k + 40 * (d + 1) = (k + 39 + 40 * (n - (i + 1))) + 1 := by omega
    rw [e, best_formed.l0, if_pos (by omega), if_pos (by omega), if_pos (by rw [pack_len]; omega), pack_at i hin]
    exact h

theorem formed_s (n : Nat) (hn : n ≤ 16) {o : Int} {W : Nat → List Int} (L : List S71) (h : Links n L) (I : Inv (rel L) n o W) (k : Nat) (hk : 1000 ≤ k) : best_formed.f k n L (pack n W) = some true := by
  obtain ⟨t, t1, T⟩ := ties_s n hn k (by omega) n L h
  unfold best_formed.f
  rw [pack_len, if_pos rfl, t1]
  simp only [Option.bind_some]
  rw [if_pos T.len]
  have := formed_0 T hn I L n 0 (k - 40 * n) (by omega) (by omega)
  rw [Nat.sub_add_cancel (by omega)] at this
  exact this

theorem check1_l (x : S71) (hx : x.f0 < x.f1) (n : Nat) (hn : n < 1000) : ∀ (s p : List S71) (k : Nat), (p ++ s).length = n → s.length < k → (∀ y, y ∈ s → y.f0 < y.f1 ∧ ¬ (y.f0 = x.f0 ∧ y.f1 = x.f1)) →
    g4_.l0 k (p ++ s) (n : Int) (p.length : Int) x.f0 x.f1 x.f2 x.f3 x.f4 = some (-1) := by
  intro s
  induction s with
  | nil =>
    intro p k hl hk _
    obtain ⟨k, rfl⟩ : ∃ m, k = m + 1 := ⟨k - 1, by simp at hk; omega⟩
    simp only [List.append_nil] at hl
    rw [g4_.l0, if_neg (by omega)]
  | cons y s ih =>
    intro p k hl hk hy
    obtain ⟨k, rfl⟩ : ∃ m, k = m + 1 := ⟨k - 1, by simp at hk; omega⟩
    have hl2 : p.length + s.length + 1 = n := by simp at hl; omega
    obtain ⟨y1, y2⟩ := hy y (by simp)
    have no : best_Check_1.f y.f0 y.f1 y.f2 y.f3 y.f4 x.f0 x.f1 x.f2 x.f3 x.f4 = some false := by
      unfold best_Check_1.f
      by_cases c1 : y.f0 = x.f0
      · rw [if_pos c1, if_neg (by omega), if_neg (by omega)]
      · rw [if_neg c1]
        by_cases c2 : y.f0 = x.f1
        · rw [if_pos c2, beq_eq_false_iff_ne.mpr (by omega)]
        · rw [if_neg c2]
    rw [g4_.l0, if_pos (by omega), if_pos (by omega), if_pos (by rw [hl]; omega), rd71, no, wrap64_id (x := (p.length : Int) + 1) (by omega) (by omega)]
    simp only [Option.bind_some, Bool.false_eq_true, if_false]
    have next := ih (p ++ [y]) k (by simp; omega) (by simp at hk; omega) (fun z hz => hy z (by simp [hz]))
    simpa using next

theorem check_l (n : Nat) (hn : n ≤ 16) (L : List S71) (h : Links n L) (hL : L.length ≤ 64) : ∀ (s p : List S71), L = p ++ s → ∀ k, 2 * s.length + 100 ≤ k →
    best_Check.l0 k L L.length p.length n L = some 0 := by
  intro s
  induction s with
  | nil =>
    intro p hp k hk
    obtain ⟨k, rfl⟩ : ∃ m, k = m + 1 := ⟨k - 1, by omega⟩
    rw [best_Check.l0, if_neg (by rw [hp]; simp)]
  | cons x s ih =>
    intro p hp k hk
    obtain ⟨k, rfl⟩ : ∃ m, k = m + 2 := ⟨k - 2, by omega⟩
    have lw : L.length = p.length + s.length + 1 := by rw [hp]; simp; omega
    have rx : rd_T71 L (p.length : Int) = x := by rw [hp]; exact rd71 p s x
    have tk : L.take ((p.length : Nat) : Int).toNat = p := by rw [hp]; simp
    obtain ⟨a0, ab, b1, k1, k2, p0, q0⟩ := h.ok x (by rw [hp]; simp)
    have d := h.apart
    rw [hp, List.pairwise_append] at d
    have no : g12_.f k p x.f0 x.f1 x.f2 x.f3 x.f4 = some false := by
      unfold g12_.f g4_.f
      have := check1_l x ab p.length (by omega) p [] k (by simp) (by omega) (fun y hy => ⟨(h.ok y (by rw [hp]; simp [hy])).ab, d.2.2 y hy x (by simp)⟩)
      simp only [List.nil_append, List.length_nil] at this
      rw [show ((0 : Nat) : Int) = 0 from rfl] at this
      rw [this]
      rfl
    have m1 : mn x.f0 x.f1 = x.f0 := by unfold mn; rw [if_neg (by omega)]
    have m2 : mx x.f0 x.f1 = x.f1 := by unfold mx; rw [if_pos (by omega)]
    rw [best_Check.l0, if_pos (by omega), if_pos (by omega), if_pos (by omega), rx, m1, m2, p0, q0, if_neg (by omega), if_neg (by omega), if_neg (by omega), if_neg (by omega), if_neg (by decide)]
    rw [show decide (mx 0 0 > 1000) = false from by decide, best_Check.j2, if_neg (by decide), if_neg (by omega), if_pos (by omega), if_pos (by omega), tk]
    rw [p0, q0] at no
    rw [no, wrap64_id (x := (p.length : Int) + 1) (by omega) (by omega)]
    simp only [Option.bind_some, Bool.false_eq_true, if_false]
    have next := ih (p ++ [x]) (by rw [hp]; simp) k (by simp at hk; omega)
    simpa using next

theorem check_s (n : Nat) (h1 : 1 ≤ n) (hn : n ≤ 16) (L : List S71) (h : Links n L) (hL : L.length ≤ 64) (k : Nat) (hk : 400 ≤ k) : best_Check.f k n L = some 0 := by
  obtain ⟨k, rfl⟩ : ∃ m, k = m + 1 := ⟨k - 1, by omega⟩
  unfold best_Check.f
  have e : decide ((n : Int) > 16) = false := by simp; omega
  rw [if_neg (by omega), e, best_Check.j0, if_neg (by decide), if_neg (by omega)]
  exact check_l n hn L h hL L [] rfl k (by omega)

theorem Round_s (n : Nat) (h1 : 1 ≤ n) (hn : n ≤ 16) {o : Int} (ho : 0 ≤ o ∧ o < n) {W : Nat → List Int} (L : List S71) (h : Links n L) (hL : L.length ≤ 64) (I : Inv (rel L) n o W) (k : Nat) (hk : 2000 ≤ k) :
    best_Round.f k n L o (pack n W) = some (pack n (roundW (rel L) o n W), 0) := by
  obtain ⟨k, rfl⟩ : ∃ m, k = m + 1 := ⟨k - 1, by omega⟩
  unfold best_Round.f
  have e : decide (o ≥ (n : Int)) = false := by simp; omega
  obtain ⟨t, t1, T⟩ := ties_s n hn k (by omega) n L h
  rw [check_s n h1 hn L h hL (k + 1) (by omega)]
  simp only [Option.bind_some, if_true]
  rw [if_neg (by omega), e, best_Round.j0, if_neg (by decide), formed_s n hn L h I k (by omega)]
  simp only [Option.bind_some, if_true]
  rw [t1]
  simp only [Option.bind_some]
  rw [if_pos T.len, round_s T hn (fit_of hn I) o k (by omega)]
  rfl
end Go.Proofs.Ytplcdbhklepkgaa.BS
