/- PathGrows, the plain law: the check of routes, and 'lean', which makes any route a good one (as MPathB). No condition. -/
import Derived.Test.YtplcdbhklepkgaaDoorVGroMGrowAPG
namespace Go.Proofs.YtplcdbhklepkgaaDoor.PG
open Go.RowKit Go.Proofs.YtplcdbhklepkgaaDoorW.PrintWords Go.Proofs.YtplcdbhklepkgaaDoorW.PrintLast Go.Proofs.YtplcdbhklepkgaaDoorW.PrintMore Go.Proofs.YtplcdbhklepkgaaDoor.Num Go.Proofs.YtplcdbhklepkgaaDoor.PathM
set_option linter.unusedVariables false
set_option linter.unusedSimpArgs false
theorem addr_s : addr_Check.f 167772160 8 = some 0 := by kernel_rfl

theorem beyond_l (n : Nat) (hn : n < 1000) : ∀ (s p : List Int) (k : Nat), (p ++ s).length = n → s.length < k → (∀ x, x ∈ s → 1 ≤ x ∧ x ≤ 65535) → g2_.l0 k (p ++ s) n p.length = some (-1) := by
  intro s
  induction s with
  | nil =>
    intro p k hl hk _
    obtain ⟨k, rfl⟩ : ∃ m, k = m + 1 := ⟨k - 1, by simp at hk; omega⟩
    simp only [List.append_nil] at hl
    rw [g2_.l0, if_neg (by omega)]
  | cons x s ih =>
    intro p k hl hk hr
    obtain ⟨k, rfl⟩ : ∃ m, k = m + 1 := ⟨k - 1, by simp at hk; omega⟩
    have hl2 : p.length + s.length + 1 = n := by simp at hl; omega
    have hx := hr x (by simp)
    rw [g2_.l0, if_pos (by omega), if_pos (by omega), if_pos (by rw [hl]; omega), rdm, wrap64_id (x := (p.length : Int) + 1) (by omega) (by omega)]
    unfold path_Check_1.f
    have e : decide (x > 65535) = false := by simp; omega
    rw [if_neg (by omega), e]
    simp only [Option.bind_some, Bool.false_eq_true, if_false]
    have next := ih (p ++ [x]) k (by simp; omega) (by simp at hk; omega) (fun z hz => hr z (by simp [hz]))
    simpa using next
theorem beyond_s (k : Nat) (l : List Int) (hl : l.length ≤ 40) (hk : 50 ≤ k) (hr : ∀ x, x ∈ l → 1 ≤ x ∧ x ≤ 65535) : g3_.f k l = some false := by
  unfold g3_.f g2_.f
  have := beyond_l l.length (by omega) l [] k (by simp) (by omega) hr
  simp only [List.nil_append, List.length_nil] at this
  rw [show ((0 : Nat) : Int) = 0 from rfl] at this
  rw [this]
  rfl

theorem tags_l (l : List Int) (hl : l.length ≤ 8) (hs : l.Pairwise (· < ·)) (a b c d : Int) (w : List Int) : ∀ (m i k : Nat), i + m = l.length + 1 → 1 ≤ i → m + 1 ≤ k → path_Check.l0 k (i : Int) a b w c d l = some 0 := by
  intro m
  induction m with
  | zero =>
    intro i k hi h1 hk
    obtain ⟨k, rfl⟩ : ∃ m, k = m + 1 := ⟨k - 1, by omega⟩
    rw [path_Check.l0, if_neg (by omega)]
  | succ m ih =>
    intro i k hi h1 hk
    obtain ⟨k, rfl⟩ : ∃ m, k = m + 1 := ⟨k - 1, by omega⟩
    by_cases c1 : (i : Int) < (l.length : Int)
    · have f3 : 0 ≤ (i : Int) - 1 := by omega
      have f4 : (i : Int) - 1 < (l.length : Int) := by omega
      have get : ∀ m : Nat, (hm : m < l.length) → rd l (m : Int) = l[m] := by
        intro m hm
        unfold rd
        rw [Int.toNat_natCast, List.getD_eq_getElem?_getD, List.getElem?_eq_getElem hm]
        rfl
      have g1 := get i (by omega)
      have g0 : rd l ((i : Int) - 1) = l[i - 1] := by
        have := get (i - 1) (by omega)
        rwa [show (((i - 1 : Nat)) : Int) = (i : Int) - 1 from by omega] at this
      have lt := (List.pairwise_iff_getElem.mp hs) (i - 1) i (by omega) (by omega) (by omega)
      have e2 : (i : Int) + 1 = ((i + 1 : Nat) : Int) := by omega
      have nge : ¬ rd l ((i : Int) - 1) ≥ rd l (i : Int) := by rw [g0, g1]; omega
      rw [path_Check.l0, if_pos c1, wrap64_id (x := (i : Int) - 1) (by omega) (by omega), if_pos f3, if_pos f4, if_pos (by omega), if_neg nge, wrap64_id (x := (i : Int) + 1) (by omega) (by omega), e2]
      exact ih (i + 1) k (by omega) (by omega) (by omega)
    · rw [path_Check.l0, if_neg c1]

/-- What Check lets pass. -/
structure GOk (a b : Int) (w : List Int) (p m : Int) (t : List Int) : Prop where
  d : addr_Check.f a b = some 0
  wl : w.length ≤ 32
  wr : ∀ x, x ∈ w → 1 ≤ x ∧ x ≤ 65535
  p0 : 0 ≤ p
  p1 : p ≤ 1023
  m0 : 0 ≤ m
  m1 : m ≤ 1023
  tl : t.length ≤ 8
  tr : ∀ x, x ∈ t → 1 ≤ x ∧ x ≤ 65535
  ts : t.Pairwise (· < ·)
theorem check_s (k : Nat) (hk : 200 ≤ k) {a b : Int} {w : List Int} {p m : Int} {t : List Int} (h : GOk a b w p m t) : path_Check.f k a b w p m t = some 0 := by
  obtain ⟨d, wl, wr, p0, p1, m0, m1, tl, tr, ts⟩ := h
  obtain ⟨k, rfl⟩ : ∃ m, k = m + 2 := ⟨k - 2, by omega⟩
  unfold path_Check.f
  rw [d]
  have e : decide ((t.length : Int) > 8) = false := by simp; omega
  have w1 : ¬ mn p m < 0 := by unfold mn; split <;> omega
  have w2 : ¬ mx p m > 1000000 := by unfold mx; split <;> omega
  simp only [Option.bind_some, if_true]
  rw [if_neg (by omega), e, path_Check.j0, if_neg (by decide), beyond_s (k + 1) w (by omega) (by omega) wr]
  simp only [Option.bind_some, Bool.false_eq_true, if_false]
  rw [beyond_s (k + 1) t (by omega) (by omega) tr]
  simp only [Option.bind_some]
  rw [path_Check.j1, if_neg (by decide), if_neg w1, if_neg w2]
  exact tags_l t tl ts _ _ _ _ _ t.length 1 k (by omega) (by omega) (by omega)
theorem some_i (l : List Int) (n : Nat) : g14_.f l (n : Int) = some (l.take n) := by
  unfold g14_.f
  have h : 0 ≤ mn (l.length : Int) (n : Int) ∧ mn (l.length : Int) n ≤ l.length ∧ mn (l.length : Int) n ≤ n ∧ (mn (l.length : Int) n = l.length ∨ mn (l.length : Int) n = n) := by
    unfold mn; split <;> omega
  rw [if_pos h.1, if_pos h.2.1]
  obtain ⟨_, h1, h2, h3⟩ := h
  rcases h3 with h3 | h3
  · rw [h3]
    simp only [Int.toNat_natCast, List.take_length, Option.some.injEq]
    rw [List.take_of_length_le (by omega)]
  · rw [h3]; simp
def In16 (l : List Int) : Prop := ∀ x, x ∈ l → 1 ≤ x ∧ x ≤ 16
theorem in16_snoc {l : List Int} (h : In16 l) (x : Int) : In16 (l ++ [wrap64 (1 + Go.bits .and .i64 x 15)]) := by
  intro z hz
  rcases List.mem_append.mp hz with hz | hz
  · exact h z hz
  · rw [List.mem_singleton] at hz
    obtain ⟨g0, g1⟩ := and_rng x 15 (by omega)
    rw [show ((15 : Nat) : Int) = 15 from rfl] at g0 g1
    rw [hz, wrap64_id (by omega) (by omega)]
    omega

theorem lean_1 (c : Nat) (hc : c ≤ 4) (a b : Int) (w : List Int) (p m : Int) : ∀ (s q acc : List Int), (q ++ s).length = c → acc.length ≤ q.length → In16 acc →
    ∃ k tags, g4_.l1 k (q ++ s) c q.length a b w p m acc = some (a, b, w, p, m, tags) ∧ tags.length ≤ 4 ∧ In16 tags ∧ tags.Pairwise (· < ·) := by
  intro s
  induction s with
  | nil =>
    intro q acc hl ha hi
    simp only [List.append_nil] at hl ⊢
    obtain ⟨k1, out, o1, o2, o3⟩ := sort_s acc (by omega)
    have hlen := o2.length_eq
    obtain ⟨r, r1, r2, r3, r4⟩ := compact_s (fun x => 1 ≤ x ∧ x ≤ 16) out (by omega) o3 (fun z hz => hi z (o2.mem_iff.mp hz)) (k1 + 200) (by omega)
    refine ⟨k1 + 200 + 1, r, ?_, by omega, r3, r2⟩
    rw [g4_.l1, if_neg (by omega)]
    have e1 := at_rounds (g := fun k => g13_.f k acc) (fun k => g13_.mono _ _) (k' := k1 + 200) (by omega) o1
    rw [e1, Option.bind_some, r1, Option.bind_some]
  | cons x s ih =>
    intro q acc hl ha hi
    have hl2 : q.length + s.length + 1 = c := by simp at hl; omega
    have hap : q ++ x :: s = (q ++ [x]) ++ s := by simp
    obtain ⟨k, tags, t1, t2⟩ := ih (q ++ [x]) (acc ++ [wrap64 (1 + Go.bits .and .i64 x 15)]) (by simp; omega) (by simp; omega) (in16_snoc hi x)
    refine ⟨k + 1, tags, ?_, t2⟩
    rw [g4_.l1, if_pos (by omega), if_pos (by omega), if_pos (by simp; omega), if_pos (by omega), rdm, wrap64_id (x := (q.length : Int) + 1) (by omega) (by omega), show (q.length : Int) + 1 = ((q ++ [x]).length : Int) from by simp, hap]
    exact t1

theorem lean_0 (c : Nat) (hc : c ≤ 6) (x0 x1 : Int) (x2 : List Int) (x3 x4 : Int) (x5 : List Int) (a b p m : Int) : ∀ (s q acc : List Int), (q ++ s).length = c → acc.length ≤ q.length → In16 acc →
    ∃ k way tags, g4_.l0 k (q ++ s) c q.length x0 x1 x2 x3 x4 x5 a b acc p m = some (a, b, way, p, m, tags) ∧ way.length ≤ 6 ∧ In16 way ∧ tags.length ≤ 4 ∧ In16 tags ∧ tags.Pairwise (· < ·) := by
  intro s
  induction s with
  | nil =>
    intro q acc hl ha hi
    simp only [List.append_nil] at hl ⊢
    have h4 : (x5.take 4).length ≤ 4 := by simp; omega
    obtain ⟨k, tags, t1, t2⟩ := lean_1 (x5.take 4).length h4 a b acc p m (x5.take 4) [] [] (by simp) (by simp) (by intro z hz; simp at hz)
    refine ⟨k + 1, acc, tags, ?_, by omega, hi, t2⟩
    have s4 := some_i x5 4
    rw [show ((4 : Nat) : Int) = 4 from rfl] at s4
    rw [g4_.l0, if_neg (by omega), s4, Option.bind_some]
    simpa using t1
  | cons x s ih =>
    intro q acc hl ha hi
    have hl2 : q.length + s.length + 1 = c := by simp at hl; omega
    have hap : q ++ x :: s = (q ++ [x]) ++ s := by simp
    obtain ⟨k, way, tags, t1, t2⟩ := ih (q ++ [x]) (acc ++ [wrap64 (1 + Go.bits .and .i64 x 15)]) (by simp; omega) (by simp; omega) (in16_snoc hi x)
    refine ⟨k + 1, way, tags, ?_, t2⟩
    rw [g4_.l0, if_pos (by omega), if_pos (by omega), if_pos (by simp; omega), if_pos (by omega), rdm, wrap64_id (x := (q.length : Int) + 1) (by omega) (by omega), show (q.length : Int) + 1 = ((q ++ [x]).length : Int) from by simp, hap]
    exact t1

theorem addr_any (a b : Int) : ∃ e, addr_Check.f a b = some e := by
  unfold addr_Check.f addr_Mask.f
  by_cases h1 : b < 0
  · rw [if_pos h1]; exact ⟨_, rfl⟩
  · rw [if_neg h1]
    by_cases h2 : b > 32
    · rw [if_pos h2]; exact ⟨_, rfl⟩
    · rw [if_neg h2, wrap64_id (x := 32 - b) (by omega) (by omega), if_pos (by omega)]
      simp only [Option.bind_some, if_true]
      split <;> exact ⟨_, rfl⟩

theorem and_1023 (x : Int) : 0 ≤ Go.bits .and .i64 x 1023 ∧ Go.bits .and .i64 x 1023 ≤ 1023 := and_rng x 1023 (by omega)
theorem lean_g (x0 x1 : Int) (l2 : List Int) (x3 x4 : Int) (l5 : List Int) : ∃ k a b way p m tags, g4_.f k x0 x1 l2 x3 x4 l5 = some (a, b, way, p, m, tags) ∧ way.length ≤ 6 ∧ GOk a b way p m tags := by
  have h6 : (l2.take 6).length ≤ 6 := by simp; omega
  have s6 := some_i l2 6
  rw [show ((6 : Nat) : Int) = 6 from rfl] at s6
  have j : ∀ a b p m, ∃ k way tags, g4_.j0 k x0 x1 l2 x3 x4 l5 a b p m = some (a, b, way, p, m, tags) ∧ way.length ≤ 6 ∧ In16 way ∧ tags.length ≤ 4 ∧ In16 tags ∧ tags.Pairwise (· < ·) := by
    intro a b p m
    obtain ⟨k, way, tags, t1, t2⟩ := lean_0 (l2.take 6).length h6 x0 x1 l2 x3 x4 l5 a b p m (l2.take 6) [] [] (by simp) (by simp) (by intro z hz; simp at hz)
    refine ⟨k + 1, way, tags, ?_, t2⟩
    rw [g4_.j0, s6, Option.bind_some]
    simpa using t1
  have ok : ∀ a b, addr_Check.f a b = some 0 → ∀ way tags : List Int, way.length ≤ 6 ∧ In16 way ∧ tags.length ≤ 4 ∧ In16 tags ∧ tags.Pairwise (· < ·) → GOk a b way (Go.bits .and .i64 x3 1023) (Go.bits .and .i64 x4 1023) tags := by
    intro a b hd way tags ⟨t1, t2, t3, t4, t5⟩
    exact ⟨hd, by omega, fun x hx => by have := t2 x hx; omega, (and_1023 x3).1, (and_1023 x3).2, (and_1023 x4).1, (and_1023 x4).2, by omega, fun x hx => by have := t4 x hx; omega, t5⟩
  obtain ⟨e, he⟩ := addr_any x0 x1
  unfold g4_.f
  rw [he]
  simp only [Option.bind_some]
  by_cases c : e = 0
  · obtain ⟨k, way, tags, t1, t2⟩ := j x0 x1 (Go.bits .and .i64 x3 1023) (Go.bits .and .i64 x4 1023)
    exact ⟨k, x0, x1, way, _, _, tags, by rw [if_pos c]; exact t1, t2.1, ok _ _ (by rw [he, c]) _ _ t2⟩
  · obtain ⟨k, way, tags, t1, t2⟩ := j 167772160 8 (Go.bits .and .i64 x3 1023) (Go.bits .and .i64 x4 1023)
    exact ⟨k, 167772160, 8, way, _, _, tags, by rw [if_neg c]; exact t1, t2.1, ok _ _ addr_s _ _ t2⟩
end Go.Proofs.YtplcdbhklepkgaaDoor.PG
