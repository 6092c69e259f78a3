/- Routes, the plain law: the check of routes, and 'lean' and 'same', which make any routes good ones. No condition. -/
import Derived.Test.YtplcdbhklepkgaaDoorVAnyMPathABO
namespace Go.Proofs.YtplcdbhklepkgaaDoor.BO
open Go.RowKit Go.Proofs.YtplcdbhklepkgaaDoorW.PrintWords Go.Proofs.YtplcdbhklepkgaaDoorW.PrintLast Go.Proofs.YtplcdbhklepkgaaDoorW.PrintMore Go.Proofs.YtplcdbhklepkgaaDoor.Num Go.Proofs.YtplcdbhklepkgaaDoor.PathM
set_option linter.unusedVariables false
set_option linter.unusedSimpArgs false

structure POk (p : S31) : Prop where
  d0 : p.f0.f0 = 167772160
  d1 : p.f0.f1 = 8
  wl : p.f1.length ≤ 32
  wr : ∀ x, x ∈ p.f1 → 1 ≤ x ∧ x ≤ 65535
  p0 : 0 ≤ p.f2
  p1 : p.f2 ≤ 1000
  m0 : 0 ≤ p.f3
  m1 : p.f3 ≤ 1000
  tl : p.f4.length ≤ 8
  tr : ∀ x, x ∈ p.f4 → 1 ≤ x ∧ x ≤ 65535
  ts : p.f4.Pairwise (· < ·)

theorem addr_s : addr_Check.f 167772160 8 = some 0 := by kernel_rfl

theorem beyond_l (n : Nat) (hn : n < 1000) : ∀ (s p : List Int) (k : Nat), (p ++ s).length = n → s.length < k → (∀ x, x ∈ s → 1 ≤ x ∧ x ≤ 65535) → g5_.l0 k (p ++ s) n p.length = some (-1) := by
  intro s
  induction s with
  | nil =>
    intro p k hl hk _
    obtain ⟨k, rfl⟩ : ∃ m, k = m + 1 := ⟨k - 1, by simp at hk; omega⟩
    simp only [List.append_nil] at hl
    rw [g5_.l0, if_neg (by omega)]
  | cons x s ih =>
    intro p k hl hk hr
    obtain ⟨k, rfl⟩ : ∃ m, k = m + 1 := ⟨k - 1, by simp at hk; omega⟩
    have hl2 : p.length + s.length + 1 = n := by simp at hl; omega
    have hx := hr x (by simp)
    rw [g5_.l0, if_pos (by omega), if_pos (by omega), if_pos (by rw [hl]; omega), rdm, wrap64_id (x := (p.length : Int) + 1) (by omega) (by omega)]
    unfold path_Check_1.f
    have e : decide (x > 65535) = false := by simp; omega
    rw [if_neg (by omega), e]
    simp only [Option.bind_some, Bool.false_eq_true, if_false]
    have next := ih (p ++ [x]) k (by simp; omega) (by simp at hk; omega) (fun z hz => hr z (by simp [hz]))
    simpa using next
theorem beyond_s (k : Nat) (l : List Int) (hl : l.length ≤ 40) (hk : 50 ≤ k) (hr : ∀ x, x ∈ l → 1 ≤ x ∧ x ≤ 65535) : g6_.f k l = some false := by
  unfold g6_.f g5_.f
  have := beyond_l l.length (by omega) l [] k (by simp) (by omega) hr
  simp only [List.nil_append, List.length_nil] at this
  rw [show ((0 : Nat) : Int) = 0 from rfl] at this
  rw [this]
  rfl

theorem tags_l (l : List Int) (hl : l.length ≤ 8) (hs : l.Pairwise (· < ·)) (a b c d : Int) (w : List Int) : ∀ (m i k : Nat), i + m = l.length + 1 → 1 ≤ i → m + 1 ≤ k → path_Check.l0 k (i : Int) a b w c d l = some 0 := by
  intro m
  induction m with
  | zero =>
    intro i k hi h1 hk
    obtain ⟨k, rfl⟩ : ∃ m, k = m + 1 := ⟨k - 1, by omega⟩
    rw [path_Check.l0, if_neg (by omega)]
  | succ m ih =>
    intro i k hi h1 hk
    obtain ⟨k, rfl⟩ : ∃ m, k = m + 1 := ⟨k - 1, by omega⟩
    by_cases c1 : (i : Int) < (l.length : Int)
    · have f3 : 0 ≤ (i : Int) - 1 := by omega
      have f4 : (i : Int) - 1 < (l.length : Int) := by omega
      have get : ∀ m : Nat, (hm : m < l.length) → rd l (m : Int) = l[m] := by
        intro m hm
        unfold rd
        rw [Int.toNat_natCast, List.getD_eq_getElem?_getD, List.getElem?_eq_getElem hm]
        rfl
      have g1 := get i (by omega)
      have g0 : rd l ((i : Int) - 1) = l[i - 1] := by
        have := get (i - 1) (by omega)
        rwa [show (((i - 1 : Nat)) : Int) = (i : Int) - 1 from by omega] at this
      have lt := (List.pairwise_iff_getElem.mp hs) (i - 1) i (by omega) (by omega) (by omega)
      have e2 : (i : Int) + 1 = ((i + 1 : Nat) : Int) := by omega
      have nge : ¬ rd l ((i : Int) - 1) ≥ rd l (i : Int) := by rw [g0, g1]; omega
      rw [path_Check.l0, if_pos c1, wrap64_id (x := (i : Int) - 1) (by omega) (by omega), if_pos f3, if_pos f4, if_pos (by omega), if_neg nge, wrap64_id (x := (i : Int) + 1) (by omega) (by omega), e2]
      exact ih (i + 1) k (by omega) (by omega) (by omega)
    · rw [path_Check.l0, if_neg c1]

theorem check_s (k : Nat) (hk : 200 ≤ k) (p : S31) (h : POk p) : path_Check.f k p.f0.f0 p.f0.f1 p.f1 p.f2 p.f3 p.f4 = some 0 := by
  obtain ⟨d0, d1, wl, wr, p0, p1, m0, m1, tl, tr, ts⟩ := h
  obtain ⟨k, rfl⟩ : ∃ m, k = m + 2 := ⟨k - 2, by omega⟩
  unfold path_Check.f
  rw [d0, d1, addr_s]
  have e : decide ((p.f4.length : Int) > 8) = false := by simp; omega
  have w1 : ¬ mn p.f2 p.f3 < 0 := by unfold mn; split <;> omega
  have w2 : ¬ mx p.f2 p.f3 > 1000000 := by unfold mx; split <;> omega
  simp only [Option.bind_some, if_true]
  rw [if_neg (by omega), e, path_Check.j0, if_neg (by decide), beyond_s (k + 1) p.f1 (by omega) (by omega) wr]
  simp only [Option.bind_some, Bool.false_eq_true, if_false]
  rw [beyond_s (k + 1) p.f4 (by omega) (by omega) tr]
  simp only [Option.bind_some]
  rw [path_Check.j1, if_neg (by decide), if_neg w1, if_neg w2]
  exact tags_l p.f4 tl ts _ _ _ _ _ p.f4.length 1 k (by omega) (by omega) (by omega)

theorem wrong_0 (L : List S31) (hL : L.length ≤ 100) (hp : ∀ p, p ∈ L → POk p) (H : ∀ k, 200 ≤ k → best_wrong.l1 k L L L.length 0 = some 0) : ∀ (s p : List S31) (k : Nat), L = p ++ s → s.length + 300 ≤ k → best_wrong.l0 k L L L.length p.length = some 0 := by
  intro s
  induction s with
  | nil =>
    intro p k hp hk
    obtain ⟨k, rfl⟩ : ∃ m, k = m + 1 := ⟨k - 1, by omega⟩
    rw [best_wrong.l0, if_neg (by rw [hp]; simp)]
    exact H k (by simp at hk; omega)
  | cons x s ih =>
    intro p k hq hk
    obtain ⟨k, rfl⟩ : ∃ m, k = m + 1 := ⟨k - 1, by omega⟩
    have lw : L.length = p.length + s.length + 1 := by rw [hq]; simp; omega
    have rx : rd_T31 L (p.length : Int) = x := by rw [hq]; exact rd31 p s x
    rw [best_wrong.l0, if_pos (by omega), if_pos (by omega), if_pos (by omega), rx, check_s k (by omega) x (hp x (by rw [hq]; simp)), wrap64_id (x := (p.length : Int) + 1) (by omega) (by omega)]
    simp only [Option.bind_some, if_true]
    have next := ih (p ++ [x]) k (by rw [hq]; simp) (by simp at hk; omega)
    simpa using next
theorem wrong_1 (L : List S31) (hL : L.length ≤ 100) (hp : ∀ p, p ∈ L → POk p) : ∀ (s p : List S31) (k : Nat), L = p ++ s → s.length < k → best_wrong.l1 k L L L.length p.length = some 0 := by
  intro s
  induction s with
  | nil =>
    intro p k hp hk
    obtain ⟨k, rfl⟩ : ∃ m, k = m + 1 := ⟨k - 1, by omega⟩
    rw [best_wrong.l1, if_neg (by rw [hp]; simp)]
  | cons x s ih =>
    intro p k hq hk
    obtain ⟨k, rfl⟩ : ∃ m, k = m + 1 := ⟨k - 1, by omega⟩
    have lw : L.length = p.length + s.length + 1 := by rw [hq]; simp; omega
    have rx : rd_T31 L (p.length : Int) = x := by rw [hq]; exact rd31 p s x
    have h0 : rd_T31 L 0 ∈ L := by
      unfold rd_T31
      rw [List.getD_eq_getElem?_getD, List.getElem?_eq_getElem (by show (0 : Int).toNat < L.length; simp; omega)]
      exact List.getElem_mem _
    have a := hp x (by rw [hq]; simp)
    have b := hp _ h0
    rw [best_wrong.l1, if_pos (by omega), if_pos (by omega), if_pos (by omega), if_pos (by omega), rx, a.d0, a.d1, b.d0, b.d1, if_neg (by decide), wrap64_id (x := (p.length : Int) + 1) (by omega) (by omega)]
    have next := ih (p ++ [x]) k (by rw [hq]; simp) (by simp at hk; omega)
    simpa using next
theorem wrong_s (k : Nat) (hk : 500 ≤ k) (L : List S31) (hL : L.length ≤ 100) (hp : ∀ p, p ∈ L → POk p) : best_wrong.f k L = some 0 := by
  unfold best_wrong.f
  rw [if_neg (by omega)]
  exact wrong_0 L hL hp (fun k' hk' => wrong_1 L hL hp L [] k' rfl (by omega)) L [] k rfl (by omega)

/-! ### lean -/
theorem some_i (l : List Int) (n : Nat) : g28_.f l (n : Int) = some (l.take n) := by
  unfold g28_.f
  have h : 0 ≤ mn (l.length : Int) (n : Int) ∧ mn (l.length : Int) n ≤ l.length ∧ mn (l.length : Int) n ≤ n ∧ (mn (l.length : Int) n = l.length ∨ mn (l.length : Int) n = n) := by
    unfold mn; split <;> omega
  rw [if_pos h.1, if_pos h.2.1]
  obtain ⟨_, h1, h2, h3⟩ := h
  rcases h3 with h3 | h3
  · rw [h3]
    simp only [Int.toNat_natCast, List.take_length, Option.some.injEq]
    rw [List.take_of_length_le (by omega)]
  · rw [h3]; simp
theorem some_p (l : List S31) (n : Nat) : g26_.f l (n : Int) = some (l.take n) := by
  unfold g26_.f
  have h : 0 ≤ mn (l.length : Int) (n : Int) ∧ mn (l.length : Int) n ≤ l.length ∧ mn (l.length : Int) n ≤ n ∧ (mn (l.length : Int) n = l.length ∨ mn (l.length : Int) n = n) := by
    unfold mn; split <;> omega
  rw [if_pos h.1, if_pos h.2.1]
  obtain ⟨_, h1, h2, h3⟩ := h
  rcases h3 with h3 | h3
  · rw [h3]
    simp only [Int.toNat_natCast, List.take_length, Option.some.injEq]
    rw [List.take_of_length_le (by omega)]
  · rw [h3]; simp

def In16 (l : List Int) : Prop := ∀ x, x ∈ l → 1 ≤ x ∧ x ≤ 16
theorem in16_snoc {l : List Int} (h : In16 l) (x : Int) : In16 (l ++ [wrap64 (1 + Go.bits .and .i64 x 15)]) := by
  intro z hz
  rcases List.mem_append.mp hz with hz | hz
  · exact h z hz
  · rw [List.mem_singleton] at hz
    obtain ⟨g0, g1⟩ := and_rng x 15 (by omega)
    rw [show ((15 : Nat) : Int) = 15 from rfl] at g0 g1
    rw [hz, wrap64_id (by omega) (by omega)]
    omega

theorem lean_1 (c : Nat) (hc : c ≤ 4) (a b : Int) (w : List Int) (p m : Int) : ∀ (s q acc : List Int), (q ++ s).length = c → acc.length ≤ q.length → In16 acc →
    ∃ k tags, g8_.l1 k (q ++ s) c q.length a b w p m acc = some (a, b, w, p, m, tags) ∧ tags.length ≤ 4 ∧ In16 tags ∧ tags.Pairwise (· < ·) := by
  intro s
  induction s with
  | nil =>
    intro q acc hl ha hi
    simp only [List.append_nil] at hl ⊢
    obtain ⟨k1, out, o1, o2, o3⟩ := sort_s acc (by omega)
    have hlen := o2.length_eq
    obtain ⟨r, r1, r2, r3, r4⟩ := compact_s (fun x => 1 ≤ x ∧ x ≤ 16) out (by omega) o3 (fun z hz => hi z (o2.mem_iff.mp hz)) (k1 + 200) (by omega)
    refine ⟨k1 + 200 + 1, r, ?_, by omega, r3, r2⟩
    rw [g8_.l1, if_neg (by omega)]
    have e1 := at_rounds (g := fun k => g18_.f k acc) (fun k => g18_.mono _ _) (k' := k1 + 200) (by omega) o1
    rw [e1, Option.bind_some, r1, Option.bind_some]
  | cons x s ih =>
    intro q acc hl ha hi
    have hl2 : q.length + s.length + 1 = c := by simp at hl; omega
    have hap : q ++ x :: s = (q ++ [x]) ++ s := by simp
    obtain ⟨k, tags, t1, t2⟩ := ih (q ++ [x]) (acc ++ [wrap64 (1 + Go.bits .and .i64 x 15)]) (by simp; omega) (by simp; omega) (in16_snoc hi x)
    refine ⟨k + 1, tags, ?_, t2⟩
    rw [g8_.l1, if_pos (by omega), if_pos (by omega), if_pos (by simp; omega), if_pos (by omega), rdm, wrap64_id (x := (q.length : Int) + 1) (by omega) (by omega), show (q.length : Int) + 1 = ((q ++ [x]).length : Int) from by simp, hap]
    exact t1

theorem lean_0 (c : Nat) (hc : c ≤ 6) (x0 x1 : Int) (x2 : List Int) (x3 x4 : Int) (x5 : List Int) (a b p m : Int) : ∀ (s q acc : List Int), (q ++ s).length = c → acc.length ≤ q.length → In16 acc →
    ∃ k way tags, g8_.l0 k (q ++ s) c q.length x0 x1 x2 x3 x4 x5 a b acc p m = some (a, b, way, p, m, tags) ∧ way.length ≤ 6 ∧ In16 way ∧ tags.length ≤ 4 ∧ In16 tags ∧ tags.Pairwise (· < ·) := by
  intro s
  induction s with
  | nil =>
    intro q acc hl ha hi
    simp only [List.append_nil] at hl ⊢
    have h4 : (x5.take 4).length ≤ 4 := by simp; omega
    obtain ⟨k, tags, t1, t2⟩ := lean_1 (x5.take 4).length h4 a b acc p m (x5.take 4) [] [] (by simp) (by simp) (by intro z hz; simp at hz)
    refine ⟨k + 1, acc, tags, ?_, by omega, hi, t2⟩
    have s4 := some_i x5 4
    rw [show ((4 : Nat) : Int) = 4 from rfl] at s4
    rw [g8_.l0, if_neg (by omega), s4, Option.bind_some]
    simpa using t1
  | cons x s ih =>
    intro q acc hl ha hi
    have hl2 : q.length + s.length + 1 = c := by simp at hl; omega
    have hap : q ++ x :: s = (q ++ [x]) ++ s := by simp
    obtain ⟨k, way, tags, t1, t2⟩ := ih (q ++ [x]) (acc ++ [wrap64 (1 + Go.bits .and .i64 x 15)]) (by simp; omega) (by simp; omega) (in16_snoc hi x)
    refine ⟨k + 1, way, tags, ?_, t2⟩
    rw [g8_.l0, if_pos (by omega), if_pos (by omega), if_pos (by simp; omega), if_pos (by omega), rdm, wrap64_id (x := (q.length : Int) + 1) (by omega) (by omega), show (q.length : Int) + 1 = ((q ++ [x]).length : Int) from by simp, hap]
    exact t1

theorem addr_any (a b : Int) : ∃ e, addr_Check.f a b = some e := by
  unfold addr_Check.f addr_Mask.f
  by_cases h1 : b < 0
  · rw [if_pos h1]; exact ⟨_, rfl⟩
  · rw [if_neg h1]
    by_cases h2 : b > 32
    · rw [if_pos h2]; exact ⟨_, rfl⟩
    · rw [if_neg h2, wrap64_id (x := 32 - b) (by omega) (by omega), if_pos (by omega)]
      simp only [Option.bind_some, if_true]
      split <;> exact ⟨_, rfl⟩

theorem lean_s (x : S31) : ∃ k a b way p m tags, g8_.f k x.f0.f0 x.f0.f1 x.f1 x.f2 x.f3 x.f4 = some (a, b, way, p, m, tags) ∧ way.length ≤ 6 ∧ In16 way ∧ tags.length ≤ 4 ∧ In16 tags ∧ tags.Pairwise (· < ·) := by
  have h6 : (x.f1.take 6).length ≤ 6 := by simp; omega
  have s6 := some_i x.f1 6
  rw [show ((6 : Nat) : Int) = 6 from rfl] at s6
  have j : ∀ a b p m, ∃ k way tags, g8_.j0 k x.f0.f0 x.f0.f1 x.f1 x.f2 x.f3 x.f4 a b p m = some (a, b, way, p, m, tags) ∧ way.length ≤ 6 ∧ In16 way ∧ tags.length ≤ 4 ∧ In16 tags ∧ tags.Pairwise (· < ·) := by
    intro a b p m
    obtain ⟨k, way, tags, t1, t2⟩ := lean_0 (x.f1.take 6).length h6 x.f0.f0 x.f0.f1 x.f1 x.f2 x.f3 x.f4 a b p m (x.f1.take 6) [] [] (by simp) (by simp) (by intro z hz; simp at hz)
    refine ⟨k + 1, way, tags, ?_, t2⟩
    rw [g8_.j0, s6, Option.bind_some]
    simpa using t1
  obtain ⟨e, he⟩ := addr_any x.f0.f0 x.f0.f1
  unfold g8_.f
  rw [he]
  simp only [Option.bind_some]
  by_cases c : e = 0
  · obtain ⟨k, way, tags, t1, t2⟩ := j x.f0.f0 x.f0.f1 (Go.bits .and .i64 x.f2 1023) (Go.bits .and .i64 x.f3 1023)
    exact ⟨k, x.f0.f0, x.f0.f1, way, _, _, tags, by rw [if_pos c]; exact t1, t2⟩
  · obtain ⟨k, way, tags, t1, t2⟩ := j 167772160 8 (Go.bits .and .i64 x.f2 1023) (Go.bits .and .i64 x.f3 1023)
    exact ⟨k, 167772160, 8, way, _, _, tags, by rw [if_neg c]; exact t1, t2⟩

theorem same_l (c : Nat) (hc : c ≤ 5) : ∀ (s q acc : List S31), (q ++ s).length = c → acc.length = q.length → (∀ p, p ∈ acc → POk p) →
    ∃ k out, g9_.l0 k acc (q ++ s) c q.length = some out ∧ out.length = c ∧ (∀ p, p ∈ out → POk p) := by
  intro s
  induction s with
  | nil =>
    intro q acc hl ha hi
    simp only [List.append_nil] at hl ⊢
    refine ⟨1, acc, ?_, by omega, hi⟩
    rw [g9_.l0, if_neg (by omega)]
  | cons x s ih =>
    intro q acc hl ha hi
    have hl2 : q.length + s.length + 1 = c := by simp at hl; omega
    have hap : q ++ x :: s = (q ++ [x]) ++ s := by simp
    obtain ⟨k1, a, b, way, p, m, tags, e1, w1, w2, t1, t2, t3⟩ := lean_s x
    obtain ⟨g0, g1⟩ := and_rng p 1 (by omega)
    obtain ⟨g2, g3⟩ := and_rng m 3 (by omega)
    rw [show ((1 : Nat) : Int) = 1 from rfl] at g0 g1
    rw [show ((3 : Nat) : Int) = 3 from rfl] at g2 g3
    have ok : POk ⟨⟨167772160, 8⟩, way, Go.bits .and .i64 p 1, Go.bits .and .i64 m 3, tags⟩ := by
      refine ⟨rfl, rfl, ?_, ?_, g0, ?_, g2, ?_, ?_, ?_, t3⟩
      · show way.length ≤ 32; omega
      · intro z hz; have := w2 z hz; omega
      · show Go.bits .and .i64 p 1 ≤ 1000; omega
      · show Go.bits .and .i64 m 3 ≤ 1000; omega
      · show tags.length ≤ 8; omega
      · intro z hz; have := t2 z hz; omega
    obtain ⟨k2, out, o1, o2⟩ := ih (q ++ [x]) (acc ++ [⟨⟨167772160, 8⟩, way, Go.bits .and .i64 p 1, Go.bits .and .i64 m 3, tags⟩]) (by simp; omega) (by simp; omega) (by
      intro z hz
      rcases List.mem_append.mp hz with hz | hz
      · exact hi z hz
      · rw [List.mem_singleton] at hz; rw [hz]; exact ok)
    refine ⟨k1 + k2 + 1, out, ?_, o2⟩
    have e2 := at_rounds (g := fun k => g8_.f k x.f0.f0 x.f0.f1 x.f1 x.f2 x.f3 x.f4) (fun k => g8_.mono _ _ _ _ _ _ _) (k' := k1 + k2) (by omega) e1
    have e3 := at_rounds (g := fun k => g9_.l0 k (acc ++ [⟨⟨167772160, 8⟩, way, Go.bits .and .i64 p 1, Go.bits .and .i64 m 3, tags⟩]) (q ++ [x] ++ s) c ((q ++ [x]).length : Int)) (fun k => g9_.mono_l k _ _ _ _) (k' := k1 + k2) (by omega) o1
    rw [g9_.l0, if_pos (by omega), if_pos (by omega), if_pos (by simp; omega), rd31, e2, Option.bind_some, if_pos (by omega), wrap64_id (x := (q.length : Int) + 1) (by omega) (by omega), show (q.length : Int) + 1 = ((q ++ [x]).length : Int) from by simp, hap]
    exact e3

theorem same_s (l : List S31) : ∃ k out, g9_.f k l 5 = some out ∧ out.length ≤ 5 ∧ (∀ p, p ∈ out → POk p) := by
  have h5 : (l.take 5).length ≤ 5 := by simp; omega
  obtain ⟨k, out, o1, o2, o3⟩ := same_l (l.take 5).length h5 (l.take 5) [] [] (by simp) rfl (by simp)
  have s5 := some_p l 5
  rw [show ((5 : Nat) : Int) = 5 from rfl] at s5
  refine ⟨k, out, ?_, by omega, o3⟩
  unfold g9_.f
  rw [s5, Option.bind_some]
  simpa using o1
end Go.Proofs.YtplcdbhklepkgaaDoor.BO
