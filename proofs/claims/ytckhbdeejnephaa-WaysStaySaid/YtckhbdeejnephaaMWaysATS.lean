/- WaysAnyOrder, the plain law: a sort by a total order answers alike for every order of its list. No condition. -/
import Derived.Test.YtckhbdeejnephaaTSx
import Derived.Test.YtckhbdeejnephaaNum
namespace Go.Proofs.Ytckhbdeejnephaa.TS
open Go.RowKit Go.Proofs.YtckhbdeejnephaaW.PrintWords Go.Proofs.YtckhbdeejnephaaW.PrintLast Go.Proofs.YtckhbdeejnephaaW.PrintMore Go.Proofs.Ytckhbdeejnephaa.Num
set_option linter.unusedVariables false
set_option linter.unusedSimpArgs false

deriving instance DecidableEq for S35

theorem rdp (p s : List S35) (x : S35) : rd_T35 (p ++ x :: s) (p.length : Int) = x := by
  simp [rd_T35]
theorem monoN {α : Type} {f : Nat → Option α} (h : ∀ k, LeO (f k) (f (k + 1))) {a : Nat} {r : α} (e : f a = some r) (b : Nat) : f (a + b) = some r := by
  induction b with
  | zero => exact e
  | succ b ih => exact h _ _ ih
theorem monoT {α : Type} {f : Nat → Option α} (h : ∀ k, LeO (f k) (f (k + 1))) {a b : Nat} {r : α} (e : f a = some r) (hb : a ≤ b) : f b = some r := by
  obtain ⟨c, rfl⟩ : ∃ c, b = a + c := ⟨b - a, by omega⟩
  exact monoN h e c
theorem S35eta (x : S35) : (⟨x.f0, x.f1⟩ : S35) = x := rfl

theorem index_s (n : Nat) (hn : n < 4611686018427387904) (a b : Int) : ∀ (s p : List S35) (k : Nat), (p ++ s).length = n → s.length < k →
    ∃ j, slices_Index_api_Next_api_Next.l0 k (p ++ s) (n : Int) (p.length : Int) a b = some j ∧ (0 ≤ j ↔ (⟨a, b⟩ : S35) ∈ s) := by
  intro s
  induction s with
  | nil =>
    intro p k hl hk
    obtain ⟨k, rfl⟩ : ∃ m, k = m + 1 := ⟨k - 1, by simp at hk; omega⟩
    simp only [List.append_nil] at hl
    simp only [slices_Index_api_Next_api_Next.l0]
    rw [if_neg (by omega)]
    exact ⟨-1, rfl, by simp⟩
  | cons x s ih =>
    intro p k hl hk
    obtain ⟨k, rfl⟩ : ∃ m, k = m + 1 := ⟨k - 1, by simp at hk; omega⟩
    have hl2 : p.length + s.length + 1 = n := by simp at hl; omega
    simp only [slices_Index_api_Next_api_Next.l0]
    rw [if_pos (by omega), if_pos (by omega), if_pos (by rw [hl]; omega), rdp, wrap64_id (x := (p.length : Int) + 1) (by omega) (by omega)]
    by_cases hx : x = ⟨a, b⟩
    · subst hx
      simp
    · have hc : (a == x.f0 && b == x.f1) = false := by
        cases hh : (a == x.f0 && b == x.f1) with
        | false => rfl
        | true =>
          exfalso; apply hx
          simp only [Bool.and_eq_true, beq_iff_eq] at hh
          rw [hh.1, hh.2]
      rw [hc, if_neg (by decide)]
      have h2 := ih (p ++ [x]) k (by simp; omega) (by simp at hk; omega)
      simp only [List.append_assoc, List.singleton_append, List.length_append, List.length_singleton] at h2
      rw [show ((p.length : Int) + 1) = ((p.length + 1 : Nat) : Int) from by omega]
      obtain ⟨j, h3, h4⟩ := h2
      refine ⟨j, h3, ?_⟩
      rw [h4]
      simp only [List.mem_cons]
      constructor
      · exact Or.inr
      · rintro (h | h)
        · exact absurd h.symm hx
        · exact h

theorem contains_s (k : Nat) (l : List S35) (a b : Int) (hn : l.length < 4611686018427387904) (hk : l.length < k) :
    slices_Contains_api_Next_api_Next.f k l a b = some (decide ((⟨a, b⟩ : S35) ∈ l)) := by
  obtain ⟨j, h1, h2⟩ := index_s l.length hn a b l [] k (by simp) hk
  simp only [List.nil_append, List.length_nil] at h1
  unfold slices_Contains_api_Next_api_Next.f slices_Index_api_Next_api_Next.f
  rw [show ((0 : Nat) : Int) = 0 from rfl] at h1
  rw [h1]
  simp only [Option.bind_some, Option.some.injEq, decide_eq_decide]
  rw [← h2]

theorem some_s (l : List S35) (n : Nat) : patchbaykeep2_some_api_Next.f l (n : Int) = some (l.take n) := by
  unfold patchbaykeep2_some_api_Next.f
  have h : 0 ≤ mn (l.length : Int) (n : Int) ∧ mn (l.length : Int) n ≤ l.length ∧ mn (l.length : Int) n ≤ n ∧ (mn (l.length : Int) n = l.length ∨ mn (l.length : Int) n = n) := by
    unfold mn; split <;> omega
  rw [if_pos h.1, if_pos h.2.1]
  obtain ⟨_, h1, h2, h3⟩ := h
  rcases h3 with h3 | h3
  · rw [h3]
    simp only [Int.toNat_natCast, List.take_length, Option.some.injEq]
    rw [List.take_of_length_le (by omega)]
  · rw [h3]; simp

def Good (l : List S35) : Prop := l.Nodup ∧ ∀ x, x ∈ l → 0 ≤ x.f0 ∧ x.f0 ≤ 7

theorem hops_s (n : Nat) (hn : n ≤ 5) : ∀ (s p acc : List S35) (k : Nat), (p ++ s).length = n → s.length + 20 < k → Good acc → acc.length ≤ p.length →
    ∃ out, patchbaykeep2_hops.l0 k acc (p ++ s) (n : Int) (p.length : Int) = some out ∧ Good out ∧ out.length ≤ n := by
  intro s
  induction s with
  | nil =>
    intro p acc k hl hk hg ha
    obtain ⟨k, rfl⟩ : ∃ m, k = m + 1 := ⟨k - 1, by omega⟩
    simp only [List.append_nil] at hl
    simp only [patchbaykeep2_hops.l0]
    rw [if_neg (by omega)]
    exact ⟨acc, rfl, hg, by omega⟩
  | cons x s ih =>
    intro p acc k hl hk hg ha
    obtain ⟨k, rfl⟩ : ∃ m, k = m + 1 := ⟨k - 1, by omega⟩
    have hl2 : p.length + s.length + 1 = n := by simp at hl; omega
    simp only [patchbaykeep2_hops.l0]
    rw [if_pos (by omega), if_pos (by omega), if_pos (by rw [hl]; omega), rdp, wrap64_id (x := (p.length : Int) + 1) (by omega) (by omega), contains_s k acc _ _ (by omega) (by omega)]
    have hm : 0 ≤ Go.bits .and .i64 x.f0 7 ∧ Go.bits .and .i64 x.f0 7 ≤ 7 := and_rng x.f0 7 (by omega)
    generalize Go.bits .and .i64 x.f0 7 = y at *
    simp only [Option.bind_some, decide_eq_true_eq]
    have hap : p ++ x :: s = (p ++ [x]) ++ s := by simp
    have hle : ((p.length : Int) + 1) = ((p ++ [x]).length : Int) := by simp
    rw [hap, hle]
    by_cases hx : (⟨y, x.f1⟩ : S35) ∈ acc
    · rw [if_pos hx]
      exact ih (p ++ [x]) acc k (by simp; omega) (by simp at hk; omega) hg (by simp; omega)
    · rw [if_neg hx, if_pos (by omega)]
      refine ih (p ++ [x]) (acc ++ [⟨y, x.f1⟩]) k (by simp; omega) (by simp at hk; omega) ⟨?_, ?_⟩ (by simp; omega)
      · rw [List.nodup_append]
        refine ⟨hg.1, by simp, ?_⟩
        intro a ha b hb
        simp only [List.mem_singleton] at hb
        subst hb
        intro e; subst e; exact hx ha
      · intro z hz
        simp only [List.mem_append, List.mem_singleton] at hz
        rcases hz with hz | rfl
        · exact hg.2 z hz
        · exact hm

theorem hops_f (k : Nat) (l : List S35) (hk : 40 ≤ k) : ∃ out, patchbaykeep2_hops.f k l 5 = some out ∧ Good out ∧ out.length ≤ 5 := by
  unfold patchbaykeep2_hops.f
  have h := some_s l 5
  rw [show ((5 : Nat) : Int) = 5 from rfl] at h
  rw [h]
  simp only [Option.bind_some]
  have h5 : (l.take 5).length ≤ 5 := by simp; omega
  obtain ⟨out, h1, h2, h3⟩ := hops_s (l.take 5).length h5 (l.take 5) [] [] k (by simp) (by omega) ⟨by simp, by simp⟩ (by simp)
  refine ⟨out, ?_, h2, by omega⟩
  simpa using h1

theorem ixw_s (n : Nat) (hn : n < 4611686018427387904) : ∀ (s p : List S35) (k : Nat), (p ++ s).length = n → s.length < k → (∀ x, x ∈ s → 0 ≤ x.f0 ∧ x.f0 ≤ 7) →
    slices_IndexFunc_api_Next_api_Next_at_ways_wrong_1.l0 k (p ++ s) (n : Int) (p.length : Int) = some (-1) := by
  intro s
  induction s with
  | nil =>
    intro p k hl hk hg
    obtain ⟨k, rfl⟩ : ∃ m, k = m + 1 := ⟨k - 1, by simp at hk; omega⟩
    simp only [List.append_nil] at hl
    simp only [slices_IndexFunc_api_Next_api_Next_at_ways_wrong_1.l0]
    rw [if_neg (by omega)]
  | cons x s ih =>
    intro p k hl hk hg
    obtain ⟨k, rfl⟩ : ∃ m, k = m + 1 := ⟨k - 1, by simp at hk; omega⟩
    have hl2 : p.length + s.length + 1 = n := by simp at hl; omega
    simp only [slices_IndexFunc_api_Next_api_Next_at_ways_wrong_1.l0]
    rw [if_pos (by omega), if_pos (by omega), if_pos (by rw [hl]; omega), rdp, wrap64_id (x := (p.length : Int) + 1) (by omega) (by omega)]
    have hx := hg x (by simp)
    unfold ways_wrong_1.f
    rw [if_neg (by omega)]
    have : decide (x.f0 ≥ 8) = false := by simp; omega
    rw [this]
    simp only [Option.bind_some, Bool.false_eq_true, if_false]
    have hap : p ++ x :: s = (p ++ [x]) ++ s := by simp
    have hle : ((p.length : Int) + 1) = ((p ++ [x]).length : Int) := by simp
    rw [hap, hle]
    exact ih (p ++ [x]) k (by simp; omega) (by simp at hk; omega) (fun z hz => hg z (by simp [hz]))

theorem wl_s (n : Nat) (hn : n ≤ 16) : ∀ (s p : List S35) (k : Nat), (p ++ s).length = n → s.length + 20 < k → (p ++ s).Nodup →
    ways_wrong.l0 k (p ++ s) (p ++ s) (n : Int) (p.length : Int) = some 0 := by
  intro s
  induction s with
  | nil =>
    intro p k hl hk hg
    obtain ⟨k, rfl⟩ : ∃ m, k = m + 1 := ⟨k - 1, by simp at hk; omega⟩
    simp only [List.append_nil] at hl
    simp only [ways_wrong.l0]
    rw [if_neg (by omega)]
  | cons x s ih =>
    intro p k hl hk hg
    obtain ⟨k, rfl⟩ : ∃ m, k = m + 1 := ⟨k - 1, by omega⟩
    have hl2 : p.length + s.length + 1 = n := by simp at hl; omega
    simp only [ways_wrong.l0]
    rw [if_pos (by omega), if_pos (by omega), if_pos (by rw [hl]; omega), if_pos (by rw [hl]; omega), rdp, wrap64_id (x := (p.length : Int) + 1) (by omega) (by omega)]
    simp only [Int.toNat_natCast, List.take_left]
    rw [contains_s k p _ _ (by omega) (by omega)]
    have hnot : ¬ (⟨x.f0, x.f1⟩ : S35) ∈ p := by
      rw [List.nodup_append] at hg
      intro hm
      exact hg.2.2 _ hm x (by simp) rfl
    simp only [Option.bind_some, decide_eq_true_eq]
    rw [if_neg hnot]
    have hap : p ++ x :: s = (p ++ [x]) ++ s := by simp
    have hle : ((p.length : Int) + 1) = ((p ++ [x]).length : Int) := by simp
    rw [hap, hle]
    exact ih (p ++ [x]) k (by simp; omega) (by simp at hk; omega) (by rw [← hap]; exact hg)

structure FlowOk (p s d : Int) : Prop where
  p0 : 0 ≤ p
  p1 : p ≤ 255
  s0 : 0 ≤ s
  s1 : s ≤ 65535
  d0 : 0 ≤ d
  d1 : d ≤ 65535

theorem wrong_s (k : Nat) (l : List S35) (hl : l.length ≤ 16) (hg : Good l) (hk : 40 ≤ k) (f0 f1 f2 f3 f4 : Int) (hf : FlowOk f2 f3 f4) : ways_wrong.f k l f0 f1 f2 f3 f4 = some 0 := by
  unfold ways_wrong.f slices_ContainsFunc_api_Next_api_Next_at_ways_wrong_1.f slices_IndexFunc_api_Next_api_Next_at_ways_wrong_1.f
  obtain ⟨a, b, c, d, e, g⟩ := hf
  rw [if_neg (by omega)]
  have h1 := ixw_s l.length (by omega) l [] k (by simp) (by omega) hg.2
  simp only [List.nil_append, List.length_nil] at h1
  rw [show ((0 : Nat) : Int) = 0 from rfl] at h1
  rw [h1]
  have h2 := wl_s l.length (by omega) l [] k (by simp) (by omega) hg.1
  simp only [List.nil_append, List.length_nil] at h2
  rw [show ((0 : Nat) : Int) = 0 from rfl] at h2
  have hd : decide ((-1 : Int) ≥ 0) = false := by decide
  simp only [Option.bind_some, hd, Bool.false_eq_true, if_false]
  have hmn : ¬ mn f3 f4 < 0 := by unfold mn; split <;> omega
  have hmx : ¬ mx f3 f4 > 65535 := by unfold mx; split <;> omega
  rw [if_neg (by omega), if_neg (by omega), if_neg hmn, if_neg hmx, h2]

theorem clone_s (l : List S35) (hl : l.length ≤ 100) : slices_Clone_api_Next_api_Next.f l = some l := by
  unfold slices_Clone_api_Next_api_Next.f
  simp only [Option.bind_some, List.length_nil, List.nil_append]
  rw [if_pos (by omega)]

/-! ### the order -/
theorem score_l (l : List Int) : ∀ (n : Nat) (x i : Int), i = 7 - n → n ≤ 7 → ∃ v, ways_score.l0 (n + 1) x l i = some v := by
  intro n
  induction n with
  | zero =>
    intro x i hi _
    simp only [ways_score.l0]
    rw [if_neg (by omega)]
    exact ⟨_, rfl⟩
  | succ n ih =>
    intro x i hi hn
    rw [ways_score.l0]
    rw [if_pos (by omega), if_pos (by omega), wrap64_id (by omega) (by omega)]
    exact ih _ _ (by omega) (by omega)

def sc (f0 f1 f2 f3 f4 : Int) (x : S35) : Int := (ways_score.f 8 x.f0 x.f1 f0 f1 f2 f3 f4).getD 0
theorem score_f (k : Nat) (hk : 8 ≤ k) (f0 f1 f2 f3 f4 : Int) (x : S35) : ways_score.f k x.f0 x.f1 f0 f1 f2 f3 f4 = some (sc f0 f1 f2 f3 f4 x) := by
  obtain ⟨v, hv⟩ := score_l ([IntKind.u64.wrap (f0), IntKind.u64.wrap (f1), IntKind.u64.wrap (f2), IntKind.u64.wrap (f3), IntKind.u64.wrap (f4), IntKind.u64.wrap (x.f0), IntKind.u64.wrap (x.f1)] : List Int) 7 14695981039346656037 0 (by omega) (by omega)
  have h8 : ways_score.f 8 x.f0 x.f1 f0 f1 f2 f3 f4 = some v := hv
  unfold sc
  rw [h8]
  exact monoT (f := fun k => ways_score.f k x.f0 x.f1 f0 f1 f2 f3 f4) (fun k => ways_score.mono _ _ _ _ _ _ _ _) h8 hk

def cm (a b : Int) : Int := if a < b then -1 else if a > b then 1 else 0
theorem cmp64 (a b : Int) : cmp_Compare_uint64.f a b = some (cm a b) := by
  simp only [cmp_Compare_uint64.f, cmp_isNaN_uint64.f, cm, bne_self_eq_false, Option.bind_some, Bool.false_eq_true, if_false]; split; · rfl
  split <;> rfl
theorem cmpi (a b : Int) : cmp_Compare_int.f a b = some (cm a b) := by
  simp only [cmp_Compare_int.f, cmp_isNaN_int.f, cm, bne_self_eq_false, Option.bind_some, Bool.false_eq_true, if_false]; split; · rfl
  split <;> rfl
theorem cmp32 (a b : Int) : cmp_Compare_uint32.f a b = some (cm a b) := by
  simp only [cmp_Compare_uint32.f, cmp_isNaN_uint32.f, cm, bne_self_eq_false, Option.bind_some, Bool.false_eq_true, if_false]; split; · rfl
  split <;> rfl
theorem or_s (k : Nat) (hk : 3 ≤ k) (a b : Int) : cmp_Or_int.f k [a, b] = some (if a = 0 then b else a) := by
  obtain ⟨k, rfl⟩ : ∃ m, k = m + 3 := ⟨k - 3, by omega⟩
  unfold cmp_Or_int.f
  simp only [cmp_Or_int.l0]
  by_cases ha : a = 0
  · subst ha
    by_cases hb : b = 0
    · subst hb; simp [rd, wrap64]
    · simp [rd, wrap64, hb]
  · simp [rd, wrap64, ha]
def cv (f0 f1 f2 f3 f4 : Int) (a b : S35) : Int :=
  if cm (sc f0 f1 f2 f3 f4 b) (sc f0 f1 f2 f3 f4 a) = 0 then (if cm a.f0 b.f0 = 0 then cm a.f1 b.f1 else cm a.f0 b.f0) else cm (sc f0 f1 f2 f3 f4 b) (sc f0 f1 f2 f3 f4 a)
theorem rank1_f (k : Nat) (hk : 8 ≤ k) (f0 f1 f2 f3 f4 : Int) (a b : S35) : ways_Rank_1.f k a.f0 a.f1 b.f0 b.f1 f0 f1 f2 f3 f4 = some (cv f0 f1 f2 f3 f4 a b) := by
  unfold ways_Rank_1.f
  rw [score_f k hk f0 f1 f2 f3 f4 b, score_f k hk f0 f1 f2 f3 f4 a]
  simp only [Option.bind_some, cmp64]
  unfold ways_compare.f
  rw [cmpi, cmp32]
  simp only [Option.bind_some]
  rw [or_s k (by omega)]
  simp only [Option.bind_some]
  rw [or_s k (by omega)]
  rfl
/-- not after: the order in which the sort leaves two neighbours -/
def le (f0 f1 f2 f3 f4 : Int) (a b : S35) : Prop := ¬ cv f0 f1 f2 f3 f4 b a < 0
theorem cv_iff (f0 f1 f2 f3 f4 : Int) (a b : S35) : cv f0 f1 f2 f3 f4 a b < 0 ↔ (sc f0 f1 f2 f3 f4 b < sc f0 f1 f2 f3 f4 a ∨ (sc f0 f1 f2 f3 f4 b = sc f0 f1 f2 f3 f4 a ∧ (a.f0 < b.f0 ∨ (a.f0 = b.f0 ∧ a.f1 < b.f1)))) := by
  unfold cv cm
  generalize sc f0 f1 f2 f3 f4 a = u at *
  generalize sc f0 f1 f2 f3 f4 b = v at *
  generalize a.f0 = a0 at *
  generalize b.f0 = b0 at *
  generalize a.f1 = a1 at *
  generalize b.f1 = b1 at *
  (repeat' split) <;> omega
theorem le_anti (f0 f1 f2 f3 f4 : Int) (a b : S35) (h : le f0 f1 f2 f3 f4 a b) (h2 : le f0 f1 f2 f3 f4 b a) : a = b := by
  unfold le at *
  rw [cv_iff] at h h2
  obtain ⟨a0, a1⟩ := a
  obtain ⟨b0, b1⟩ := b
  have : a0 = b0 ∧ a1 = b1 := by
    simp only at h h2
    omega
  rw [this.1, this.2]
theorem le_trans (f0 f1 f2 f3 f4 : Int) (a b c : S35) (h : le f0 f1 f2 f3 f4 a b) (h2 : le f0 f1 f2 f3 f4 b c) : le f0 f1 f2 f3 f4 a c := by
  unfold le at *
  rw [cv_iff] at h h2 ⊢
  omega
theorem le_of_lt (f0 f1 f2 f3 f4 : Int) (a b : S35) (h : cv f0 f1 f2 f3 f4 a b < 0) : le f0 f1 f2 f3 f4 a b := by
  unfold le at *
  rw [cv_iff] at h ⊢
  omega

end Go.Proofs.Ytckhbdeejnephaa.TS
