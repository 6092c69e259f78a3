/- Routes, the plain law: what 'keep' and 'left' leave. No condition. -/
import Derived.Test.YtplcdbhklepkgaaDoorVAnyMPathBBO
namespace Go.Proofs.YtplcdbhklepkgaaDoor.BO
open Go.RowKit Go.Proofs.YtplcdbhklepkgaaDoorW.PrintWords Go.Proofs.YtplcdbhklepkgaaDoorW.PrintLast Go.Proofs.YtplcdbhklepkgaaDoorW.PrintMore Go.Proofs.YtplcdbhklepkgaaDoor.Num Go.Proofs.YtplcdbhklepkgaaDoor.PathM
set_option linter.unusedVariables false
set_option linter.unusedSimpArgs false

def g (l : List S31) (i : Int) : S31 := rd_T31 l i
def Valid (l : List S31) (i : Int) : Prop := 0 ≤ i ∧ i < (l.length : Int)
theorem g_mem {l : List S31} {i : Int} (h : Valid l i) : g l i ∈ l := by
  unfold g rd_T31
  rw [List.getD_eq_getElem?_getD, List.getElem?_eq_getElem (by have := h.1; have := h.2; omega)]
  exact List.getElem_mem _

/-- What a comparison is in plain words. -/
structure Is (C : Cmp) (c : S31 → S31 → Int) (l : List S31) : Prop where
  is : ∀ k, 100 ≤ k → ∀ x, x ∈ l → ∀ y, y ∈ l → C.cf k x.f0.f0 x.f0.f1 x.f1 x.f2 x.f3 x.f4 y.f0.f0 y.f0.f1 y.f1 y.f2 y.f3 y.f4 = some (c x y)

theorem one_s {C : Cmp} {c : S31 → S31 → Int} {l : List S31} (h : Is C c l) (k : Nat) (hk : 100 ≤ k) (a i : Int) (ha : Valid l a) (hi : Valid l i) : g17_.f C k a l i = some (decide (c (g l a) (g l i) > 0)) := by
  unfold g17_.f
  rw [if_pos ha.1, if_pos ha.2, if_pos hi.1, if_pos hi.2]
  have := h.is k hk _ (g_mem ha) _ (g_mem hi)
  unfold g at this
  rw [this]
  rfl

theorem two_l {C : Cmp} {c : S31 → S31 → Int} {l : List S31} (h : Is C c l) (i : Int) (hi : Valid l i) (n : Nat) (hn : n < 1000) : ∀ (s p : List Int) (k : Nat), (p ++ s).length = n → s.length + 100 < k → (∀ a, a ∈ s → Valid l a) →
    ∃ j, g4_.l0 C k (p ++ s) n p.length l i = some j ∧ (0 ≤ j ↔ ∃ a, a ∈ s ∧ c (g l a) (g l i) > 0) := by
  intro s
  induction s with
  | nil =>
    intro p k hl hk _
    obtain ⟨k, rfl⟩ : ∃ m, k = m + 1 := ⟨k - 1, by simp at hk; omega⟩
    simp only [List.append_nil] at hl
    rw [g4_.l0, if_neg (by omega)]
    exact ⟨-1, rfl, by simp⟩
  | cons x s ih =>
    intro p k hl hk hv
    obtain ⟨k, rfl⟩ : ∃ m, k = m + 1 := ⟨k - 1, by simp at hk; omega⟩
    have hl2 : p.length + s.length + 1 = n := by simp at hl; omega
    rw [g4_.l0, if_pos (by omega), if_pos (by omega), if_pos (by rw [hl]; omega), rdm, one_s h k (by simp at hk; omega) x i (hv x (by simp)) hi, wrap64_id (x := (p.length : Int) + 1) (by omega) (by omega)]
    simp only [Option.bind_some, decide_eq_true_eq]
    by_cases c1 : c (g l x) (g l i) > 0
    · rw [if_pos c1]
      exact ⟨_, rfl, ⟨fun _ => ⟨x, by simp, c1⟩, fun _ => by omega⟩⟩
    · rw [if_neg c1]
      obtain ⟨j, j1, j2⟩ := ih (p ++ [x]) k (by simp; omega) (by simp at hk; omega) (fun a ha => hv a (by simp [ha]))
      refine ⟨j, by simpa using j1, j2.trans ?_⟩
      constructor
      · rintro ⟨z, z1, z2⟩; exact ⟨z, by simp [z1], z2⟩
      · rintro ⟨z, z1, z2⟩
        rcases List.mem_cons.mp z1 with rfl | z1
        · exact absurd z2 c1
        · exact ⟨z, z1, z2⟩

/-- Is one of them better than this one? -/
noncomputable def bet (c : S31 → S31 → Int) (l : List S31) (of : List Int) (i : Int) : Bool := decide (∃ a, a ∈ of ∧ c (g l a) (g l i) > 0)
theorem two_s {C : Cmp} {c : S31 → S31 → Int} {l : List S31} (h : Is C c l) (of : List Int) (hof : of.length ≤ 50) (hv : ∀ a, a ∈ of → Valid l a) (i : Int) (hi : Valid l i) (k : Nat) (hk : 200 ≤ k) :
    g19_.f C k i of l = some (bet c l of i) := by
  obtain ⟨j, j1, j2⟩ := two_l h i hi of.length (by omega) of [] k (by simp) (by omega) hv
  simp only [List.nil_append, List.length_nil] at j1
  rw [show ((0 : Nat) : Int) = 0 from rfl] at j1
  unfold g19_.f g15_.f g4_.f
  rw [j1]
  simp only [Option.bind_some, Option.some.injEq]
  unfold bet
  rw [decide_eq_decide, ← j2]

theorem idx_l {C : Cmp} {c : S31 → S31 → Int} {l : List S31} (h : Is C c l) (of : List Int) (hof : of.length ≤ 50) (hv : ∀ a, a ∈ of → Valid l a) (n : Nat) (hn : n < 1000) : ∀ (s p : List Int) (k : Nat), (p ++ s).length = n → s.length + 200 < k → (∀ a, a ∈ s → Valid l a) →
    (g3_.l0 C k (p ++ s) n p.length of l = some (-1) ∧ ∀ a, a ∈ s → bet c l of a = false) ∨
    ∃ q x r, s = q ++ x :: r ∧ (∀ a, a ∈ q → bet c l of a = false) ∧ bet c l of x = true ∧ g3_.l0 C k (p ++ s) n p.length of l = some ((p.length + q.length : Nat) : Int) := by
  intro s
  induction s with
  | nil =>
    intro p k hl hk _
    obtain ⟨k, rfl⟩ : ∃ m, k = m + 1 := ⟨k - 1, by simp at hk; omega⟩
    simp only [List.append_nil] at hl
    rw [g3_.l0, if_neg (by omega)]
    exact Or.inl ⟨rfl, by simp⟩
  | cons x s ih =>
    intro p k hl hk hs
    obtain ⟨k, rfl⟩ : ∃ m, k = m + 1 := ⟨k - 1, by simp at hk; omega⟩
    have hl2 : p.length + s.length + 1 = n := by simp at hl; omega
    rw [g3_.l0, if_pos (by omega), if_pos (by omega), if_pos (by rw [hl]; omega), rdm, two_s h of hof hv x (hs x (by simp)) k (by simp at hk; omega), wrap64_id (x := (p.length : Int) + 1) (by omega) (by omega)]
    simp only [Option.bind_some]
    by_cases c1 : bet c l of x = true
    · rw [if_pos c1]
      exact Or.inr ⟨[], x, s, rfl, by simp, c1, by simp⟩
    · rw [if_neg c1]
      have c0 : bet c l of x = false := by simpa using c1
      have hap : p ++ x :: s = (p ++ [x]) ++ s := by simp
      have hle : ((p.length : Int) + 1) = ((p ++ [x]).length : Int) := by simp
      rw [hap, hle]
      rcases ih (p ++ [x]) k (by simp; omega) (by simp at hk; omega) (fun a ha => hs a (by simp [ha])) with ⟨h1, h2⟩ | ⟨q, y, r, h1, h2, h3, h4⟩
      · refine Or.inl ⟨h1, fun a ha => ?_⟩
        rcases List.mem_cons.mp ha with rfl | ha
        · exact c0
        · exact h2 a ha
      · refine Or.inr ⟨x :: q, y, r, by rw [h1]; rfl, fun a ha => ?_, h3, ?_⟩
        · rcases List.mem_cons.mp ha with rfl | ha
          · exact c0
          · exact h2 a ha
        · rw [h4]; congr 1; simp; omega

theorem set_s (w t : List Int) (z x : Int) (r : List Int) : (w ++ z :: t ++ x :: r).set w.length x = (w ++ [x]) ++ (t ++ x :: r) := by simp

theorem del_l {C : Cmp} {c : S31 → S31 → Int} {l : List S31} (h : Is C c l) (of : List Int) (hof : of.length ≤ 50) (hv : ∀ a, a ∈ of → Valid l a) : ∀ (s w t : List Int) (z : Int) (k : Nat), (w ++ z :: t ++ s).length ≤ 50 → s.length + 300 < k → (∀ a, a ∈ s → Valid l a) →
    g2_.l0 C k (w ++ z :: t ++ s) w.length ((w.length + t.length + 1 : Nat) : Int) of l = some (w ++ s.filter fun a => !(bet c l of a)) := by
  intro s
  induction s with
  | nil =>
    intro w t z k hl hk _
    obtain ⟨k, rfl⟩ : ∃ m, k = m + 1 := ⟨k - 1, by omega⟩
    rw [g2_.l0, if_neg (by simp; omega), if_pos (by omega), if_pos (by simp; omega)]
    simp only [Option.bind_some]
    rw [if_pos (by simp; omega)]
    simp
  | cons x s ih =>
    intro w t z k hl hk hs
    obtain ⟨k, rfl⟩ : ∃ m, k = m + 1 := ⟨k - 1, by omega⟩
    have hl2 : w.length + t.length + s.length + 2 ≤ 50 := by simp at hl; omega
    have rx : rd (w ++ z :: t ++ x :: s) ((w.length + t.length + 1 : Nat) : Int) = x := by
      have := rdm (w ++ z :: t) s x
      rw [show (w ++ z :: t).length = w.length + t.length + 1 from by simp; omega] at this
      exact this
    have e1 : ((w.length + t.length + 1 : Nat) : Int) + 1 = ((w.length + (t.length + 1) + 1 : Nat) : Int) := by omega
    rw [g2_.l0, if_pos (by simp; omega), if_pos (by omega), rx, two_s h of hof hv x (hs x (by simp)) k (by simp at hk; omega), wrap64_id (x := ((w.length + t.length + 1 : Nat) : Int) + 1) (by omega) (by omega), e1]
    simp only [Option.bind_some]
    by_cases c1 : bet c l of x = true
    · rw [if_pos c1]
      have next := ih w (t ++ [x]) z k (by simp; omega) (by simp at hk; omega) (fun a ha => hs a (by simp [ha]))
      rw [List.length_append, List.length_singleton] at next
      rw [List.filter_cons_of_neg (by simp [c1]), show w ++ z :: t ++ x :: s = w ++ z :: (t ++ [x]) ++ s from by simp]
      exact next
    · rw [if_neg c1, if_pos (by omega), if_pos (by simp; omega), Int.toNat_natCast, set_s, wrap64_id (x := (w.length : Int) + 1) (by omega) (by omega)]
      rw [List.filter_cons_of_pos (by simpa using c1)]
      cases t with
      | nil =>
        have next := ih (w ++ [x]) [] x k (by simp; omega) (by simp at hk; omega) (fun a ha => hs a (by simp [ha]))
        simp only [List.length_append, List.length_singleton, List.length_nil, List.append_assoc, List.singleton_append, List.nil_append] at next ⊢
        rw [show (w.length : Int) + 1 = ((w.length + 1 : Nat) : Int) from by omega, show w.length + (0 + 1) + 1 = w.length + 1 + 0 + 1 from by omega]
        simpa using next
      | cons y t =>
        simp only [List.length_cons] at hl2
        have next := ih (w ++ [x]) (t ++ [x]) y k (by simp; omega) (by simp at hk; omega) (fun a ha => hs a (by simp [ha]))
        simp only [List.length_append, List.length_singleton, List.length_cons] at next ⊢
        rw [show (w.length : Int) + 1 = ((w.length + 1 : Nat) : Int) from by omega, show w.length + (t.length + 1 + 1) + 1 = w.length + 1 + (t.length + 1) + 1 from by omega]
        simpa using next

theorem clone_s (l : List Int) (hl : l.length ≤ 100) : g29_.f l = some l := by
  unfold g29_.f
  simp only [Option.bind_some, List.length_nil, List.nil_append]
  rw [if_pos (by omega)]

noncomputable def Kl (c : S31 → S31 → Int) (l : List S31) (of : List Int) : List Int := of.filter fun a => !(bet c l of a)
theorem keep_s {C : Cmp} {c : S31 → S31 → Int} {l : List S31} (h : Is C c l) (of : List Int) (hof : of.length ≤ 50) (hv : ∀ a, a ∈ of → Valid l a) (k : Nat) (hk : 500 ≤ k) : g25_.f C k l of = some (Kl c l of) := by
  unfold g25_.f
  rw [clone_s of (by omega)]
  simp only [Option.bind_some]
  unfold g2_.f g3_.f
  unfold Kl
  rcases idx_l h of hof hv of.length (by omega) of [] k (by simp) (by omega) hv with ⟨h1, h2⟩ | ⟨q, x, r, h1, h2, h3, h4⟩
  · simp only [List.nil_append, List.length_nil] at h1
    rw [show ((0 : Nat) : Int) = 0 from rfl] at h1
    rw [h1]
    simp only [Option.bind_some, if_true]
    rw [List.filter_eq_self.mpr (fun a ha => by simp [h2 a ha])]
  · simp only [List.nil_append, List.length_nil, Nat.zero_add] at h4
    rw [show ((0 : Nat) : Int) = 0 from rfl] at h4
    rw [h4]
    simp only [Option.bind_some]
    have hq : q.length ≤ 50 := by rw [h1] at hof; simp at hof; omega
    rw [if_neg (by omega), wrap64_id (x := (q.length : Int) + 1) (by omega) (by omega)]
    have d := del_l h of hof hv r q [] x k (by rw [h1] at hof; simpa using hof) (by rw [h1] at hof; simp at hof; omega) (fun a ha => hv a (by rw [h1]; simp [ha]))
    simp only [List.length_nil, Nat.add_zero] at d
    have e : of = q ++ [x] ++ r := by rw [h1]; simp
    rw [show ((q.length : Int) + 1) = ((q.length + 1 : Nat) : Int) from by omega]
    have gen : ∀ P : Int → Bool, (∀ a, a ∈ q → P a = true) → P x = false → of.filter P = q ++ r.filter P := by
      intro P hq hx
      rw [h1, List.filter_append, List.filter_cons_of_neg (by simp [hx]), List.filter_eq_self.mpr hq]
    have fl : of.filter (fun a => !(bet c l of a)) = q ++ r.filter (fun a => !(bet c l of a)) := gen _ (fun a ha => by simp [h2 a ha]) (by simp [h3])
    rw [fl]
    have : g2_.l0 C k of q.length ((q.length + 1 : Nat) : Int) of l = some (q ++ r.filter fun a => !(bet c l of a)) := by
      have e2 : q ++ x :: [] ++ r = of := by rw [h1]; simp
      rw [e2] at d
      exact d
    rw [this]
    rfl

theorem Kl_mem {c : S31 → S31 → Int} {l : List S31} {of : List Int} {a : Int} (h : a ∈ Kl c l of) : a ∈ of := (List.mem_filter.mp h).1
theorem Kl_len (c : S31 → S31 → Int) (l : List S31) (of : List Int) : (Kl c l of).length ≤ of.length := List.length_filter_le _ _
theorem Kl_val (c : S31 → S31 → Int) (l : List S31) (of : List Int) : (Kl c l of).map (g l) = Kv c (of.map (g l)) := by
  unfold Kl Kv
  rw [List.filter_map]
  congr 1
  apply List.filter_congr
  intro a _
  unfold bet
  rw [Bool.eq_iff_iff]
  simp only [Function.comp_apply, Bool.not_eq_true', decide_eq_false_iff_not, decide_eq_true_eq, List.mem_map]
  constructor
  · rintro h y ⟨b, b1, rfl⟩ hc
    exact h ⟨b, b1, hc⟩
  · rintro h ⟨b, b1, b2⟩
    exact h _ ⟨b, b1, rfl⟩ b2

/-! ### the four comparisons -/
def fst (p : S31) : Int := p.f1.headD 0
def c1 (a b : S31) : Int := cmp a.f2 b.f2
def c2 (a b : S31) : Int := cmp (b.f1.length : Int) (a.f1.length : Int)
def c3 (a b : S31) : Int := if fst a = fst b then cmp b.f3 a.f3 else 0
def c4 (a b : S31) : Int := lx b.f1 a.f1
theorem cmp_s (a b : Int) : g20_.f a b = some (cmp a b) := by
  simp only [g20_.f, g16_.f, cmp, bne_self_eq_false, Option.bind_some, Bool.false_eq_true, if_false]; split; · rfl
  split <;> rfl
theorem first_s (a b : Int) (w : List Int) (c d : Int) (t : List Int) : best_first.f a b w c d t = some (w.headD 0) := by
  unfold best_first.f
  cases w with
  | nil => rfl
  | cons x w => rw [if_neg (by rw [List.length_cons]; omega), if_pos (by rw [List.length_cons]; omega)]; rfl
theorem comp_l (n : Nat) (hn : n < 1000) (x y : List Int) : ∀ (s p q t : List Int) (k : Nat), x = p ++ s → y = q ++ t → p.length = q.length → p = q → x.length = n → y.length < 1000 → s.length < k →
    g12_.l0 k x y x n p.length = some (lx s t) := by
  intro s
  induction s with
  | nil =>
    intro p q t k hx hy hp hpq hl hy2 hk
    obtain ⟨k, rfl⟩ : ∃ m, k = m + 1 := ⟨k - 1, by simp at hk; omega⟩
    have lp : p.length = n := by rw [← hl, hx]; simp
    rw [g12_.l0, if_neg (by omega)]
    cases t with
    | nil => rw [if_neg (by rw [hx, hy]; simp; omega)]; rfl
    | cons z t => rw [if_pos (by rw [hx, hy]; simp; omega)]; rfl
  | cons u s ih =>
    intro p q t k hx hy hp hpq hl hy2 hk
    obtain ⟨k, rfl⟩ : ∃ m, k = m + 1 := ⟨k - 1, by simp at hk; omega⟩
    have lp : p.length + s.length + 1 = n := by rw [← hl, hx]; simp; omega
    have ru : rd x (p.length : Int) = u := by rw [hx]; exact rdm p s u
    rw [g12_.l0, if_pos (by omega), if_pos (by omega), if_pos (by omega), ru]
    cases t with
    | nil => rw [if_pos (by rw [hy]; simp; omega)]; rfl
    | cons v t =>
      have rv : rd y (p.length : Int) = v := by rw [hy, hp]; exact rdm q t v
      rw [if_neg (by rw [hy]; simp; omega), if_pos (by rw [hy]; simp; omega), rv, cmp_s, wrap64_id (x := (p.length : Int) + 1) (by omega) (by omega)]
      simp only [Option.bind_some]
      unfold lx cmp
      by_cases h1 : u < v
      · rw [if_pos h1, if_pos h1, if_neg (by decide)]
      · by_cases h2 : u > v
        · rw [if_neg h1, if_pos h2, if_neg h1, if_pos h2, if_neg (by decide)]
        · rw [if_neg h1, if_neg h2, if_neg h1, if_neg h2, if_pos rfl]
          have e : u = v := by omega
          subst e
          subst hpq
          have := ih (p ++ [u]) (p ++ [u]) t k (by rw [hx]; simp) (by rw [hy]; simp) rfl rfl hl hy2 (by simp at hk; omega)
          rw [show (p.length : Int) + 1 = ((p ++ [u]).length : Int) from by simp]
          exact this
theorem comp_s (k : Nat) (hk : 100 ≤ k) (x y : List Int) (hx : x.length ≤ 32) (hy : y.length ≤ 32) : g12_.f k x y = some (lx x y) := by
  unfold g12_.f
  exact comp_l x.length (by omega) x y x [] [] y k rfl rfl rfl rfl rfl (by omega) (by omega)

theorem is1 (l : List S31) : Is c_1 c1 l := ⟨fun k hk x hx y hy => by show best_steps_1.f x.f0.f0 x.f0.f1 x.f1 x.f2 x.f3 x.f4 y.f0.f0 y.f0.f1 y.f1 y.f2 y.f3 y.f4 = _; unfold best_steps_1.f; rw [cmp_s]; rfl⟩
theorem is2 (l : List S31) : Is c_2 c2 l := ⟨fun k hk x hx y hy => by show best_steps_2.f x.f0.f0 x.f0.f1 x.f1 x.f2 x.f3 x.f4 y.f0.f0 y.f0.f1 y.f1 y.f2 y.f3 y.f4 = _; unfold best_steps_2.f; rw [cmp_s]; rfl⟩
theorem is3 (l : List S31) : Is c_3 c3 l := ⟨fun k hk x hx y hy => by
  show best_steps_3.f x.f0.f0 x.f0.f1 x.f1 x.f2 x.f3 x.f4 y.f0.f0 y.f0.f1 y.f1 y.f2 y.f3 y.f4 = _
  unfold best_steps_3.f
  rw [first_s, first_s, cmp_s]
  simp only [Option.bind_some]
  unfold c3 fst
  split <;> rfl⟩
theorem is4 (l : List S31) (h : ∀ p, p ∈ l → POk p) : Is c_4 c4 l := ⟨fun k hk x hx y hy => by
  show best_steps_4.f k x.f0.f0 x.f0.f1 x.f1 x.f2 x.f3 x.f4 y.f0.f0 y.f0.f1 y.f1 y.f2 y.f3 y.f4 = _
  unfold best_steps_4.f
  rw [comp_s k hk _ _ (h y hy).wl (h x hx).wl]
  rfl⟩

noncomputable def L4 (l : List S31) (of : List Int) : List Int := Kl c4 l (Kl c3 l (Kl c2 l (Kl c1 l of)))
noncomputable def V4 (l : List S31) : List S31 := Kv c4 (Kv c3 (Kv c2 (Kv c1 l)))
def nums (n : Nat) : List Int := (List.range n).map fun i : Nat => (i : Int)
theorem nums_succ (n : Nat) : nums (n + 1) = nums n ++ [(n : Int)] := by unfold nums; rw [List.range_succ, List.map_append]; rfl
theorem nums_valid (l : List S31) : ∀ a, a ∈ nums l.length → Valid l a := by
  intro a ha
  unfold nums at ha
  obtain ⟨i, h1, rfl⟩ := List.mem_map.mp ha
  have := List.mem_range.mp h1
  exact ⟨by omega, by omega⟩
theorem nums_val (l : List S31) : (nums l.length).map (g l) = l := by
  unfold nums
  rw [List.map_map]
  apply List.ext_getElem
  · simp
  · intro i h1 h2
    simp only [List.getElem_map, List.getElem_range, Function.comp_apply]
    unfold g rd_T31
    rw [Int.toNat_natCast, List.getD_eq_getElem?_getD, List.getElem?_eq_getElem h2]
    rfl

theorem left_1 (l : List S31) (h : ∀ p, p ∈ l → POk p) (of : List Int) (hof : of.length ≤ 50) (hv : ∀ a, a ∈ of → Valid l a) (k : Nat) (hk : 600 ≤ k) : best_left.l1 k l of [46, 48, 49, 51] 4 0 = some (L4 l of) := by
  obtain ⟨k, rfl⟩ : ∃ m, k = m + 5 := ⟨k - 5, by omega⟩
  have a1 := keep_s (is1 l) of hof hv (k + 4) (by omega)
  have b1 : (Kl c1 l of).length ≤ 50 := Nat.le_trans (Kl_len _ _ _) hof
  have v1 : ∀ a, a ∈ Kl c1 l of → Valid l a := fun a ha => hv a (Kl_mem ha)
  have a2 := keep_s (is2 l) _ b1 v1 (k + 3) (by omega)
  have b2 := Nat.le_trans (Kl_len c2 l _) b1
  have v2 : ∀ a, a ∈ Kl c2 l (Kl c1 l of) → Valid l a := fun a ha => v1 a (Kl_mem ha)
  have a3 := keep_s (is3 l) _ b2 v2 (k + 2) (by omega)
  have b3 := Nat.le_trans (Kl_len c3 l _) b2
  have v3 : ∀ a, a ∈ Kl c3 l (Kl c2 l (Kl c1 l of)) → Valid l a := fun a ha => v2 a (Kl_mem ha)
  have a4 := keep_s (is4 l h) _ b3 v3 (k + 1) (by omega)
  have w1 : wrap64 (0 + 1) = 1 := wrap64_id (by omega) (by omega)
  have w2 : wrap64 (1 + 1) = 2 := wrap64_id (by omega) (by omega)
  have w3 : wrap64 (2 + 1) = 3 := wrap64_id (by omega) (by omega)
  have w4 : wrap64 (3 + 1) = 4 := wrap64_id (by omega) (by omega)
  rw [best_left.l1, if_pos (by decide), if_pos (by decide), if_pos (by decide), if_pos (by decide)]
  unfold g21_.f
  rw [a1, Option.bind_some, w1, best_left.l1, if_pos (by decide), if_pos (by decide), if_pos (by decide), if_neg (by decide), if_pos (by decide)]
  unfold g22_.f
  rw [a2, Option.bind_some, w2, best_left.l1, if_pos (by decide), if_pos (by decide), if_pos (by decide), if_neg (by decide), if_neg (by decide), if_pos (by decide)]
  unfold g23_.f
  rw [a3, Option.bind_some, w3, best_left.l1, if_pos (by decide), if_pos (by decide), if_pos (by decide), if_neg (by decide), if_neg (by decide), if_neg (by decide), if_pos (by decide)]
  unfold g24_.f
  rw [a4, Option.bind_some, w4, best_left.l1, if_neg (by decide)]
  rfl

theorem left_0 (l : List S31) (h : ∀ p, p ∈ l → POk p) (hl : l.length ≤ 50) : ∀ (d i k : Nat), i + d = l.length → d + 700 ≤ k → best_left.l0 k l (nums i) l.length i = some (L4 l (nums l.length)) := by
  intro d
  induction d with
  | zero =>
    intro i k hi hk
    obtain ⟨k, rfl⟩ : ∃ m, k = m + 1 := ⟨k - 1, by omega⟩
    obtain rfl : i = l.length := by omega
    rw [best_left.l0, if_neg (by omega)]
    unfold best_steps.f
    simp only [Option.bind_some]
    exact left_1 l h _ (by simp [nums]; omega) (nums_valid l) k (by omega)
  | succ d ih =>
    intro i k hi hk
    obtain ⟨k, rfl⟩ : ∃ m, k = m + 1 := ⟨k - 1, by omega⟩
    rw [best_left.l0, if_pos (by omega), if_pos (by simp [nums]; omega), wrap64_id (x := (i : Int) + 1) (by omega) (by omega), ← nums_succ, show (i : Int) + 1 = ((i + 1 : Nat) : Int) from by omega]
    exact ih (i + 1) k (by omega) (by omega)
theorem left_s (l : List S31) (h : ∀ p, p ∈ l → POk p) (hl : l.length ≤ 50) (k : Nat) (hk : 800 ≤ k) : best_left.f k l = some (L4 l (nums l.length)) := by
  unfold best_left.f
  exact left_0 l h hl l.length 0 k (by omega) (by omega)

theorem L4_val (l : List S31) : (L4 l (nums l.length)).map (g l) = V4 l := by
  unfold L4 V4
  rw [Kl_val, Kl_val, Kl_val, Kl_val, nums_val]
theorem L4_valid (l : List S31) : ∀ a, a ∈ L4 l (nums l.length) → Valid l a := fun a ha => nums_valid l a (Kl_mem (Kl_mem (Kl_mem (Kl_mem ha))))

theorem V4_ne {l : List S31} (h : l ≠ []) : V4 l ≠ [] := by
  unfold V4
  refine Kv_ne (c := c4) ?_ ?_ (Kv_ne (c := c3) ?_ ?_ (Kv_ne (c := c2) ?_ ?_ (Kv_ne (c := c1) ?_ ?_ h)))
  · intro x; unfold c4; rw [lx_self]; omega
  · intro x y z a b; unfold c4 at *; exact lx_trans _ _ _ b a
  · intro x; unfold c3; rw [if_pos rfl, cmp_pos]; omega
  · intro x y z a b
    unfold c3 at *
    by_cases h1 : fst x = fst y
    · rw [if_pos h1, cmp_pos] at a
      by_cases h2 : fst y = fst z
      · rw [if_pos h2, cmp_pos] at b
        rw [if_pos (h1.trans h2), cmp_pos]
        omega
      · rw [if_neg h2] at b; omega
    · rw [if_neg h1] at a; omega
  · intro x; unfold c2; rw [cmp_pos]; omega
  · intro x y z a b; unfold c2 at *; rw [cmp_pos] at *; omega
  · intro x; unfold c1; rw [cmp_pos]; omega
  · intro x y z a b; unfold c1 at *; rw [cmp_pos] at *; omega

theorem Choose_s (l : List S31) (h : ∀ p, p ∈ l → POk p) (hl : l.length ≤ 50) (hne : l ≠ []) (k : Nat) (hk : 1000 ≤ k) : ∃ i, best_Choose.f k l = some (i, 0) ∧ Valid l i ∧ g l i ∈ V4 l := by
  have e : L4 l (nums l.length) ≠ [] := by
    intro z
    have := L4_val l
    rw [z] at this
    exact V4_ne hne this.symm
  obtain ⟨i, r, hir⟩ := List.exists_cons_of_ne_nil e
  have hi : i ∈ L4 l (nums l.length) := by rw [hir]; simp
  refine ⟨i, ?_, L4_valid l i hi, ?_⟩
  · unfold best_Choose.f
    rw [wrong_s k (by omega) l (by omega) h]
    simp only [Option.bind_some, if_true]
    rw [if_neg (by intro z; exact hne (List.eq_nil_of_length_eq_zero (by omega))), left_s l h hl k (by omega)]
    simp only [Option.bind_some]
    rw [hir, if_pos (by rw [List.length_cons]; omega)]
    rfl
  · rw [← L4_val l]
    exact List.mem_map_of_mem hi
end Go.Proofs.YtplcdbhklepkgaaDoor.BO
