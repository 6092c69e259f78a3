/- Routes of domains, in plain numbers: which route a round chooses, that rounds come to rest, and that routes keep their form. No condition. -/
namespace Go.Proofs.Ytplcdbhklepkgaa.BestM
set_option linter.unusedVariables false

def isC (K : Int → Int → Int) : List Int → Bool
  | [] => false
  | [_] => true
  | a :: b :: _ => decide (K a b = 1)
def expo (K : Int → Int → Int) (w : List Int) (u : Int) : Bool := isC K w || decide (K (w.headD 0) u = 1)
def cand (K : Int → Int → Int) (u : Int) (v : Nat) (w : List Int) : Bool := decide (K u v ≠ 0) && (decide (w ≠ []) && (decide (u ∉ w) && expo K w u))
def stepc (K : Int → Int → Int) (W : Nat → List Int) (u : Int) (b : Int) (v : Nat) : Int :=
  if cand K u v (W v) = true then
    (if b < 0 then (v : Int) else if K u v < K u b then (v : Int) else if K u v = K u b then (if (W v).length < (W b.toNat).length then (v : Int) else b) else b)
  else b
def best (K : Int → Int → Int) (W : Nat → List Int) (u : Int) : Nat → Int
  | 0 => -1
  | m + 1 => stepc K W u (best K W u m) m
def chosenW (K : Int → Int → Int) (W : Nat → List Int) (u : Int) (n : Nat) : List Int := if best K W u n < 0 then [] else u :: W (best K W u n).toNat
def roundW (K : Int → Int → Int) (o : Int) (n : Nat) (W : Nat → List Int) (u : Nat) : List Int := if (u : Int) = o then [o] else chosenW K W u n
def runs (K : Int → Int → Int) (o : Int) (n : Nat) : Nat → Nat → List Int
  | 0 => fun _ => []
  | k + 1 => roundW K o n (runs K o n k)

structure Net (K : Int → Int → Int) : Prop where
  rng : ∀ u v, 0 ≤ K u v ∧ K u v ≤ 3
  back : ∀ u v, K u v ≠ 0 → K v u = 4 - K u v
  down : ∀ u v, K u v = 1 → u < v

def Down (K : Int → Int → Int) : List Int → Prop
  | [] => True
  | [_] => True
  | a :: b :: t => K a b = 1 ∧ Down K (b :: t)
def V (K : Int → Int → Int) : List Int → Prop
  | [] => True
  | [_] => True
  | a :: b :: t => K a b ≠ 0 ∧ (K a b ≠ 3 → Down K (b :: t)) ∧ V K (b :: t)

structure Rway (K : Int → Int → Int) (n : Nat) (o v : Int) (w : List Int) : Prop where
  head : w.head? = some v
  rng : ∀ x, x ∈ w → 0 ≤ x ∧ x < n
  nd : w.Nodup
  last : w.getLast? = some o
  val : V K w
def Inv (K : Int → Int → Int) (n : Nat) (o : Int) (W : Nat → List Int) : Prop := ∀ v, v < n → W v = [] ∨ Rway K n o v (W v)

theorem best_some (K : Int → Int → Int) (W : Nat → List Int) (u : Int) : ∀ m, best K W u m = -1 ∨ ∃ v : Nat, best K W u m = v ∧ v < m ∧ cand K u v (W v) = true := by
  intro m
  induction m with
  | zero => exact Or.inl rfl
  | succ m ih =>
    have old : best K W u m = -1 ∨ ∃ v : Nat, best K W u m = v ∧ v < m + 1 ∧ cand K u v (W v) = true := by
      rcases ih with h | ⟨v, h1, h2, h3⟩
      · exact Or.inl h
      · exact Or.inr ⟨v, h1, by omega, h3⟩
    show stepc K W u (best K W u m) m = -1 ∨ ∃ v : Nat, stepc K W u (best K W u m) m = v ∧ v < m + 1 ∧ cand K u v (W v) = true
    unfold stepc
    by_cases c : cand K u m (W m) = true
    · rw [if_pos c]
      have new : ((m : Nat) : Int) = -1 ∨ ∃ v : Nat, ((m : Nat) : Int) = v ∧ v < m + 1 ∧ cand K u v (W v) = true := Or.inr ⟨m, rfl, by omega, c⟩
      (repeat' split) <;> first | exact new | exact old
    · rw [if_neg c]
      exact old

theorem cand_iff {K : Int → Int → Int} {u : Int} {v : Nat} {w : List Int} : cand K u v w = true ↔ K u v ≠ 0 ∧ w ≠ [] ∧ u ∉ w ∧ (isC K w = true ∨ K (w.headD 0) u = 1) := by
  unfold cand expo
  simp only [Bool.and_eq_true, decide_eq_true_eq, Bool.or_eq_true]

/-- What a neighbour offers, held against another state: the same, or neither. -/
def Like (K : Int → Int → Int) (u : Int) (v : Nat) (a b : List Int) : Prop := a = b ∨ (cand K u v a = false ∧ cand K u v b = false)

theorem sim {K : Int → Int → Int} (N : Net K) (p : Int) (hp : 1 ≤ p) (W X : Nat → List Int) (u : Int) (n : Nat) (h : ∀ v : Nat, v < n → K u v ≠ 0 → K u v ≤ p → Like K u v (W v) (X v)) :
    ∀ m, m ≤ n → (∃ b : Nat, best K W u m = b ∧ best K X u m = b ∧ b < m ∧ K u b ≠ 0 ∧ K u b ≤ p ∧ W b = X b) ∨
      ((best K W u m = -1 ∨ p < K u (best K W u m)) ∧ (best K X u m = -1 ∨ p < K u (best K X u m))) := by
  intro m
  induction m with
  | zero => intro _; exact Or.inr ⟨Or.inl rfl, Or.inl rfl⟩
  | succ m ih =>
    intro hm
    have s1 := best_some K W u m
    have s2 := best_some K X u m
    show (∃ b : Nat, stepc K W u (best K W u m) m = b ∧ stepc K X u (best K X u m) m = b ∧ b < m + 1 ∧ K u b ≠ 0 ∧ K u b ≤ p ∧ W b = X b) ∨
      ((stepc K W u (best K W u m) m = -1 ∨ p < K u (stepc K W u (best K W u m) m)) ∧ (stepc K X u (best K X u m) m = -1 ∨ p < K u (stepc K X u (best K X u m) m)))
    have ih := ih (by omega)
    by_cases hk : K u m ≠ 0 ∧ K u m ≤ p
    · -- a neighbour of the kinds that count
      rcases h m (by omega) hk.1 hk.2 with e | ⟨c1, c2⟩
      · by_cases c : cand K u m (W m) = true
        · have c' : cand K u m (X m) = true := by rw [← e]; exact c
          rcases ih with ⟨b, h1, h2, h3, h4, h5, h6⟩ | ⟨h1, h2⟩
          · refine Or.inl ?_
            rw [h1, h2]
            unfold stepc
            rw [if_pos c, if_pos c', ← e, Int.toNat_natCast, ← h6]
            rw [if_neg (by omega)]
            have A : ∃ q : Nat, (m : Int) = q ∧ (m : Int) = q ∧ q < m + 1 ∧ K u q ≠ 0 ∧ K u q ≤ p ∧ W q = X q := ⟨m, rfl, rfl, by omega, hk.1, hk.2, e⟩
            have B : ∃ q : Nat, (b : Int) = q ∧ (b : Int) = q ∧ q < m + 1 ∧ K u q ≠ 0 ∧ K u q ≤ p ∧ W q = X q := ⟨b, rfl, rfl, by omega, h4, h5, h6⟩
            (repeat' split) <;> first | exact A | exact B
          · refine Or.inl ⟨m, ?_, ?_, by omega, hk.1, hk.2, e⟩
            · unfold stepc
              rw [if_pos c]
              by_cases z : best K W u m < 0
              · rw [if_pos z]
              · rw [if_neg z, if_pos (by omega)]
            · unfold stepc
              rw [if_pos c']
              by_cases z : best K X u m < 0
              · rw [if_pos z]
              · rw [if_neg z, if_pos (by omega)]
        · have c' : ¬ cand K u m (X m) = true := by rw [← e]; exact c
          unfold stepc
          rw [if_neg c, if_neg c']
          rcases ih with ⟨b, h1, h2, h3, h4, h5, h6⟩ | ih
          · exact Or.inl ⟨b, h1, h2, by omega, h4, h5, h6⟩
          · exact Or.inr ih
      · unfold stepc
        rw [c1, c2]
        simp only [Bool.false_eq_true, if_false]
        rcases ih with ⟨b, h1, h2, h3, h4, h5, h6⟩ | ih
        · exact Or.inl ⟨b, h1, h2, by omega, h4, h5, h6⟩
        · exact Or.inr ih
    · -- one that does not count
      have one : ∀ Z : Nat → List Int, (best K Z u m = -1 ∨ p < K u (best K Z u m)) → (stepc K Z u (best K Z u m) m = -1 ∨ p < K u (stepc K Z u (best K Z u m) m)) := by
        intro Z hz
        unfold stepc
        by_cases c : cand K u m (Z m) = true
        · have k0 := (cand_iff.mp c).1
          have A : ((m : Nat) : Int) = -1 ∨ p < K u ((m : Nat) : Int) := Or.inr (by omega)
          rw [if_pos c]
          (repeat' split) <;> first | exact A | exact hz
        · rw [if_neg c]; exact hz
      rcases ih with ⟨b, h1, h2, h3, h4, h5, h6⟩ | ⟨h1, h2⟩
      · refine Or.inl ⟨b, ?_, ?_, by omega, h4, h5, h6⟩
        · rw [h1]
          unfold stepc
          by_cases c : cand K u m (W m) = true
          · have k0 := (cand_iff.mp c).1
            rw [if_pos c, if_neg (by omega), if_neg (by omega), if_neg (by omega)]
          · rw [if_neg c]
        · rw [h2]
          unfold stepc
          by_cases c : cand K u m (X m) = true
          · have k0 := (cand_iff.mp c).1
            rw [if_pos c, if_neg (by omega), if_neg (by omega), if_neg (by omega)]
          · rw [if_neg c]
      · exact Or.inr ⟨one W h1, one X h2⟩

theorem down_of {K : Int → Int → Int} : ∀ {w : List Int}, V K w → isC K w = true → Down K w
  | [], _, _ => trivial
  | [_], _, _ => trivial
  | a :: b :: t, h, c => by
    have c1 : K a b = 1 := by simpa [isC] using c
    exact ⟨c1, h.2.1 (by omega)⟩

theorem head_ne {w : List Int} {v : Int} (h : w.head? = some v) : ∃ t, w = v :: t := by
  cases w with
  | nil => simp at h
  | cons a t => simp at h; exact ⟨t, by rw [h]⟩

theorem chosen_way {K : Int → Int → Int} (N : Net K) {n : Nat} {o : Int} {W : Nat → List Int} (I : Inv K n o W) (u : Nat) (hu : u < n) : chosenW K W u n = [] ∨ Rway K n o u (chosenW K W u n) := by
  unfold chosenW
  rcases best_some K W u n with h | ⟨v, h1, h2, h3⟩
  · rw [h]; exact Or.inl rfl
  · rw [h1, if_neg (by omega), Int.toNat_natCast]
    obtain ⟨k0, w0, w1, w2⟩ := cand_iff.mp h3
    rcases I v h2 with e | way
    · exact absurd e w0
    · obtain ⟨t, e⟩ := head_ne way.head
      refine Or.inr ⟨rfl, ?_, List.nodup_cons.mpr ⟨w1, way.nd⟩, ?_, ?_⟩
      · intro x hx
        rcases List.mem_cons.mp hx with rfl | hx
        · omega
        · exact way.rng x hx
      · rw [List.getLast?_cons, way.last]; rfl
      · have val := way.val
        rw [e] at w2 val ⊢
        refine ⟨k0, fun h3 => ?_, val⟩
        rcases w2 with c | c
        · exact down_of val c
        · exfalso
          have := N.back (v : Int) (u : Int) (by show K v u ≠ 0; simp at c; omega)
          simp at c
          omega

theorem round_inv {K : Int → Int → Int} (N : Net K) {n : Nat} {o : Int} (ho : 0 ≤ o ∧ o < n) {W : Nat → List Int} (I : Inv K n o W) : Inv K n o (roundW K o n W) := by
  intro u hu
  unfold roundW
  by_cases e : (u : Int) = o
  · rw [if_pos e]
    refine Or.inr ⟨by rw [e]; rfl, ?_, by simp, rfl, trivial⟩
    intro x hx
    simp at hx
    omega
  · rw [if_neg e]
    exact chosen_way N I u hu

theorem runs_inv {K : Int → Int → Int} (N : Net K) {n : Nat} {o : Int} (ho : 0 ≤ o ∧ o < n) : ∀ k, Inv K n o (runs K o n k)
  | 0 => fun _ _ => Or.inl rfl
  | k + 1 => round_inv N ho (runs_inv N ho k)

/-- Equal, or neither leads down first. -/
def SameC (K : Int → Int → Int) (a b : List Int) : Prop := a = b ∨ (isC K a = false ∧ isC K b = false)

theorem like_of {K : Int → Int → Int} (N : Net K) {n : Nat} {o : Int} {u v : Nat} {a b : List Int} (ha : a = [] ∨ Rway K n o v a) (hb : b = [] ∨ Rway K n o v b) (hk : K u v = 1 ∨ K u v = 2) (h : SameC K a b) : Like K u v a b := by
  rcases h with h | ⟨h1, h2⟩
  · exact Or.inl h
  · have back := N.back u v (by omega)
    have no : ∀ w, (w = [] ∨ Rway K n o v w) → isC K w = false → cand K u v w = false := by
      intro w hw hc
      cases hh : cand K u v w with
      | false => rfl
      | true =>
        obtain ⟨k0, w0, w1, w2⟩ := cand_iff.mp hh
        rcases hw with e | way
        · exact absurd e w0
        · obtain ⟨t, e⟩ := head_ne way.head
          rw [e] at w2 hc
          rcases w2 with c | c
          · rw [hc] at c; exact absurd c (by decide)
          · simp at c; omega
    exact Or.inr ⟨no a ha h1, no b hb h2⟩

theorem chosen_no {K : Int → Int → Int} {n : Nat} {o : Int} {W : Nat → List Int} (I : Inv K n o W) (u : Nat) (h : best K W u n = -1 ∨ 1 < K u (best K W u n)) : isC K (chosenW K W u n) = false := by
  unfold chosenW
  rcases best_some K W u n with e | ⟨v, h1, h2, h3⟩
  · rw [e]; rfl
  · rw [h1] at h ⊢
    rw [if_neg (by omega), Int.toNat_natCast]
    obtain ⟨k0, w0, w1, w2⟩ := cand_iff.mp h3
    rcases I v h2 with e | way
    · exact absurd e w0
    · obtain ⟨t, e⟩ := head_ne way.head
      rw [e]
      simp only [isC, decide_eq_false_iff_not]
      omega

theorem round_c {K : Int → Int → Int} (N : Net K) {n : Nat} {o : Int} {W X : Nat → List Int} (I : Inv K n o W) (J : Inv K n o X) (u : Nat) (h : ∀ v : Nat, v < n → K u v = 1 → SameC K (W v) (X v)) :
    SameC K (roundW K o n W u) (roundW K o n X u) := by
  unfold roundW
  by_cases e : (u : Int) = o
  · rw [if_pos e, if_pos e]; exact Or.inl rfl
  · rw [if_neg e, if_neg e]
    rcases sim N 1 (by omega) W X u n (fun v hv k0 k1 => by
        have r := N.rng u v
        have k2 : K u v = 1 := by omega
        exact like_of (n := n) (o := o) N (I v hv) (J v hv) (Or.inl k2) (h v hv k2)) n (Nat.le_refl _) with ⟨b, h1, h2, h3, h4, h5, h6⟩ | ⟨h1, h2⟩
    · refine Or.inl ?_
      unfold chosenW
      rw [h1, h2, Int.toNat_natCast, h6]
    · exact Or.inr ⟨chosen_no I u h1, chosen_no J u h2⟩

theorem round_all {K : Int → Int → Int} (N : Net K) {n : Nat} {o : Int} {W X : Nat → List Int} (I : Inv K n o W) (J : Inv K n o X) (u : Nat) (h : ∀ v : Nat, v < n → SameC K (W v) (X v)) (h3 : ∀ v : Nat, v < n → K u v = 3 → W v = X v) :
    roundW K o n W u = roundW K o n X u := by
  unfold roundW
  by_cases e : (u : Int) = o
  · rw [if_pos e, if_pos e]
  · rw [if_neg e, if_neg e]
    rcases sim N 3 (by omega) W X u n (fun v hv k0 k1 => by
        have r := N.rng u v
        by_cases k3 : K u v = 3
        · exact Or.inl (h3 v hv k3)
        · exact like_of (n := n) (o := o) N (I v hv) (J v hv) (by omega) (h v hv)) n (Nat.le_refl _) with ⟨b, h1, h2, h3, h4, h5, h6⟩ | ⟨h1, h2⟩
    · unfold chosenW
      rw [h1, h2, Int.toNat_natCast, h6]
    · have a := N.rng u (best K W u n)
      have b := N.rng u (best K X u n)
      unfold chosenW
      rw [if_pos (by omega), if_pos (by omega)]

theorem settle_c {K : Int → Int → Int} (N : Net K) {n : Nat} {o : Int} (ho : 0 ≤ o ∧ o < n) : ∀ j u k : Nat, u < n → n - u ≤ j → j ≤ k → SameC K (runs K o n (k + 1) u) (runs K o n k u) := by
  intro j
  induction j with
  | zero => intro u k hu hj; omega
  | succ j ih =>
    intro u k hu hj hk
    obtain ⟨k, rfl⟩ : ∃ m, k = m + 1 := ⟨k - 1, by omega⟩
    refine round_c N (runs_inv N ho (k + 1)) (runs_inv N ho k) u ?_
    intro v hv k1
    have := N.down u v k1
    exact ih v k hv (by omega) (by omega)

theorem settle_all {K : Int → Int → Int} (N : Net K) {n : Nat} {o : Int} (ho : 0 ≤ o ∧ o < n) : ∀ j u k : Nat, u < n → u < j → n + j ≤ k → runs K o n (k + 1) u = runs K o n k u := by
  intro j
  induction j with
  | zero => intro u k hu hj; omega
  | succ j ih =>
    intro u k hu hj hk
    obtain ⟨k, rfl⟩ : ∃ m, k = m + 1 := ⟨k - 1, by omega⟩
    refine round_all N (runs_inv N ho (k + 1)) (runs_inv N ho k) u ?_ ?_
    · intro v hv
      exact settle_c N ho n v k hv (by omega) (by omega)
    · intro v hv k3
      have b := N.back u v (by omega)
      have := N.down v u (by omega)
      exact ih v k hv (by omega) (by omega)

theorem settled {K : Int → Int → Int} (N : Net K) {n : Nat} {o : Int} (ho : 0 ≤ o ∧ o < n) (u k : Nat) (hu : u < n) (hk : 2 * n ≤ k) : runs K o n (k + 1) u = runs K o n k u := settle_all N ho n u k hu hu (by omega)
end Go.Proofs.Ytplcdbhklepkgaa.BestM
