/- PathGrows (as MPathA, of the texts of its own print):  what the small functions answer: sorting, striking doubles, 'lean', the check of a route. No condition. -/
import Derived.Test.YtplcdbhklepkgaaDoorVGroPGx
import Derived.Test.YtplcdbhklepkgaaDoorVGroNum
import Derived.Test.YtplcdbhklepkgaaDoorVGroMPathM
namespace Go.Proofs.YtplcdbhklepkgaaDoor.PG
open Go.RowKit Go.Proofs.YtplcdbhklepkgaaDoorW.PrintWords Go.Proofs.YtplcdbhklepkgaaDoorW.PrintLast Go.Proofs.YtplcdbhklepkgaaDoorW.PrintMore Go.Proofs.YtplcdbhklepkgaaDoor.Num Go.Proofs.YtplcdbhklepkgaaDoor.PathM
set_option linter.unusedVariables false
set_option linter.unusedSimpArgs false

theorem rdm (p s : List Int) (x : Int) : rd (p ++ x :: s) (p.length : Int) = x := by simp [rd]

/-! ### the sort -/
theorem less_s (a b : Int) : cmp_Less_int.f a b = some (decide (a < b)) := by
  simp only [cmp_Less_int.f, g15_.f, bne_self_eq_false, Option.bind_some, Bool.false_eq_true, if_false]
theorem swap_s (q r : List Int) (y x : Int) (j : Nat) (hj : j = q.length) : ((q ++ y :: x :: r).set (j + 1) y).set j x = q ++ x :: y :: r := by
  subst hj
  simp [List.set_append]
theorem l0_end (k : Nat) (xs : List Int) (n i : Int) (h : ¬ i < n) : g0_.l0 (k + 1) xs 0 n i = some xs := by
  rw [g0_.l0, if_neg h]
theorem l0_go (k : Nat) (xs : List Int) (n i : Int) (h : i < n) : g0_.l0 (k + 1) xs 0 n i = g0_.l1 k xs 0 n i i := by
  rw [g0_.l0, if_pos h]
theorem l1_end (k : Nat) (xs : List Int) (n i j : Int) (h : ¬ j > 0) : g0_.l1 (k + 1) xs 0 n i j = g0_.l0 k xs 0 n (wrap64 (i + 1)) := by
  rw [g0_.l1, if_neg h]
theorem l1_go (k : Nat) (xs : List Int) (n i : Int) (j : Nat) (hj : j + 1 < xs.length) (hx : xs.length ≤ 100) (x y : Int) (g1 : rd xs ((j : Int) + 1) = x) (g0 : rd xs (j : Int) = y) :
    g0_.l1 (k + 1) xs 0 n i ((j : Int) + 1) = if x < y then g0_.l1 k ((xs.set (j + 1) y).set j x) 0 n i (j : Int) else g0_.l0 k xs 0 n (wrap64 (i + 1)) := by
  rw [g0_.l1]
  have e : (j : Int) + 1 - 1 = (j : Int) := by omega
  rw [wrap64_id (x := (j : Int) + 1 - 1) (by omega) (by omega), e]
  rw [if_pos (by omega), if_pos (by omega), if_pos (by omega), if_pos (by omega), if_pos (by omega), g1, g0, less_s]
  have hn1 : ((j : Int) + 1).toNat = j + 1 := by omega
  rw [hn1, Int.toNat_natCast, Option.bind_some]
  simp only [decide_eq_true_eq]

theorem ins_s (n : Nat) (hn : n ≤ 12) : ∀ (m : Nat) (s : List Int), s.length = m →
    (∀ (p : List Int), (p ++ s).length = n → p.Pairwise (· ≤ ·) →
      ∃ k out, g0_.l0 k (p ++ s) 0 (n : Int) (p.length : Int) = some out ∧ out.Perm (p ++ s) ∧ out.Pairwise (· ≤ ·)) := by
  intro m
  induction m with
  | zero =>
    intro s hs p hl hp
    have : s = [] := List.eq_nil_of_length_eq_zero hs
    subst this
    simp only [List.append_nil] at hl ⊢
    refine ⟨1, p, ?_, List.Perm.refl _, hp⟩
    rw [l0_end _ _ _ _ (by omega)]
  | succ m ih =>
    intro s hs p hl hp
    obtain ⟨x, s, rfl⟩ : ∃ x s', s = x :: s' := by
      cases s with
      | nil => simp at hs
      | cons x s => exact ⟨x, s, rfl⟩
    have hs2 : s.length = m := by simpa using hs
    have hl2 : p.length + s.length + 1 = n := by simp at hl; omega
    have inner : ∀ (c : Nat) (q r : List Int), q.length = c → (q ++ r).length = p.length → (q ++ r).Pairwise (· ≤ ·) → (∀ y, y ∈ r → x ≤ y) → (q ++ r).Perm p →
        ∃ k out, g0_.l1 k (q ++ x :: r ++ s) 0 (n : Int) (p.length : Int) (q.length : Int) = some out ∧ out.Perm (p ++ x :: s) ∧ out.Pairwise (· ≤ ·) := by
      have fin : ∀ (q r : List Int), (q ++ r).length = p.length → (q ++ x :: r).Pairwise (· ≤ ·) → (q ++ r).Perm p →
          ∃ k out, g0_.l0 k (q ++ x :: r ++ s) 0 (n : Int) (wrap64 ((p.length : Int) + 1)) = some out ∧ out.Perm (p ++ x :: s) ∧ out.Pairwise (· ≤ ·) := by
        intro q r hl3 hpw hpm
        have hl4 : (q ++ x :: r).length = p.length + 1 := by simp at hl3 ⊢; omega
        obtain ⟨k, out, h1, h2, h3⟩ := ih s hs2 (q ++ x :: r) (by simp at hl4 ⊢; omega) hpw
        refine ⟨k, out, ?_, ?_, h3⟩
        · rw [wrap64_id (by omega) (by omega)]
          rw [hl4] at h1
          exact h1
        · refine h2.trans ?_
          have h5 : (q ++ x :: r).Perm (x :: (q ++ r)) := List.perm_middle
          have h6 : (p ++ x :: s).Perm (x :: (p ++ s)) := List.perm_middle
          refine List.Perm.trans (List.Perm.append_right s (h5.trans (List.Perm.cons x hpm))) ?_
          exact h6.symm
      intro c
      induction c with
      | zero =>
        intro q r hq hl3 hpw hle hpm
        obtain rfl : q = [] := List.eq_nil_of_length_eq_zero hq
        obtain ⟨k, out, h1, h2, h3⟩ := fin [] r hl3 (List.pairwise_cons.mpr ⟨hle, hpw⟩) hpm
        refine ⟨k + 1, out, ?_, h2, h3⟩
        rw [l1_end _ _ _ _ _ (by simp)]
        exact h1
      | succ c ihc =>
        intro q r hq hl3 hpw hle hpm
        obtain ⟨q, y, rfl⟩ : ∃ q' y, q = q' ++ [y] := by
          rcases List.eq_nil_or_concat q with rfl | ⟨q', y, rfl⟩
          · simp at hq
          · exact ⟨q', y, by simp⟩
        have hq2 : q.length = c := by simpa using hq
        have hl5 : q.length + 1 + r.length = p.length := by simp at hl3; omega
        have form : q ++ [y] ++ x :: r ++ s = q ++ y :: x :: (r ++ s) := by simp
        have g1 : rd (q ++ y :: x :: (r ++ s)) ((q.length : Int) + 1) = x := by
          have := rdm (q ++ [y]) (r ++ s) x
          simpa using this
        have g0 : rd (q ++ y :: x :: (r ++ s)) (q.length : Int) = y := rdm q (x :: (r ++ s)) y
        have le1 : (((q ++ [y]).length : Nat) : Int) = (q.length : Int) + 1 := by simp
        have step := fun k => l1_go k (q ++ y :: x :: (r ++ s)) (n : Int) (p.length : Int) q.length (by simp) (by simp; omega) x y g1 g0
        by_cases hc : x < y
        · have hpw2 : (q ++ (y :: r)).Pairwise (· ≤ ·) := by simpa using hpw
          obtain ⟨k, out, h1, h2, h3⟩ := ihc q (y :: r) hq2 (by simp; omega) hpw2 (by
            intro z hz
            rcases List.mem_cons.mp hz with rfl | hz
            · omega
            · exact hle z hz) (by simpa using hpm)
          refine ⟨k + 1, out, ?_, h2, h3⟩
          rw [form, le1, step k, if_pos hc, swap_s q (r ++ s) y x q.length rfl]
          simpa using h1
        · have hpw3 : (q ++ [y] ++ x :: r).Pairwise (· ≤ ·) := by
            rw [List.pairwise_append] at hpw ⊢
            refine ⟨hpw.1, List.pairwise_cons.mpr ⟨hle, hpw.2.1⟩, ?_⟩
            intro a ha b hb
            rcases List.mem_cons.mp hb with rfl | hb
            · rcases List.mem_append.mp ha with ha | ha
              · have h7 := (List.pairwise_append.mp hpw.1).2.2 a ha y (by simp)
                omega
              · simp at ha; omega
            · exact hpw.2.2 a ha b hb
          obtain ⟨k, out, h1, h2, h3⟩ := fin (q ++ [y]) r hl3 hpw3 hpm
          refine ⟨k + 1, out, ?_, h2, h3⟩
          rw [form] at h1
          rw [form, le1, step k, if_neg hc]
          exact h1
    obtain ⟨k, out, h1, h2, h3⟩ := inner p.length p [] rfl (by simp) (by simpa using hp) (by simp) (by simp)
    refine ⟨k + 1, out, ?_, h2, h3⟩
    rw [l0_go _ _ _ _ (by omega)]
    simpa using h1

theorem sort_s (l : List Int) (hl : l.length ≤ 4) : ∃ k out, g13_.f k l = some out ∧ out.Perm l ∧ out.Pairwise (· ≤ ·) := by
  have hu : IntKind.u64.wrap (l.length : Int) = (l.length : Int) := by rw [wrap_u64]; omega
  have hb : ∃ b, bits_Len.f (IntKind.u64.wrap (l.length : Int)) = some b := by
    rw [hu]; unfold bits_Len.f
    rw [if_pos (by omega), if_pos (by omega)]
    exact ⟨_, rfl⟩
  obtain ⟨b, hb⟩ := hb
  have key : ∃ k out, g0_.l0 k l 0 (l.length : Int) 1 = some out ∧ out.Perm l ∧ out.Pairwise (· ≤ ·) := by
    cases l with
    | nil => exact ⟨1, [], by rw [l0_end _ _ _ _ (by simp)], List.Perm.refl _, List.Pairwise.nil⟩
    | cons x l =>
      obtain ⟨k, out, h1, h2, h3⟩ := ins_s (x :: l).length (by omega) l.length l rfl [x] (by simp) (by simp)
      exact ⟨k, out, by simpa using h1, by simpa using h2, h3⟩
  obtain ⟨k, out, h1, h2, h3⟩ := key
  refine ⟨k + 2, out, ?_, h2, h3⟩
  unfold g13_.f
  rw [hb, Option.bind_some, g8_.f, g8_.l0]
  rw [wrap64_id (x := (l.length : Int) - 0) (by omega) (by omega), if_pos (by omega)]
  unfold g0_.f
  have w1 : wrap64 (0 + 1) = 1 := wrap64_id (by omega) (by omega)
  rw [w1, h1]
  rfl

/-! ### doubles struck -/
theorem comp_1 (Q : Int → Prop) (n : Nat) (hn : n ≤ 50) (i : Nat) (hi : i < n) (x4 : List Int) (h4 : x4.length + i = n) (s4 : x4.Pairwise (· ≤ ·)) (q4 : ∀ z, z ∈ x4 → Q z) :
    ∀ (d j : Nat) (x0 out : List Int) (k : Nat), j + d = x4.length → 1 ≤ j → d < k → x0.length = n → out.length ≤ i + (j - 1) → x0.take out.length = out → out.Pairwise (· < ·) → (∀ z, z ∈ out → Q z) → (∃ o, out = o ++ [rd x4 ((j : Int) - 1)]) →
      ∃ r, g5_.l1 k x0 (out.length : Int) x4 (j : Int) = some r ∧ r.Pairwise (· < ·) ∧ (∀ z, z ∈ r → Q z) ∧ r.length ≤ n := by
  intro d
  induction d with
  | zero =>
    intro j x0 out k hj h1 hk hx ho ht hp hq _
    obtain ⟨k, rfl⟩ : ∃ m, k = m + 1 := ⟨k - 1, by omega⟩
    rw [g5_.l1, if_neg (by omega), if_pos (by omega), if_pos (by omega)]
    refine ⟨out, ?_, hp, hq, by omega⟩
    simp only [Option.bind_some, Int.toNat_natCast]
    rw [ht, if_pos (by simp; omega)]
    congr 1
    rw [List.take_append_of_le_length (Nat.le_refl _), List.take_length]
  | succ d ih =>
    intro j x0 out k hj h1 hk hx ho ht hp hq hl
    obtain ⟨k, rfl⟩ : ∃ m, k = m + 1 := ⟨k - 1, by omega⟩
    have e2 : (j : Int) + 1 = ((j + 1 : Nat) : Int) := by omega
    have e1 : ((j + 1 : Nat) : Int) - 1 = (j : Int) := by omega
    have f1 : (j : Int) < (x4.length : Int) := by omega
    have f2 : 0 ≤ (j : Int) := by omega
    have f3 : 0 ≤ (j : Int) - 1 := by omega
    have f4 : (j : Int) - 1 < (x4.length : Int) := by omega
    rw [g5_.l1, if_pos f1, if_pos f2, wrap64_id (x := (j : Int) - 1) (by omega) (by omega), if_pos f3, if_pos f4, wrap64_id (x := (j : Int) + 1) (by omega) (by omega), e2]
    obtain ⟨o, ho2⟩ := hl
    have get : ∀ m : Nat, (hm : m < x4.length) → rd x4 (m : Int) = x4[m] := by
      intro m hm
      unfold rd
      rw [Int.toNat_natCast, List.getD_eq_getElem?_getD, List.getElem?_eq_getElem hm]
      rfl
    have gj := get j (by omega)
    have gj1 : rd x4 ((j : Int) - 1) = x4[j - 1] := by
      have := get (j - 1) (by omega)
      rwa [show (((j - 1 : Nat)) : Int) = (j : Int) - 1 from by omega] at this
    have le := (List.pairwise_iff_getElem.mp s4) (j - 1) j (by omega) (by omega) (by omega)
    by_cases c : rd x4 (j : Int) = rd x4 ((j : Int) - 1)
    · rw [if_pos c]
      exact ih (j + 1) x0 out k (by omega) (by omega) (by omega) hx (by omega) ht hp hq ⟨o, by rw [e1, c]; exact ho2⟩
    · have f5 : 0 ≤ (out.length : Int) := by omega
      have f6 : (out.length : Int) < (x0.length : Int) := by omega
      rw [if_neg c, if_pos f5, if_pos f6]
      rw [wrap64_id (x := (out.length : Int) + 1) (by omega) (by omega), show (out.length : Int) + 1 = ((out ++ [rd x4 (j : Int)]).length : Int) from by simp, Int.toNat_natCast]
      refine ih (j + 1) (x0.set out.length (rd x4 (j : Int))) (out ++ [rd x4 (j : Int)]) k (by omega) (by omega) (by omega) (by simpa using hx) (by simp; omega) ?_ ?_ ?_ ⟨out, by rw [e1]⟩
      · rw [List.length_append, List.length_singleton]
        rw [List.take_set, List.take_add_one, ht]
        have : x0[out.length]? = some x0[out.length] := List.getElem?_eq_getElem (by omega)
        rw [this]
        simp
      · rw [List.pairwise_append]
        refine ⟨hp, by simp, ?_⟩
        intro a ha b hb
        rw [List.mem_singleton] at hb
        subst hb
        have : a ≤ rd x4 ((j : Int) - 1) := by
          rw [ho2] at ha hp
          rcases List.mem_append.mp ha with ha | ha
          · have := (List.pairwise_append.mp hp).2.2 a ha _ (List.mem_singleton.mpr rfl); omega
          · rw [List.mem_singleton] at ha; omega
        omega
      · intro z hz
        rcases List.mem_append.mp hz with hz | hz
        · exact hq z hz
        · rw [List.mem_singleton] at hz
          rw [hz, gj]
          exact q4 _ (List.getElem_mem _)

theorem comp_0 (Q : Int → Prop) (l : List Int) (hn : l.length ≤ 50) (sl : l.Pairwise (· ≤ ·)) (ql : ∀ z, z ∈ l → Q z) : ∀ (d i k : Nat), i + d = l.length → 1 ≤ i → d + 100 < k → (l.take i).Pairwise (· < ·) →
    ∃ r, g5_.l0 k l (i : Int) = some r ∧ r.Pairwise (· < ·) ∧ (∀ z, z ∈ r → Q z) ∧ r.length ≤ l.length := by
  intro d
  induction d with
  | zero =>
    intro i k hi h1 hk hp
    obtain ⟨k, rfl⟩ : ∃ m, k = m + 1 := ⟨k - 1, by omega⟩
    rw [g5_.l0, if_neg (by omega)]
    rw [List.take_of_length_le (by omega)] at hp
    exact ⟨l, rfl, hp, ql, Nat.le_refl _⟩
  | succ d ih =>
    intro i k hi h1 hk hp
    obtain ⟨k, rfl⟩ : ∃ m, k = m + 1 := ⟨k - 1, by omega⟩
    have e2 : (i : Int) + 1 = ((i + 1 : Nat) : Int) := by omega
    have get : ∀ m : Nat, (hm : m < l.length) → rd l (m : Int) = l[m] := by
      intro m hm
      unfold rd
      rw [Int.toNat_natCast, List.getD_eq_getElem?_getD, List.getElem?_eq_getElem hm]
      rfl
    have gi := get i (by omega)
    have gi1 : rd l ((i : Int) - 1) = l[i - 1] := by
      have := get (i - 1) (by omega)
      rwa [show (((i - 1 : Nat)) : Int) = (i : Int) - 1 from by omega] at this
    have le := (List.pairwise_iff_getElem.mp sl) (i - 1) i (by omega) (by omega) (by omega)
    have tk : l.take (i - 1 + 1) = l.take (i - 1) ++ [l[i - 1]] := by
      rw [List.take_add_one, List.getElem?_eq_getElem (by omega)]; rfl
    have tk1 : l.take i = l.take (i - 1) ++ [l[i - 1]] := by rw [← tk]; congr 1; omega
    have f1 : (i : Int) < (l.length : Int) := by omega
    have f2 : 0 ≤ (i : Int) := by omega
    have f3 : 0 ≤ (i : Int) - 1 := by omega
    have f4 : (i : Int) - 1 < (l.length : Int) := by omega
    rw [g5_.l0, if_pos f1, if_pos f2, wrap64_id (x := (i : Int) - 1) (by omega) (by omega), if_pos f3, if_pos f4, wrap64_id (x := (i : Int) + 1) (by omega) (by omega), e2]
    by_cases c : rd l (i : Int) = rd l ((i : Int) - 1)
    · rw [if_pos c, if_pos (by omega), Int.toNat_natCast]
      have h0 : rd (l.drop i) ((1 : Int) - 1) = l[i] := by
        have hd : l.drop i = l[i] :: l.drop (i + 1) := List.drop_eq_getElem_cons (by omega)
        rw [hd]; rfl
      have lt : (l.take i).length = i := by simp; omega
      obtain ⟨r, r1, r2, r3, r4⟩ := comp_1 Q l.length hn i (by omega) (l.drop i) (by simp; omega) (sl.sublist (List.drop_sublist _ _)) (fun z hz => ql z (List.mem_of_mem_drop hz)) (l.length - i - 1) 1 l (l.take i) k (by simp; omega) (Nat.le_refl _) (by omega) rfl (by omega) (by rw [lt]) hp (fun z hz => ql z (List.mem_of_mem_take hz))
        ⟨l.take (i - 1), by rw [show (((1 : Nat) : Int)) = 1 from rfl, h0, tk1, ← gi1, ← c, gi]⟩
      rw [lt] at r1
      exact ⟨r, r1, r2, r3, r4⟩
    · rw [if_neg c]
      refine ih (i + 1) k (by omega) (by omega) (by omega) ?_
      rw [List.take_add_one, List.getElem?_eq_getElem (by omega), List.pairwise_append]
      refine ⟨hp, by simp, ?_⟩
      intro a ha b hb
      simp at hb
      subst hb
      have : a ≤ l[i - 1] := by
        rw [tk1] at ha hp
        rcases List.mem_append.mp ha with ha | ha
        · have := (List.pairwise_append.mp hp).2.2 a ha _ (List.mem_singleton.mpr rfl); omega
        · rw [List.mem_singleton] at ha; omega
      omega

theorem compact_s (Q : Int → Prop) (l : List Int) (hn : l.length ≤ 50) (sl : l.Pairwise (· ≤ ·)) (ql : ∀ z, z ∈ l → Q z) (k : Nat) (hk : 200 ≤ k) :
    ∃ r, g5_.f k l = some r ∧ r.Pairwise (· < ·) ∧ (∀ z, z ∈ r → Q z) ∧ r.length ≤ l.length := by
  unfold g5_.f
  by_cases c : (l.length : Int) < 2
  · rw [if_pos c]
    refine ⟨l, rfl, ?_, ql, Nat.le_refl _⟩
    match l, c with
    | [], _ => exact List.Pairwise.nil
    | [x], _ => simp
    | x :: y :: t, c => simp at c; omega
  · rw [if_neg c]
    refine comp_0 Q l hn sl ql (l.length - 1) 1 k (by omega) (by omega) (by omega) ?_
    match l, c with
    | [], _ => simp
    | x :: t, _ => simp
end Go.Proofs.YtplcdbhklepkgaaDoor.PG
