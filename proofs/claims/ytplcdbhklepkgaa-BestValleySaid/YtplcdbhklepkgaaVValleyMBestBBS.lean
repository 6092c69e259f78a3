/- BestSettles, BestValley, the plain law: the table of ties, and a round. No condition. -/
import Derived.Test.YtplcdbhklepkgaaVValleyMBestABS
namespace Go.Proofs.Ytplcdbhklepkgaa.BS
open Go.RowKit Go.Proofs.YtplcdbhklepkgaaW.PrintWords Go.Proofs.YtplcdbhklepkgaaW.PrintLast Go.Proofs.YtplcdbhklepkgaaW.PrintMore Go.Proofs.Ytplcdbhklepkgaa.Num Go.Proofs.Ytplcdbhklepkgaa.BestM
set_option linter.unusedVariables false
set_option linter.unusedSimpArgs false

def rel : List S71 → Int → Int → Int
  | [], _, _ => 0
  | x :: L, u, v => if x.f0 = u ∧ x.f1 = v then x.f2 else if x.f0 = v ∧ x.f1 = u then 4 - x.f2 else rel L u v
theorem rel_cons (x : S71) (L : List S71) (u v : Int) : rel (x :: L) u v = if x.f0 = u ∧ x.f1 = v then x.f2 else if x.f0 = v ∧ x.f1 = u then 4 - x.f2 else rel L u v := rfl
structure LinkOk (n : Nat) (x : S71) : Prop where
  a0 : 0 ≤ x.f0
  ab : x.f0 < x.f1
  b1 : x.f1 < n
  k1 : 1 ≤ x.f2
  k2 : x.f2 ≤ 2
  p0 : x.f3 = 0
  q0 : x.f4 = 0
structure Links (n : Nat) (L : List S71) : Prop where
  ok : ∀ x, x ∈ L → LinkOk n x
  apart : L.Pairwise (fun x y => ¬ (x.f0 = y.f0 ∧ x.f1 = y.f1))

theorem Links.tail {n : Nat} {x : S71} {L : List S71} (h : Links n (x :: L)) : Links n L := ⟨fun y hy => h.ok y (List.mem_cons_of_mem _ hy), (List.pairwise_cons.mp h.apart).2⟩

theorem rel_net (n : Nat) : ∀ (L : List S71), Links n L → Net (rel L)
  | [], _ => ⟨fun _ _ => ⟨Int.le_refl _, by simp [rel]⟩, fun _ _ h => absurd rfl h, fun _ _ h => absurd h (by simp [rel])⟩
  | x :: L, h => by
    have ih := rel_net n L h.tail
    have ok := h.ok x (by simp)
    obtain ⟨a0, ab, b1, k1, k2, _, _⟩ := ok
    refine ⟨fun u v => ?_, fun u v hn => ?_, fun u v h1 => ?_⟩
    · have := ih.rng u v
      simp only [rel]
      (repeat' split) <;> omega
    · have := ih.back u v
      simp only [rel] at hn ⊢
      by_cases c1 : x.f0 = u ∧ x.f1 = v
      · rw [if_pos c1] at hn ⊢
        rw [if_neg (by omega), if_pos c1]
      · by_cases c2 : x.f0 = v ∧ x.f1 = u
        · rw [if_neg c1, if_pos c2] at hn ⊢
          rw [if_pos c2]; omega
        · rw [if_neg c1, if_neg c2] at hn ⊢
          rw [if_neg c2, if_neg c1]
          exact this hn
    · have := ih.down u v
      simp only [rel] at h1
      by_cases c1 : x.f0 = u ∧ x.f1 = v
      · omega
      · by_cases c2 : x.f0 = v ∧ x.f1 = u
        · rw [if_neg c1, if_pos c2] at h1; omega
        · rw [if_neg c1, if_neg c2] at h1; exact this h1

theorem rel_none (n : Nat) (x : S71) (hx : x.f0 < x.f1) : ∀ (L : List S71), Links n L → (∀ y, y ∈ L → ¬ (x.f0 = y.f0 ∧ x.f1 = y.f1)) → rel L x.f0 x.f1 = 0 ∧ rel L x.f1 x.f0 = 0
  | [], _, _ => ⟨rfl, rfl⟩
  | y :: L, h, d => by
    have ih := rel_none n x hx L h.tail (fun z hz => d z (List.mem_cons_of_mem _ hz))
    have dy := d y (by simp)
    have ok := (h.ok y (by simp)).ab
    simp only [rel]
    rw [if_neg (by omega), if_neg (by omega), if_neg (by omega), if_neg (by omega)]
    exact ih

theorem rd_set (acc : List S64) (i j : Int) (z : S64) (hi : 0 ≤ i) (hl : i < acc.length) (hj : 0 ≤ j) : rd_T64 (acc.set i.toNat z) j = if i = j then z else rd_T64 acc j := by
  unfold rd_T64
  rw [List.getD_eq_getElem?_getD, List.getD_eq_getElem?_getD, List.getElem?_set]
  by_cases h : i = j
  · subst h
    rw [if_pos rfl, if_pos (by omega), if_pos rfl]
    rfl
  · rw [if_neg (by omega), if_neg h]

theorem ties_l (n : Nat) (hn : n ≤ 16) (k : Nat) (hk : 3 ≤ k) : ∀ (L : List S71), Links n L → ∀ acc : List S64, acc.length = 256 →
    ∃ t, best_ties.fold k L acc = some t ∧ t.length = 256 ∧ ∀ u v : Int, 0 ≤ u → u < 16 → 0 ≤ v → v < 16 → rd_T64 t (16 * u + v) = if rel L u v = 0 then rd_T64 acc (16 * u + v) else ⟨rel L u v, 400 - 100 * rel L u v⟩
  | [], _, acc, ha => ⟨acc, rfl, ha, fun u v _ _ _ _ => by simp [rel]⟩
  | x :: L, h, acc, ha => by
    obtain ⟨a0, ab, b1, k1, k2, p0, q0⟩ := h.ok x (by simp)
    have none := rel_none n x ab L h.tail (fun y hy => (List.pairwise_cons.mp h.apart).1 y hy)
    have net := rel_net n L h.tail
    have s : best_ties.step k acc x = some ((acc.set (16 * x.f0 + x.f1).toNat ⟨x.f2, 400 - 100 * x.f2⟩).set (16 * x.f1 + x.f0).toNat ⟨4 - x.f2, 400 - 100 * (4 - x.f2)⟩) := by
      unfold best_ties.step best_ties.put
      rw [p0, q0, wrap64_id (x := 4 - x.f2) (by omega) (by omega), usual_of (by omega) (by omega), usual_of (by omega) (by omega)]
      simp only [Option.bind_some]
      rw [or_k k hk, or_k k hk]
      simp only [Option.bind_some]
      rw [if_pos (by omega), if_pos (by omega), if_pos (by omega), if_pos (by omega), if_pos ha]
      simp only [Option.bind_some]
      rw [if_pos (by omega), if_pos (by omega), if_pos (by omega), if_pos (by omega), if_pos (by rw [List.length_set]; exact ha)]
    obtain ⟨t, t1, t2, t3⟩ := ties_l n hn k hk L h.tail ((acc.set (16 * x.f0 + x.f1).toNat ⟨x.f2, 400 - 100 * x.f2⟩).set (16 * x.f1 + x.f0).toNat ⟨4 - x.f2, 400 - 100 * (4 - x.f2)⟩) (by simp [ha])
    refine ⟨t, ?_, t2, ?_⟩
    · unfold best_ties.fold
      rw [s]; exact t1
    · intro u v u0 u1 v0 v1
      rw [t3 u v u0 u1 v0 v1, rd_set _ _ _ _ (by omega) (by rw [List.length_set, ha]; omega) (by omega), rd_set _ _ _ _ (by omega) (by rw [ha]; omega) (by omega)]
      by_cases c1 : x.f0 = u ∧ x.f1 = v
      · have rc : rel (x :: L) u v = x.f2 := by rw [rel_cons, if_pos c1]
        obtain ⟨rfl, rfl⟩ := c1
        rw [if_pos none.1, if_neg (by omega), if_pos rfl, rc, if_neg (by omega)]
      · by_cases c2 : x.f0 = v ∧ x.f1 = u
        · have rc : rel (x :: L) u v = 4 - x.f2 := by rw [rel_cons, if_neg c1, if_pos c2]
          obtain ⟨rfl, rfl⟩ := c2
          rw [if_pos none.2, if_pos rfl, rc, if_neg (by omega)]
        · have rc : rel (x :: L) u v = rel L u v := by rw [rel_cons, if_neg c1, if_neg c2]
          rw [rc]
          by_cases r0 : rel L u v = 0
          · rw [if_pos r0, if_pos r0, if_neg (by omega), if_neg (by omega)]
          · rw [if_neg r0, if_neg r0]

structure Tab (K : Int → Int → Int) (t : List S64) : Prop where
  len : t.length = 256
  kd : ∀ u v : Int, 0 ≤ u → u < 16 → 0 ≤ v → v < 16 → (rd_T64 t (16 * u + v)).f0 = K u v
  pf : ∀ u v : Int, 0 ≤ u → u < 16 → 0 ≤ v → v < 16 → K u v ≠ 0 → (rd_T64 t (16 * u + v)).f1 = 400 - 100 * K u v

theorem rd_zero (i : Int) (h0 : 0 ≤ i) (h1 : i < 256) : rd_T64 (List.replicate 256 z64) i = z64 := by
  unfold rd_T64
  rw [List.getD_eq_getElem?_getD, List.getElem?_replicate]
  rw [if_pos (by omega)]
  rfl

theorem ties_s (n : Nat) (hn : n ≤ 16) (k : Nat) (hk : 3 ≤ k) (a : Int) (L : List S71) (h : Links n L) : ∃ t, best_ties.f k a L = some t ∧ Tab (rel L) t := by
  obtain ⟨t, t1, t2, t3⟩ := ties_l n hn k hk L h (List.replicate 256 z64) List.length_replicate
  refine ⟨t, t1, t2, ?_, ?_⟩
  · intro u v u0 u1 v0 v1
    rw [t3 u v u0 u1 v0 v1, rd_zero _ (by omega) (by omega)]
    by_cases r0 : rel L u v = 0
    · rw [if_pos r0, r0]; rfl
    · rw [if_neg r0]
  · intro u v u0 u1 v0 v1 r0
    rw [t3 u v u0 u1 v0 v1, if_neg r0]

theorem exported_s {K : Int → Int → Int} {t : List S64} (T : Tab K t) (w : List Int) (hw : w ≠ []) (hb : ∀ x, x ∈ w → 0 ≤ x ∧ x < 16) (u : Int) (u0 : 0 ≤ u) (u1 : u < 16) : g25_.f t w u = some (expo K w u) := by
  have len := T.len
  cases w with
  | nil => exact absurd rfl hw
  | cons a s =>
    have ha := hb a (by simp)
    have r0 : rd (a :: s) 0 = a := rfl
    unfold g25_.f expo
    rw [if_pos (by rw [List.length_cons]; omega), r0]
    cases s with
    | nil => simp [isC]
    | cons b s =>
      have hb := hb b (by simp)
      have r1 : rd (a :: b :: s) 1 = b := rfl
      rw [if_neg (by simp; omega), if_pos (by simp; omega), if_pos (by omega), if_pos (by omega), r1, if_pos (by omega), if_pos (by omega), if_pos (by omega), T.kd a b (by omega) (by omega) (by omega) (by omega)]
      simp only [isC, List.headD_cons]
      by_cases c : K a b = 1
      · rw [if_pos c]; simp [c]
      · rw [if_neg c, if_pos u0, if_pos u1, if_pos (by omega), T.kd a u (by omega) (by omega) (by omega) (by omega)]
        simp [c]
        rfl

/-- What a state must be like for a round. -/
structure Fit (n : Nat) (W : Nat → List Int) (l : List S52) : Prop where
  len : l.length = n
  at_ : ∀ v : Nat, v < n → (rd_T52 l (v : Int)).f0 = W v
  rng : ∀ v : Nat, v < n → ∀ x, x ∈ W v → 0 ≤ x ∧ x < 16
  short : ∀ v : Nat, v < n → (W v).length < 100

theorem chosen_l {K : Int → Int → Int} {t : List S64} (T : Tab K t) {n : Nat} (hn : n ≤ 16) {W : Nat → List Int} {l : List S52} (F : Fit n W l) (u : Nat) (hu : u < n) :
    ∀ d i k : Nat, i + d = n → 2 * d + 120 ≤ k → best_chosen.l0 k (u : Int) l (best K W u i) l (n : Int) (i : Int) t = some (chosenW K W u n) := by
  intro d
  have len := T.len
  have ll := F.len
  induction d with
  | zero =>
    intro i k hi hk
    obtain ⟨k, rfl⟩ : ∃ m, k = m + 1 := ⟨k - 1, by omega⟩
    obtain rfl : i = n := by omega
    rw [best_chosen.l0, if_neg (by omega)]
    unfold chosenW
    rcases best_some K W u i with h | ⟨v, h1, h2, h3⟩
    · rw [h]; rfl
    · have e : ¬ ((v : Int) < 0) := by omega
      rw [h1]
      simp only [if_neg e]
      rw [if_pos (by omega), if_pos (by omega), Int.toNat_natCast, F.at_ v h2, concat_s k (by omega) _ _ (F.short v h2)]
      rfl
  | succ d ih =>
    intro i k hi hk
    obtain ⟨k, rfl⟩ : ∃ m, k = m + 2 := ⟨k - 2, by omega⟩
    have hin : i < n := by omega
    have wr : wrap64 ((i : Int) + 1) = ((i + 1 : Nat) : Int) := by rw [wrap64_id (by omega) (by omega)]; omega
    have go : best_chosen.l0 (k + 2) (u : Int) l (best K W u i) l (n : Int) (i : Int) t = best_chosen.j1 (k + 1) (u : Int) l (best K W u i) (i : Int) l (n : Int) (i : Int) (!(cand K u i (W i))) t (W i) := by
      rw [best_chosen.l0]
      rw [if_pos (by omega), if_pos (by omega), if_pos (by omega), if_pos (by omega), if_pos (by omega), if_pos (by omega), if_pos (by omega), T.kd u i (by omega) (by omega) (by omega) (by omega), F.at_ i hin]
      by_cases c0 : K u i = 0
      · rw [if_pos c0]; simp [cand, c0]
      · rw [if_neg c0]
        by_cases c1 : W i = []
        · rw [if_pos (by rw [c1]; rfl)]; simp [cand, c1]
        · rw [if_neg (by intro e; exact c1 (List.eq_nil_of_length_eq_zero (by omega)))]
          have sh := F.short i hin
          rw [contains_s (k + 1) (W i) u (by omega) (by omega)]
          simp only [Option.bind_some, decide_eq_true_eq]
          by_cases c2 : (u : Int) ∈ W i
          · rw [if_pos c2]; simp [cand, c2]
          · rw [if_neg c2, exported_s T (W i) c1 (F.rng i hin) u (by omega) (by omega)]
            simp [cand, c0, c1, c2]
    have next := ih (i + 1) k (by omega) (by omega)
    rw [go, best_chosen.j1, wr]
    show _ = _
    have st : best K W u (i + 1) = stepc K W u (best K W u i) i := rfl
    rw [st] at next
    unfold stepc at next
    by_cases c : cand K u i (W i) = true
    · rw [if_pos c] at next
      rw [c, if_neg (by decide)]
      have k0 := (cand_iff.mp c).1
      rcases best_some K W u i with h | ⟨v, h1, h2, h3⟩
      · rw [h] at next ⊢
        rw [if_pos (by omega)] at next ⊢
        exact next
      · have k1 := (cand_iff.mp h3).1
        rw [h1] at next ⊢
        rw [if_neg (by omega)] at next ⊢
        rw [if_pos (by omega), if_pos (by omega), if_pos (by omega), if_pos (by omega), if_pos (by omega), if_pos (by omega), if_pos (by omega), if_pos (by omega), T.pf u i (by omega) (by omega) (by omega) (by omega) k0, T.pf u v (by omega) (by omega) (by omega) (by omega) k1]
        by_cases g1 : K u i < K u v
        · rw [if_pos g1] at next
          rw [if_pos (by omega)]
          exact next
        · rw [if_neg g1] at next
          rw [if_neg (by omega)]
          by_cases g2 : K u i = K u v
          · rw [if_pos g2, Int.toNat_natCast] at next
            rw [if_pos (by omega), if_pos (by omega), F.at_ v (by omega)]
            by_cases g3 : (W i).length < (W v).length
            · rw [if_pos g3] at next
              rw [if_pos (by omega)]
              exact next
            · rw [if_neg g3] at next
              rw [if_neg (by omega)]
              exact next
          · rw [if_neg g2] at next
            rw [if_neg (by omega)]
            exact next
    · rw [if_neg c] at next
      have c' : cand K u i (W i) = false := by simpa using c
      rw [c', if_pos (by decide)]
      exact next

theorem chosen_s {K : Int → Int → Int} {t : List S64} (T : Tab K t) {n : Nat} (hn : n ≤ 16) {W : Nat → List Int} {l : List S52} (F : Fit n W l) (u : Nat) (hu : u < n) (k : Nat) (hk : 200 ≤ k) : best_chosen.f k t (u : Int) l = some (chosenW K W u n) := by
  unfold best_chosen.f
  rw [F.len]
  exact chosen_l T hn F u hu n 0 k (by omega) (by omega)

def pack (n : Nat) (W : Nat → List Int) : List S52 := (List.range n).map fun u => ⟨W u⟩
theorem pack_len (n : Nat) (W : Nat → List Int) : (pack n W).length = n := by simp [pack]
theorem pack_at {n : Nat} {W : Nat → List Int} (v : Nat) (hv : v < n) : rd_T52 (pack n W) (v : Int) = ⟨W v⟩ := by
  unfold rd_T52 pack
  rw [List.getD_eq_getElem?_getD, Int.toNat_natCast, List.getElem?_map, List.getElem?_range hv]
  rfl
theorem pack_eq {n : Nat} {W X : Nat → List Int} (h : ∀ v, v < n → W v = X v) : pack n W = pack n X := by
  unfold pack
  apply List.map_congr_left
  intro v hv
  rw [h v (List.mem_range.mp hv)]

theorem round_l {K : Int → Int → Int} {t : List S64} (T : Tab K t) {n : Nat} (hn : n ≤ 16) {W : Nat → List Int} {l : List S52} (F : Fit n W l) (o : Int) :
    ∀ d i k : Nat, i + d = n → d + 220 ≤ k → best_round.l0 k o l (pack i (roundW K o n W) ++ List.replicate d z52) (n : Int) (i : Int) t = some (pack n (roundW K o n W)) := by
  intro d
  induction d with
  | zero =>
    intro i k hi hk
    obtain ⟨k, rfl⟩ : ∃ m, k = m + 1 := ⟨k - 1, by omega⟩
    obtain rfl : i = n := by omega
    rw [best_round.l0, if_neg (by omega)]
    simp
  | succ d ih =>
    intro i k hi hk
    obtain ⟨k, rfl⟩ : ∃ m, k = m + 1 := ⟨k - 1, by omega⟩
    have hin : i < n := by omega
    have wr : wrap64 ((i : Int) + 1) = ((i + 1 : Nat) : Int) := by rw [wrap64_id (by omega) (by omega)]; omega
    have ln : (pack i (roundW K o n W) ++ List.replicate (d + 1) z52).length = n := by simp [pack_len]; omega
    have st : ∀ x : List Int, x = roundW K o n W i → (pack i (roundW K o n W) ++ List.replicate (d + 1) z52).set i (⟨x⟩ : S52) = pack (i + 1) (roundW K o n W) ++ List.replicate d z52 := by
      intro x hx
      rw [List.set_append_right _ _ (by rw [pack_len]; omega), pack_len, Nat.sub_self, List.replicate_succ, List.set_cons_zero, hx]
      unfold pack
      rw [List.range_succ, List.map_append]
      simp
    have next := ih (i + 1) k (by omega) (by omega)
    rw [best_round.l0, if_pos (by omega), wr]
    by_cases c : (i : Int) = o
    · rw [if_pos c, if_pos (by omega), if_pos (by rw [ln]; omega), Int.toNat_natCast, st [o] (by unfold roundW; rw [if_pos c])]
      exact next
    · rw [if_neg c, chosen_s T hn F i hin k (by omega)]
      simp only [Option.bind_some]
      rw [if_pos (by omega), if_pos (by rw [ln]; omega), Int.toNat_natCast, st (chosenW K W i n) (by unfold roundW; rw [if_neg c])]
      exact next

theorem round_s {K : Int → Int → Int} {t : List S64} (T : Tab K t) {n : Nat} (hn : n ≤ 16) {W : Nat → List Int} {l : List S52} (F : Fit n W l) (o : Int) (k : Nat) (hk : 300 ≤ k) :
    best_round.f k t o l = some (pack n (roundW K o n W)) := by
  unfold best_round.f
  rw [F.len, if_pos (by omega), if_pos (by omega), Int.toNat_natCast]
  have := round_l T hn F o n 0 k (by omega) (by omega)
  simpa [pack] using this

/-- A list of different numbers below n has at most n of them. -/
theorem short_of : ∀ (n : Nat) (l : List Int), l.Nodup → (∀ x, x ∈ l → 0 ≤ x ∧ x < n) → l.length ≤ n
  | 0, [], _, _ => Nat.le_refl _
  | 0, x :: l, _, h => by have := h x (by simp); omega
  | n + 1, l, nd, h => by
    have e : (l.erase (n : Int)).length ≤ n := by
      refine short_of n _ (nd.erase _) ?_
      intro x hx
      have h1 := (List.Nodup.mem_erase_iff nd).mp hx
      have h2 := h x h1.2
      have := h1.1
      omega
    have := List.length_erase (a := (n : Int)) (l := l)
    split at this <;> omega

theorem fit_of {K : Int → Int → Int} {n : Nat} (hn : n ≤ 16) {o : Int} {W : Nat → List Int} (I : Inv K n o W) : Fit n W (pack n W) := by
  refine ⟨pack_len n W, fun v hv => by rw [pack_at v hv], ?_, ?_⟩
  · intro v hv x hx
    rcases I v hv with e | way
    · rw [e] at hx; simp at hx
    · have := way.rng x hx; omega
  · intro v hv
    rcases I v hv with e | way
    · rw [e]; simp
    · have := short_of n (W v) way.nd way.rng; omega
end Go.Proofs.Ytplcdbhklepkgaa.BS
