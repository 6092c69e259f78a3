/- BestValley, the plain law. No condition. -/
import Derived.Test.YtplcdbhklepkgaaVValleyMBestOBS
import Derived.Test.YtplcdbhklepkgaaVValleyMBestGBS
import Derived.Test.YtplcdbhklepkgaaVValleyBSx20
namespace Go.Proofs.Ytplcdbhklepkgaa.BS
open Go.RowKit Go.Proofs.YtplcdbhklepkgaaW.PrintWords Go.Proofs.YtplcdbhklepkgaaW.PrintLast Go.Proofs.YtplcdbhklepkgaaW.PrintMore Go.Proofs.Ytplcdbhklepkgaa.Num Go.Proofs.Ytplcdbhklepkgaa.BestM
set_option linter.unusedVariables false
set_option linter.unusedSimpArgs false

theorem relation_l (n : Nat) (L : List S71) (h : Links n L) (hn : L.length < 1000) (u v : Int) : ∀ (s p : List S71), L = p ++ s → ∀ k, 2 * s.length + 1 ≤ k → g9_.l0 k u v L L.length p.length = some (rel s u v) := by
  intro s
  induction s with
  | nil =>
    intro p hp k hk
    obtain ⟨k, rfl⟩ : ∃ m, k = m + 1 := ⟨k - 1, by omega⟩
    rw [g9_.l0, if_neg (by rw [hp]; simp)]
    rfl
  | cons x s ih =>
    intro p hp k hk
    obtain ⟨k, rfl⟩ : ∃ m, k = m + 2 := ⟨k - 2, by simp at hk; omega⟩
    have lw : L.length = p.length + s.length + 1 := by rw [hp]; simp; omega
    have rx : rd_T71 L (p.length : Int) = x := by rw [hp]; exact rd71 p s x
    have ok := h.ok x (by rw [hp]; simp)
    obtain ⟨a0, ab, b1, k1, k2, p0, q0⟩ := ok
    have wr : wrap64 ((p.length : Int) + 1) = ((p ++ [x]).length : Int) := by rw [wrap64_id (by omega) (by omega)]; simp
    have next := ih (p ++ [x]) (by rw [hp]; simp) k (by simp at hk; omega)
    rw [g9_.l0, if_pos (by omega), if_pos (by omega), if_pos (by omega), rx, rel_cons]
    have w4 : wrap64 (4 - x.f2) = 4 - x.f2 := wrap64_id (by omega) (by omega)
    by_cases c1 : x.f0 = u
    · rw [if_pos c1]
      by_cases c2 : x.f1 = v
      · rw [if_pos ⟨c1, c2⟩, g9_.j1, if_pos (by simpa using c2)]
      · have e : (x.f1 == v) = false := by simpa using c2
        rw [if_neg (fun h => c2 h.2), e, g9_.j1, if_neg (by decide), wr, w4]
        by_cases c3 : x.f0 = v
        · rw [if_pos c3]
          by_cases c4 : x.f1 = u
          · rw [if_pos c4, if_pos ⟨c3, c4⟩]
          · rw [if_neg c4, if_neg (fun h => c4 h.2)]; exact next
        · rw [if_neg c3, if_neg (fun h => c3 h.1)]; exact next
    · rw [if_neg c1, if_neg (fun h => c1 h.1), g9_.j1, if_neg (by decide), wr, w4]
      by_cases c3 : x.f0 = v
      · rw [if_pos c3]
        by_cases c4 : x.f1 = u
        · rw [if_pos c4, if_pos ⟨c3, c4⟩]
        · rw [if_neg c4, if_neg (fun h => c4 h.2)]; exact next
      · rw [if_neg c3, if_neg (fun h => c3 h.1)]; exact next

theorem relation_s (n : Nat) (L : List S71) (h : Links n L) (hL : L.length ≤ 7) (k : Nat) (hk : 20 ≤ k) (a u v : Int) : g9_.f k a L u v = some (rel L u v) := by
  unfold g9_.f
  exact relation_l n L h (by omega) u v L [] rfl k (by omega)

def Fall (K : Int → Int → Int) (p s : List Int) (f : Bool) : Prop := (p = [] ∧ f = false) ∨ ∃ q a, p = q ++ [a] ∧ (f = true → Down K (a :: s))

theorem valley_2 {n : Nat} (hn : n ≤ 16) {o : Int} (L : List S71) (h : Links n L) (hL : L.length ≤ 7) (v : Nat) (w : List Int) (hw : w = [] ∨ Rway (rel L) n o v w) (l : List S52)
    (H : ∀ k, 100 ≤ k → g1_.l1 (k + 40 * (n - (v + 1))) o l n ((v + 1 : Nat) : Int) n L = some true) (hv : v < n) :
    ∀ (s p : List Int) (f : Bool), w = p ++ s → Fall (rel L) p s f → ∀ k, 2 * s.length + 101 ≤ k → g1_.l2 (k + 40 * (n - (v + 1))) o v f l n v w w.length p.length n L w = some true := by
  have wr : wrap64 ((v : Int) + 1) = ((v + 1 : Nat) : Int) := by rw [wrap64_id (by omega) (by omega)]; omega
  generalize 40 * (n - (v + 1)) = g at H ⊢
  intro s
  induction s with
  | nil =>
    intro p f hp hf k hk
    obtain ⟨k, rfl⟩ : ∃ m, k = m + 1 := ⟨k - 1, by omega⟩
    rw [show k + 1 + g = (k + g) + 1 from by omega]
    rw [g1_.l2, if_neg (by rw [hp]; simp), wr]
    exact H k (by simp at hk; omega)
  | cons x s ih =>
    intro p f hp hf k hk
    have way : Rway (rel L) n o v w := hw.resolve_left (by rw [hp]; simp)
    have sh := short_of n w way.nd way.rng
    have lw : w.length = p.length + s.length + 1 := by rw [hp]; simp; omega
    obtain ⟨k, rfl⟩ : ∃ m, k = m + 2 := ⟨k - 2, by simp at hk; omega⟩
    have hx := way.rng x (by rw [hp]; simp)
    have rx : rd w (p.length : Int) = x := by rw [hp]; exact rdm p s x
    have tk : w.take ((p.length : Nat) : Int).toNat = p := by rw [hp]; simp
    have nx : x ∉ p := by
      intro h
      have nd := way.nd
      rw [hp, List.nodup_append] at nd
      exact nd.2.2 x h x (by simp) rfl
    have wr2 : wrap64 ((p.length : Int) + 1) = ((p ++ [x]).length : Int) := by rw [wrap64_id (by omega) (by omega)]; simp
    have w1 : wrap64 ((w.length : Int) - 1) = (w.length : Int) - 1 := wrap64_id (by omega) (by omega)
    have go : g1_.l2 (k + g + 2) o v f l n v w w.length p.length n L w = g1_.j4 (k + g + 1) o v f p.length x l n v w w.length p.length false n L w := by
      have last : (p.length : Int) = (w.length : Int) - 1 → x = o := by
        intro e
        have : s = [] := List.eq_nil_of_length_eq_zero (by omega)
        subst this
        have h := way.last
        rw [hp] at h
        simpa using h
      rw [g1_.l2, if_pos (by omega), if_pos (by omega), if_pos (by omega), rx, w1, tk, contains_s (k + g + 1) p x (by omega) (by omega)]
      simp only [nx, decide_false, Option.bind_some]
      have tail : (if (p.length : Int) = (w.length : Int) - 1 then (if x = o then (if (p.length : Int) ≤ (w.length : Int) then g1_.j4 (k + g + 1) o v f p.length x l n v w w.length p.length false n L w else none) else g1_.j4 (k + g + 1) o v f p.length x l n v w w.length p.length true n L w) else (if (p.length : Int) ≤ (w.length : Int) then g1_.j4 (k + g + 1) o v f p.length x l n v w w.length p.length false n L w else none)) = g1_.j4 (k + g + 1) o v f p.length x l n v w w.length p.length false n L w := by
        by_cases e : (p.length : Int) = (w.length : Int) - 1
        · rw [if_pos e, if_pos (last e), if_pos (by omega)]
        · rw [if_neg e, if_pos (by omega)]
      rw [tail]
      by_cases c : (p.length : Int) = 0
      · have e : x = v := by
          obtain rfl : p = [] := List.eq_nil_of_length_eq_zero (by omega)
          have h := way.head
          rw [hp] at h
          simpa using h
        rw [if_pos c, if_pos e]
      · rw [if_neg c]
    rw [show k + 2 + g = k + g + 2 from by omega, go, g1_.j4, if_neg (by decide), wr2]
    rcases hf with ⟨rfl, rfl⟩ | ⟨q, a, rfl, hf⟩
    · rw [if_pos (by simp)]
      exact ih ([] ++ [x]) false (by rw [hp]; simp) (Or.inr ⟨[], x, rfl, fun h => by cases h⟩) k (by simp at hk; omega)
    · have lq : (q ++ [a]).length = q.length + 1 := by simp
      have ra : rd w (q.length : Int) = a := by
        rw [hp]
        have := rdm q (x :: s) a
        simpa using this
      have w2 : wrap64 (((q ++ [a]).length : Int) - 1) = (q.length : Int) := by rw [lq, wrap64_id (by omega) (by omega)]; omega
      have val : V (rel L) (a :: x :: s) := by
        have := way.val
        rw [hp] at this
        simp only [List.append_assoc, List.singleton_append] at this
        exact V_drop q _ this
      rw [if_neg (by omega), w2, if_pos (by omega), if_pos (by omega), ra, relation_s n L h hL (k + g) (by simp at hk; omega)]
      simp only [Option.bind_some]
      rw [if_neg val.1]
      have next := fun f' hf' => ih (q ++ [a] ++ [x]) f' (by rw [hp]; simp) (Or.inr ⟨q ++ [a], x, rfl, hf'⟩) k (by simp at hk; omega)
      by_cases cf : f = true
      · have dn := hf cf
        rw [if_pos cf, if_pos dn.1]
        exact next true (fun _ => dn.2)
      · rw [if_neg cf]
        refine next _ (fun h3 => val.2.1 ?_)
        simpa using h3

theorem valley_1 {n : Nat} (hn : n ≤ 16) {o : Int} (L : List S71) (h : Links n L) (hL : L.length ≤ 7) {W : Nat → List Int} (I : Inv (rel L) n o W) :
    ∀ d i k : Nat, i + d = n → 100 ≤ k → g1_.l1 (k + 40 * d) o (pack n W) n i n L = some true := by
  intro d
  induction d with
  | zero =>
    intro i k hi hk
    obtain ⟨k, rfl⟩ : ∃ m, k = m + 1 := ⟨k - 1, by omega⟩
    rw [Nat.mul_zero, Nat.add_zero, g1_.l1, if_neg (by omega)]
  | succ d ih =>
    intro i k hi hk
    have hin : i < n := by omega
    have lw : (W i).length ≤ n := by
      rcases I i hin with e | way
      · rw [e]; simp
      · exact short_of n (W i) way.nd way.rng
    have h2 := valley_2 hn L h hL i (W i) (I i hin) (pack n W) (fun k' hk' => by
      have e : 40 * (n - (i + 1)) = 40 * d := by omega
      rw [e]
      exact ih (i + 1) k' (by omega) hk') hin (W i) [] false rfl (Or.inl ⟨rfl, rfl⟩) (k + 39) (by omega)
    have e : k + 40 * (d + 1) = (k + 39 + 40 * (n - (i + 1))) + 1 := by omega
    rw [e, g1_.l1, if_pos (by omega), if_pos (by omega), if_pos (by rw [pack_len]; omega), pack_at i hin]
    exact h2

theorem valley_0 {n : Nat} (h1 : 1 ≤ n) (hn : n ≤ 16) {o : Int} (ho : 0 ≤ o ∧ o < n) (L : List S71) (h : Links n L) (hL : L.length ≤ 7) (r : Nat) (hr : r ≤ 4) :
    ∀ d i k : Nat, i + d = r → d + 2500 ≤ k → g1_.l0 k o (pack n (runs (rel L) o n i)) r i n L = some true := by
  intro d
  induction d with
  | zero =>
    intro i k hi hk
    obtain ⟨k, rfl⟩ : ∃ m, k = m + 1 := ⟨k - 1, by omega⟩
    rw [g1_.l0, if_neg (by omega), pack_len]
    have := valley_1 hn L h hL (runs_inv (rel_net n L h) ho i) n 0 (k - 40 * n) (by omega) (by omega)
    rw [Nat.sub_add_cancel (by omega)] at this
    exact this
  | succ d ih =>
    intro i k hi hk
    obtain ⟨k, rfl⟩ : ∃ m, k = m + 1 := ⟨k - 1, by omega⟩
    have wr : wrap64 ((i : Int) + 1) = ((i + 1 : Nat) : Int) := by rw [wrap64_id (by omega) (by omega)]; omega
    rw [g1_.l0, if_pos (by omega), Round_s n h1 hn ho L h (by omega) (runs_inv (rel_net n L h) ho i) k (by omega)]
    simp only [Option.bind_some, if_true]
    rw [pack_len, if_pos rfl, wr]
    exact ih (i + 1) k (by omega) (by omega)

theorem law_valley (a0 : Int) (l : List S71) (a1 a2 : Int) : g1_.f 3001 a0 l a1 a2 = some true := by
  unfold g1_.f
  rw [gadget_k 3001 (by omega)]
  simp only [gadgetIs, Option.bind_some]
  obtain ⟨gl, gm, g1⟩ := settle_k 3001 (by omega)
  rw [g1]
  simp only [Option.bind_some]
  rw [lives_k 3001 (by omega)]
  simp only [Option.bind_some, if_true]
  rw [show ((12 : Int) != 12) = false from by decide, g1_.j0, if_neg (by decide)]
  obtain ⟨n, L, o1, n2, n6, A, hL⟩ := ordered_s 3000 (by omega) a0 l
  rw [o1]
  simp only [Option.bind_some]
  have hu : IntKind.u64.wrap (n : Int) = (n : Int) := by rw [wrap_u64]; omega
  rw [if_neg (by rw [hu]; omega)]
  obtain ⟨o, eo, o0, o2⟩ := tmod_rng a1 n (by omega) (by omega)
  rw [eo, if_pos (by omega), if_pos (by omega), Int.toNat_natCast]
  obtain ⟨g0, g1⟩ := and_rng a2 3 (by omega)
  rw [show ((3 : Nat) : Int) = 3 from rfl] at g0 g1
  rw [wrap64_id (x := 1 + Go.bits .and .i64 a2 3) (by omega) (by omega)]
  obtain ⟨r, hr⟩ : ∃ r : Nat, 1 + Go.bits .and .i64 a2 3 = r := ⟨(1 + Go.bits .and .i64 a2 3).toNat, by omega⟩
  have p0 : List.replicate n z52 = pack n (runs (rel L) o n 0) := by
    refine (List.eq_replicate_iff.mpr ⟨pack_len n _, ?_⟩).symm
    intro b hb
    unfold pack at hb
    obtain ⟨u, _, rfl⟩ := List.mem_map.mp hb
    rfl
  rw [p0, hr]
  exact valley_0 (by omega) (by omega) ⟨o0, o2⟩ L A hL r (by omega) r 0 3000 (by omega) (by omega)
end Go.Proofs.Ytplcdbhklepkgaa.BS
