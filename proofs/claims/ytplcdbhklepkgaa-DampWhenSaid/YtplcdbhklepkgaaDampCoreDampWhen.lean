/- What the functions of package damp compute at a plan that 'planned' makes. No condition. -/
import Derived.Test.YtplcdbhklepkgaaPDampWhenx2
import Derived.Test.YtplcdbhklepkgaaNum
namespace Go.Proofs.Ytplcdbhklepkgaa.DampCoreDampWhen
open Go.RowKit Go.Proofs.YtplcdbhklepkgaaW.PrintWords Go.Proofs.YtplcdbhklepkgaaW.PrintLast Go.Proofs.YtplcdbhklepkgaaW.PrintMore Go.Proofs.Ytplcdbhklepkgaa.PDampWhen Go.Proofs.Ytplcdbhklepkgaa.Num
set_option linter.unusedVariables false

/-- The penalty p after t ticks, h the half-life. -/
def dec (h p t : Nat) : Nat := p / 2 ^ (min (t / h) 30) - (p / 2 ^ (min (t / h) 30)) * (t % h) / (2 * h)

theorem dec_le (H p t : Nat) : dec H p t ≤ p := by
  unfold dec
  exact Nat.le_trans (Nat.sub_le _ _) (Nat.div_le_self _ _)

theorem half_le (q H r : Nat) (hH : 0 < H) (hr : r < H) : q * r / (2 * H) ≤ q / 2 := by
  have h1 : q * r ≤ q * H := Nat.mul_le_mul_left _ (Nat.le_of_lt hr)
  have h2 : q * H / (2 * H) = q / 2 := by rw [Nat.mul_comm q H, Nat.mul_comm 2 H]; exact Nat.mul_div_mul_left _ _ hH
  exact Nat.le_trans (Nat.div_le_div_right h1) (Nat.le_of_eq h2)

theorem dec_mono (H p t t' : Nat) (hH : 0 < H) (hp : p < 2 ^ 30) (h : t ≤ t') : dec H p t' ≤ dec H p t := by
  have ha : t / H ≤ t' / H := Nat.div_le_div_right h
  by_cases e : min (t / H) 30 = min (t' / H) 30
  · unfold dec
    rw [← e]
    by_cases e2 : t / H = t' / H
    · have hr : t % H ≤ t' % H := by
        have h1 := Nat.div_add_mod t H
        have h2 := Nat.div_add_mod t' H
        rw [e2] at h1
        omega
      have := Nat.div_le_div_right (c := 2 * H) (Nat.mul_le_mul_left (p / 2 ^ min (t / H) 30) hr)
      exact Nat.sub_le_sub_left this _
    · have : min (t / H) 30 = 30 := by omega
      rw [this, Nat.div_eq_of_lt hp]
      simp
  · have h1 : min (t / H) 30 + 1 ≤ min (t' / H) 30 := by omega
    have h2 : p / 2 ^ min (t' / H) 30 ≤ (p / 2 ^ min (t / H) 30) / 2 := by
      rw [Nat.div_div_eq_div_mul, ← Nat.pow_succ]
      exact Nat.div_le_div_left (Nat.pow_le_pow_right (by omega) h1) (Nat.pow_pos (by omega))
    have h3 := half_le (p / 2 ^ min (t / H) 30) H (t % H) hH (Nat.mod_lt _ hH)
    have h4 : dec H p t' ≤ p / 2 ^ min (t' / H) 30 := Nat.sub_le _ _
    have h5 : dec H p t = p / 2 ^ min (t / H) 30 - p / 2 ^ min (t / H) 30 * (t % H) / (2 * H) := rfl
    revert h2 h3 h4 h5
    generalize p / 2 ^ min (t / H) 30 * (t % H) / (2 * H) = z
    generalize p / 2 ^ min (t / H) 30 = a
    generalize p / 2 ^ min (t' / H) 30 = b
    intro h2 h3 h4 h5
    omega

theorem dec_half (H p : Nat) (hH : 0 < H) : dec H p H = p / 2 := by
  unfold dec
  rw [Nat.div_self hH, Nat.mod_self]
  simp

theorem dec_end (H p : Nat) (hH : 0 < H) (hp : p < 2 ^ 30) (t : Nat) (ht : 30 * H ≤ t) : dec H p t = 0 := by
  have : 30 ≤ t / H := (Nat.le_div_iff_mul_le hH).2 ht
  unfold dec
  rw [Nat.min_eq_right this, Nat.div_eq_of_lt hp]
  simp

/-- A plan as 'planned' makes it. -/
structure Plan (H F Ho R M : Int) : Prop where
  h1 : 1 ≤ H
  h2 : H ≤ 1024
  f1 : 1 ≤ F
  f2 : F ≤ 256
  r1 : 1 ≤ R
  r2 : R ≤ 256
  o1 : R + 1 ≤ Ho
  o2 : Ho ≤ 512
  m1 : Ho ≤ M
  m2 : M ≤ 1535

theorem planned_f (a0 a1 a2 a3 a4 : Int) : ∃ H F Ho R M, patchbaykeep2_planned.f a0 a1 a2 a3 a4 = some (H, F, Ho, R, M) ∧ Plan H F Ho R M := by
  have b0 := and_rng a0 1023 (by omega)
  have b1 := and_rng a1 255 (by omega)
  have b2 := and_rng a2 255 (by omega)
  have b3 := and_rng a3 255 (by omega)
  have b4 := and_rng a4 1023 (by omega)
  refine ⟨_, _, _, _, _, rfl, ?_⟩
  have b0 : 0 ≤ Go.bits .and .i64 a0 1023 ∧ Go.bits .and .i64 a0 1023 ≤ 1023 := b0
  have b1 : 0 ≤ Go.bits .and .i64 a1 255 ∧ Go.bits .and .i64 a1 255 ≤ 255 := b1
  have b2 : 0 ≤ Go.bits .and .i64 a2 255 ∧ Go.bits .and .i64 a2 255 ≤ 255 := b2
  have b3 : 0 ≤ Go.bits .and .i64 a3 255 ∧ Go.bits .and .i64 a3 255 ≤ 255 := b3
  have b4 : 0 ≤ Go.bits .and .i64 a4 1023 ∧ Go.bits .and .i64 a4 1023 ≤ 1023 := b4
  generalize Go.bits .and .i64 a0 1023 = x0 at *
  generalize Go.bits .and .i64 a1 255 = x1 at *
  generalize Go.bits .and .i64 a2 255 = x2 at *
  generalize Go.bits .and .i64 a3 255 = x3 at *
  generalize Go.bits .and .i64 a4 1023 = x4 at *
  have w0 : wrap64 (1 + x0) = 1 + x0 := wrap64_id (by omega) (by omega)
  have w1 : wrap64 (1 + x1) = 1 + x1 := wrap64_id (by omega) (by omega)
  have w3 : wrap64 (1 + x3) = 1 + x3 := wrap64_id (by omega) (by omega)
  rw [w0, w1, w3]
  have w4 : wrap64 (1 + x3 + 1) = 1 + x3 + 1 := wrap64_id (by omega) (by omega)
  rw [w4]
  have w5 : wrap64 (1 + x3 + 1 + x2) = 1 + x3 + 1 + x2 := wrap64_id (by omega) (by omega)
  rw [w5]
  have w6 : wrap64 (1 + x3 + 1 + x2 + x4) = 1 + x3 + 1 + x2 + x4 := wrap64_id (by omega) (by omega)
  rw [w6]
  constructor <;> omega

theorem check_f {H F Ho R M : Int} (h : Plan H F Ho R M) (k : Nat) : damp_Check.f (k + 1) H F Ho R M = some 0 := by
  obtain ⟨h1, h2, h3, h4, h5, h6, h7, h8, h9, h10⟩ := h
  unfold damp_Check.f
  rw [if_neg (by omega), if_neg (by omega), if_neg (by unfold mn; omega)]
  simp only [damp_Check.j0]
  rw [if_neg (by unfold mx; simp only [decide_eq_true_eq]; omega), if_neg (by omega), if_neg (by omega)]

theorem wrong_f {H F Ho R M : Int} (h : Plan H F Ho R M) (k : Nat) (p at_ now : Int) (b : Bool) (hp : 0 ≤ p) (hp2 : p ≤ M) (ha : 0 ≤ at_) (hn : at_ ≤ now) (hn2 : now ≤ 1000000000) : damp_wrong.f (k + 1) H F Ho R M p at_ b now = some 0 := by
  unfold damp_wrong.f
  rw [check_f h k]
  simp only [Option.bind_some]
  rw [if_pos trivial, if_neg (by omega), if_neg (by omega), if_neg (by omega), if_neg (by omega), if_neg (by omega)]
  simp only [damp_wrong.j0]
  rw [if_neg (by simp only [decide_eq_true_eq]; omega), if_neg (by omega)]

/-- The penalty after t ticks, of whole numbers. -/
def D (H p t : Int) : Int := (dec H.toNat p.toNat t.toNat : Nat)

theorem decayed_f {H F Ho R M : Int} (h : Plan H F Ho R M) (p t : Int) (hp : 0 ≤ p) (hp2 : p ≤ M) (ht : 0 ≤ t) (ht2 : t ≤ 1000000000) : damp_decayed.f H F Ho R M p t = some (D H p t) := by
  obtain ⟨h1, h2, h3, h4, h5, h6, h7, h8, h9, h10⟩ := h
  obtain ⟨H, rfl⟩ := Int.eq_ofNat_of_zero_le (show 0 ≤ H by omega)
  obtain ⟨p, rfl⟩ := Int.eq_ofNat_of_zero_le hp
  obtain ⟨t, rfl⟩ := Int.eq_ofNat_of_zero_le ht
  unfold damp_decayed.f
  rw [if_neg (by omega)]
  have e1 : Int.tdiv (t : Int) (H : Int) = ((t / H : Nat) : Int) := by rw [Int.tdiv_eq_ediv_of_nonneg (by omega)]; exact (Int.natCast_ediv t H).symm
  have e2 : Int.tmod (t : Int) (H : Int) = ((t % H : Nat) : Int) := by rw [Int.tmod_eq_emod_of_nonneg (by omega)]; exact (Int.natCast_emod t H).symm
  have q1 : t / H ≤ t := Nat.div_le_self _ _
  have q2 : t % H < H := Nat.mod_lt _ (by omega)
  unfold D dec
  simp only [Int.toNat_natCast]
  rw [e1, e2]
  generalize t / H = a at *
  generalize t % H = r at *
  rw [wrap64_id (x := (a : Int)) (by omega) (by omega)]
  have e3 : mn (a : Int) 30 = ((min a 30 : Nat) : Int) := by unfold mn; split <;> omega
  rw [e3, if_pos (by omega), wrap64_id (x := 2 * (H : Int)) (by omega) (by omega), if_neg (by omega)]
  have e4 : ((p : Int) / 2 ^ ((min a 30 : Nat) : Int).toNat) = ((p / 2 ^ (min a 30) : Nat) : Int) := by
    rw [Int.toNat_natCast]
    exact_mod_cast rfl
  rw [e4]
  have q3 : p / 2 ^ (min a 30) ≤ p := Nat.div_le_self _ _
  generalize p / 2 ^ (min a 30) = q at *
  have q4 : q * r ≤ 1535 * 1024 := Nat.mul_le_mul (by omega) (by omega)
  have e5 : (q : Int) * (r : Int) = ((q * r : Nat) : Int) := by exact_mod_cast rfl
  have q5 : q * r / (2 * H) ≤ q / 2 := half_le _ _ _ (by omega) q2
  rw [e5]
  generalize q * r = z at *
  rw [wrap64_id (x := (z : Int)) (by omega) (by omega)]
  have e6 : Int.tdiv (z : Int) (2 * (H : Int)) = ((z / (2 * H) : Nat) : Int) := by
    rw [Int.tdiv_eq_ediv_of_nonneg (by omega)]
    exact_mod_cast rfl
  rw [e6]
  generalize z / (2 * H) = y at *
  rw [wrap64_id (x := (y : Int)) (by omega) (by omega)]
  rw [wrap64_id (by omega) (by omega)]
  congr 1
  omega

theorem held_f {H F Ho R M : Int} (h : Plan H F Ho R M) (p at_ t : Int) (b : Bool) (hp : 0 ≤ p) (hp2 : p ≤ M) (ht : 0 ≤ t) (ht2 : t ≤ 1000000000) : damp_held.f H F Ho R M p at_ b t = some (b && decide (R ≤ D H p t)) := by
  unfold damp_held.f
  rw [decayed_f h p t hp hp2 ht ht2]
  cases b <;> simp

theorem look_f {H F Ho R M : Int} (h : Plan H F Ho R M) (k : Nat) (p at_ now : Int) (b : Bool) (hp : 0 ≤ p) (hp2 : p ≤ M) (ha : 0 ≤ at_) (hn : at_ ≤ now) (hn2 : now ≤ 1000000000) :
    damp_Look.f (k + 1) H F Ho R M p at_ b now = some (D H p (now - at_), b && decide (R ≤ D H p (now - at_)), 0) := by
  unfold damp_Look.f
  rw [wrong_f h k p at_ now b hp hp2 ha hn hn2]
  simp only [Option.bind_some]
  rw [if_pos trivial, wrap64_id (x := now - at_) (by omega) (by omega), decayed_f h p _ hp hp2 (by omega) (by omega), held_f h p at_ _ b hp hp2 (by omega) (by omega)]
  rfl

theorem lives_f (k : Nat) : patchbaykeep2_dampLives.f (k + 1) = some true := by
  unfold patchbaykeep2_dampLives.f
  have h : damp_Look.f (k + 1) 10 1 3 2 100 100 0 false 10 = some (50, false, 0) := by
    unfold damp_Look.f damp_wrong.f damp_Check.f
    simp only [damp_Check.j0, damp_wrong.j0]
    decide +kernel
  rw [h]
  rfl

theorem D_nonneg (H p t : Int) : 0 ≤ D H p t := by unfold D; omega
theorem D_le (H p t : Int) (hp : 0 ≤ p) : D H p t ≤ p := by have := dec_le H.toNat p.toNat t.toNat; unfold D; omega
theorem D_mono (H p t t' : Int) (hH : 1 ≤ H) (hp : p ≤ 1535) (ht : t ≤ t') : D H p t' ≤ D H p t := by
  have := dec_mono H.toNat p.toNat t.toNat t'.toNat (by omega) (by omega) (by omega)
  unfold D; omega
theorem D_half (H p : Int) (hH : 1 ≤ H) (hp : 0 ≤ p) : D H p H = p / 2 := by
  have := dec_half H.toNat p.toNat (by omega)
  unfold D; omega
theorem D_end (H p t : Int) (hH : 1 ≤ H) (hp : p ≤ 1535) (ht : 30 * H ≤ t) : D H p t = 0 := by
  have := dec_end H.toNat p.toNat (by omega) (by omega) t.toNat (by omega)
  unfold D; omega
end Go.Proofs.Ytplcdbhklepkgaa.DampCoreDampWhen
