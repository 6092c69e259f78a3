/- WaysWhole, the plain law: two packets of equal addresses, protocol and first four bytes have equal flows, and so one way. No condition. -/
import Derived.Test.YtckhbdeejnephaaVMWaysBTW
namespace Go.Proofs.Ytckhbdeejnephaa.TW
open Go.RowKit Go.Proofs.YtckhbdeejnephaaW.PrintWords Go.Proofs.YtckhbdeejnephaaW.PrintLast Go.Proofs.YtckhbdeejnephaaW.PrintMore Go.Proofs.Ytckhbdeejnephaa.Num
set_option linter.unusedVariables false
set_option linter.unusedSimpArgs false

theorem or_rng (x y : Int) (hx : 0 ≤ x) (hx2 : x ≤ 65535) (hy : 0 ≤ y) (hy2 : y ≤ 65535) : 0 ≤ Go.bits .or .i64 x y ∧ Go.bits .or .i64 x y ≤ 65535 := by
  have h2 : ((BitVec.ofInt 64 x ||| BitVec.ofInt 64 y).toNat : Nat) < 2 ^ 16 := by
    rw [BitVec.toNat_or]
    refine Nat.or_lt_two_pow ?_ ?_
    · simp only [BitVec.toNat_ofInt]; omega
    · simp only [BitVec.toNat_ofInt]; omega
  have h3 : Go.bits .or .i64 x y = ((BitVec.ofInt 64 x ||| BitVec.ofInt 64 y).toNat : Int) := by
    show IntKind.i64.wrap ((BitVec.ofInt 64 x ||| BitVec.ofInt 64 y).toNat : Int) = _
    generalize (BitVec.ofInt 64 x ||| BitVec.ofInt 64 y).toNat = q at h2
    rw [IntKind.wrap_i64]
    omega
  rw [h3]
  omega

theorem begin_s (s : ByteArray) (n : Nat) : ∃ t, g12_.f s (n : Int) = some t ∧ t.size ≤ n := by
  unfold g12_.f
  have h : 0 ≤ mn (s.size : Int) (n : Int) ∧ mn (s.size : Int) n ≤ s.size ∧ mn (s.size : Int) n ≤ n := by
    unfold mn; split <;> omega
  rw [if_pos h.1, if_pos h.2.1]
  refine ⟨_, rfl, ?_⟩
  rw [ByteArray.size_extract]
  omega

theorem check_s (k : Nat) (a b p t d : Int) (s : ByteArray) (p0 : 0 ≤ p) (p1 : p ≤ 255) (t0 : 1 ≤ t) (t1 : t ≤ 255) (d0 : 0 ≤ d) (d1 : d ≤ 65535) (hs : s.size ≤ 1500) (hk : 2 ≤ k) :
    pkt_Check.f k a b p t d 0 false false s = some 0 := by
  obtain ⟨k, rfl⟩ : ∃ m, k = m + 2 := ⟨k - 2, by omega⟩
  unfold pkt_Check.f
  rw [if_neg (by omega), if_neg (by omega), if_neg (by omega), if_neg (by omega), if_neg (by omega), if_neg (by omega), if_neg (by omega)]
  simp only [pkt_Check.j0]
  rw [if_neg (by decide), if_neg (by omega)]
  simp only [pkt_Check.j1]
  have e : decide ((wrap64 (0 + (s.size : Int))) > 65535) = false := by
    rw [wrap64_id (by omega) (by omega)]; simp; omega
  rw [e]
  simp

theorem check0 (k : Nat) (hk : 1 ≤ k) : pkt_Check.f k 0 0 0 0 0 0 false false (⟨#[]⟩ : ByteArray) = some 10 := by
  obtain ⟨k, rfl⟩ : ∃ m, k = m + 1 := ⟨k - 1, by omega⟩
  simp [pkt_Check.f, pkt_Check.j0]

def fl (p : Int) (s : ByteArray) : Int × Int :=
  if (p = 6 ∨ p = 17) ∧ 4 ≤ s.size then (Go.bits .or .i64 (wrap64 ((wrap64 (bt s 0)) * 256)) (wrap64 (bt s 1)), Go.bits .or .i64 (wrap64 ((wrap64 (bt s 2)) * 256)) (wrap64 (bt s 3))) else (0, 0)

theorem port_rng (s : ByteArray) (i j : Int) : 0 ≤ Go.bits .or .i64 (wrap64 ((wrap64 (bt s i)) * 256)) (wrap64 (bt s j)) ∧ Go.bits .or .i64 (wrap64 ((wrap64 (bt s i)) * 256)) (wrap64 (bt s j)) ≤ 65535 := by
  have h1 := bt_range s i
  have h2 := bt_range s j
  generalize bt s i = x at *
  generalize bt s j = y at *
  rw [wrap64_id (x := x) (by omega) (by omega), wrap64_id (x := y) (by omega) (by omega), wrap64_id (x := x * 256) (by omega) (by omega)]
  exact or_rng _ _ (by omega) (by omega) (by omega) (by omega)

theorem fl_rng (p : Int) (s : ByteArray) (p0 : 0 ≤ p) (p1 : p ≤ 255) : FlowOk p (fl p s).1 (fl p s).2 := by
  unfold fl
  split
  · exact ⟨p0, p1, (port_rng s 0 1).1, (port_rng s 0 1).2, (port_rng s 2 3).1, (port_rng s 2 3).2⟩
  · exact ⟨p0, p1, by decide, by decide, by decide, by decide⟩

theorem flow_s (k : Nat) (a b p t d : Int) (s : ByteArray) (p0 : 0 ≤ p) (p1 : p ≤ 255) (t0 : 1 ≤ t) (t1 : t ≤ 255) (d0 : 0 ≤ d) (d1 : d ≤ 65535) (hs : s.size ≤ 1500) (hk : 2 ≤ k) :
    ways_Flow.f k a b p t d 0 false false s = some (a, b, p, (fl p s).1, (fl p s).2, 0) := by
  unfold ways_Flow.f
  rw [check_s k a b p t d s p0 p1 t0 t1 d0 d1 hs hk, Option.bind_some, if_pos rfl]
  unfold fl
  by_cases h6 : p = 6
  · rw [if_pos h6, if_pos rfl, if_neg (by decide)]
    by_cases h4 : 4 ≤ s.size
    · rw [if_pos (by omega), if_pos (by omega), if_pos (by omega), if_pos (by omega), if_pos (by omega), if_pos ⟨Or.inl h6, h4⟩]
    · rw [if_neg (by omega), if_neg (by omega)]
  · rw [if_neg h6]
    by_cases h17 : p = 17
    · rw [if_pos h17, if_pos rfl, if_neg (by decide)]
      by_cases h4 : 4 ≤ s.size
      · rw [if_pos (by omega), if_pos (by omega), if_pos (by omega), if_pos (by omega), if_pos (by omega), if_pos ⟨Or.inr h17, h4⟩]
      · rw [if_neg (by omega), if_neg (by omega)]
    · rw [if_neg h17, if_neg (by omega)]

theorem bt_cut (s r : ByteArray) (i : Int) (h0 : 0 ≤ i) (h4 : i < 4) (hs : 4 ≤ s.size) : bt (s.extract 0 4 ++ r) i = bt s i := by
  have hz : (s.extract 0 4).size = 4 := by rw [ByteArray.size_extract]; omega
  have h1 : i.toNat < (s.extract 0 4 ++ r).size := by rw [ByteArray.size_append]; omega
  have h2 : i.toNat < s.size := by omega
  have h3 : i.toNat < (s.extract 0 4).size := by omega
  unfold bt
  rw [dif_pos h1, dif_pos h2, ByteArray.getElem_append_left h3, ByteArray.getElem_extract]
  simp

theorem fl_cut (p : Int) (s r : ByteArray) (hs : 4 ≤ s.size) : fl p (s.extract 0 4 ++ r) = fl p s := by
  unfold fl
  rw [bt_cut s r 0 (by omega) (by omega) hs, bt_cut s r 1 (by omega) (by omega) hs, bt_cut s r 2 (by omega) (by omega) hs, bt_cut s r 3 (by omega) (by omega) hs]
  have hz : 4 ≤ (s.extract 0 4 ++ r).size := by rw [ByteArray.size_append, ByteArray.size_extract]; omega
  simp only [hz, hs, and_true]

theorem pick_s (l : List S35) (hl : l.length ≤ 12) (h1 : 1 ≤ l.length) (hg : Good l) (f0 f1 f2 f3 f4 : Int) (hf : FlowOk f2 f3 f4) :
    ∃ k x, x ∈ l ∧ ways_Pick.f k l f0 f1 f2 f3 f4 = some (x.f0, x.f1, 0) := by
  obtain ⟨k, out, e1, e2, _⟩ := rank_s l hl hg f0 f1 f2 f3 f4 hf
  have hlen := e2.length_eq
  obtain ⟨x, s, rfl⟩ : ∃ x s, out = x :: s := by
    cases out with
    | nil => simp at hlen; omega
    | cons x s => exact ⟨x, s, rfl⟩
  have e3 := monoT (f := fun k => ways_Rank.f k l f0 f1 f2 f3 f4) (fun k => ways_Rank.mono _ _ _ _ _ _ _) e1 (b := k + 1) (by omega)
  refine ⟨k + 1, x, e2.subset (by simp), ?_⟩
  unfold ways_Pick.f
  rw [e3, Option.bind_some, if_pos rfl]
  have hb : (((x :: s).length : Int) == 0) = false := beq_eq_false_iff_ne.mpr (by simp; omega)
  simp only [hb, ways_Pick.j0]
  rw [if_neg (by decide)]
  simp [rd_T35]

theorem j2_s (l : List S35) (hl : l.length ≤ 12) (hg : Good l) (f0 f1 f2 f3 f4 : Int) (hf : FlowOk f2 f3 f4) :
    ∃ k, g1_.j2 k l 0 0 ((l.length : Int) == 0) f0 f1 f2 f3 f4 f0 f1 f2 f3 f4 = some true := by
  by_cases h0 : l.length = 0
  · refine ⟨1, ?_⟩
    simp [g1_.j2, h0]
  · obtain ⟨k, x, hx, e⟩ := pick_s l hl (by omega) hg f0 f1 f2 f3 f4 hf
    refine ⟨k + 40 + 1, ?_⟩
    have e2 := monoT (f := fun k => ways_Pick.f k l f0 f1 f2 f3 f4) (fun k => ways_Pick.mono _ _ _ _ _ _ _) e (b := k + 40) (by omega)
    have hb : ((l.length : Int) == 0) = false := beq_eq_false_iff_ne.mpr (by omega)
    rw [hb, g1_.j2, if_neg (by decide), e2, Option.bind_some]
    rw [Option.bind_some, if_pos rfl, if_pos rfl, if_pos (by simp), contains_s (k + 40) l x.f0 x.f1 (by omega) (by omega)]
    have hm : (⟨x.f0, x.f1⟩ : S35) ∈ l := hx
    simp [hm]

theorem j1_s (l : List S35) (hl : l.length ≤ 12) (hg : Good l) (a b p t d t2 d2 : Int) (s s2 : ByteArray) (p0 : 0 ≤ p) (p1 : p ≤ 255) (t0 : 1 ≤ t) (t1 : t ≤ 255) (d0 : 0 ≤ d) (d1 : d ≤ 65535) (hs : s.size ≤ 1500)
    (t20 : 1 ≤ t2) (t21 : t2 ≤ 255) (d20 : 0 ≤ d2) (d21 : d2 ≤ 65535) (hs2 : s2.size ≤ 1500) (hfl : fl p s2 = fl p s) :
    ∃ k, g1_.j1 k l a b p t d 0 false false s a b p t2 d2 0 false false s2 = some true := by
  obtain ⟨k, e⟩ := j2_s l hl hg a b p (fl p s).1 (fl p s).2 (fl_rng p s p0 p1)
  refine ⟨k + 2 + 1, ?_⟩
  rw [g1_.j1, flow_s (k + 2) a b p t d s p0 p1 t0 t1 d0 d1 hs (by omega), Option.bind_some, flow_s (k + 2) a b p t2 d2 s2 p0 p1 t20 t21 d20 d21 hs2 (by omega), Option.bind_some, hfl]
  rw [if_pos rfl, if_pos rfl, if_neg (by simp)]
  exact monoT (f := fun k => g1_.j2 k l 0 0 ((l.length : Int) == 0) a b p (fl p s).1 (fl p s).2 a b p (fl p s).1 (fl p s).2) (fun k => (g1_.mono_l k).2.2 _ _ _ _ _ _ _ _ _ _ _ _ _ _) e (by omega)

theorem law_w (a b p t d o : Int) (m wh : Bool) (s : ByteArray) (id ttl : Int) (rest : ByteArray) (l0 : List S35) :
    ∃ k, g1_.f k a b p t d o m wh s id ttl rest l0 = some true := by
  obtain ⟨l, h1, hg, hl⟩ := hops_f 40 l0 (by omega)
  obtain ⟨u, hu, hu2⟩ := begin_s s 12
  obtain ⟨r, hr, hr2⟩ := begin_s rest 8
  have x1 : 0 ≤ Go.bits .and .i64 p 255 ∧ Go.bits .and .i64 p 255 ≤ 255 := and_rng p 255 (by omega)
  have x2 : 0 ≤ Go.bits .and .i64 t 127 ∧ Go.bits .and .i64 t 127 ≤ 127 := and_rng t 127 (by omega)
  have x3 : 0 ≤ Go.bits .and .i64 d 65535 ∧ Go.bits .and .i64 d 65535 ≤ 65535 := and_rng d 65535 (by omega)
  have x4 : 0 ≤ Go.bits .and .i64 ttl 127 ∧ Go.bits .and .i64 ttl 127 ≤ 127 := and_rng ttl 127 (by omega)
  have x5 : 0 ≤ Go.bits .and .i64 id 65535 ∧ Go.bits .and .i64 id 65535 ≤ 65535 := and_rng id 65535 (by omega)
  have w1 : wrap64 (Go.bits .and .i64 t 127 + 1) = Go.bits .and .i64 t 127 + 1 := wrap64_id (by omega) (by omega)
  have w2 : wrap64 (1 + Go.bits .and .i64 ttl 127) = 1 + Go.bits .and .i64 ttl 127 := wrap64_id (by omega) (by omega)
  have hsz : (u.extract 0 4).size ≤ 4 := by rw [ByteArray.size_extract]; omega
  have fin : ∃ k, g1_.j0 k id ttl rest l0 false a b p t d o m wh s = some true := by
    have E : g18_.f a b p t d o m wh s 12 = some (a, b, Go.bits .and .i64 p 255, wrap64 (Go.bits .and .i64 t 127 + 1), Go.bits .and .i64 d 65535, 0, false, false, u) := by
      unfold g18_.f g19_.f
      have hu3 : g12_.f s 12 = some u := hu
      rw [hu3]
      rfl
    have hr3 : g12_.f rest 8 = some r := hr
    by_cases h4 : 4 ≤ u.size
    · obtain ⟨k, e⟩ := j1_s l (by omega) hg a b (Go.bits .and .i64 p 255) (wrap64 (Go.bits .and .i64 t 127 + 1)) (Go.bits .and .i64 d 65535) (wrap64 (1 + Go.bits .and .i64 ttl 127)) (Go.bits .and .i64 id 65535) u (u.extract 0 4 ++ r) x1.1 x1.2 (by omega) (by omega) x3.1 x3.2 (by omega) (by omega) (by omega) x5.1 x5.2 (by rw [ByteArray.size_append]; omega) (fl_cut _ u r h4)
      refine ⟨k + 40 + 1, ?_⟩
      have e1 := monoT (f := fun k => g8_.f k l0 5) (fun k => g8_.mono _ _ _) h1 (b := k + 40) (by omega)
      rw [g1_.j0, if_neg (by decide), E, Option.bind_some, e1, Option.bind_some, if_pos (by simp only; omega), if_pos (by simp only; omega), hr3, Option.bind_some, if_pos (by simp only; omega)]
      exact monoT (f := fun k => g1_.j1 k l a b (Go.bits .and .i64 p 255) (wrap64 (Go.bits .and .i64 t 127 + 1)) (Go.bits .and .i64 d 65535) 0 false false u a b (Go.bits .and .i64 p 255) (wrap64 (1 + Go.bits .and .i64 ttl 127)) (Go.bits .and .i64 id 65535) 0 false false (u.extract 0 4 ++ r)) (fun k => (g1_.mono_l k).2.1 _ _ _ _ _ _ _ _ _ _ _ _ _ _ _ _ _ _ _) e (by omega)
    · obtain ⟨k, e⟩ := j1_s l (by omega) hg a b (Go.bits .and .i64 p 255) (wrap64 (Go.bits .and .i64 t 127 + 1)) (Go.bits .and .i64 d 65535) (wrap64 (1 + Go.bits .and .i64 ttl 127)) (Go.bits .and .i64 id 65535) u u x1.1 x1.2 (by omega) (by omega) x3.1 x3.2 (by omega) (by omega) (by omega) x5.1 x5.2 (by omega) rfl
      refine ⟨k + 40 + 1, ?_⟩
      have e1 := monoT (f := fun k => g8_.f k l0 5) (fun k => g8_.mono _ _ _) h1 (b := k + 40) (by omega)
      rw [g1_.j0, if_neg (by decide), E, Option.bind_some, e1, Option.bind_some, if_neg (by simp only; omega)]
      exact monoT (f := fun k => g1_.j1 k l a b (Go.bits .and .i64 p 255) (wrap64 (Go.bits .and .i64 t 127 + 1)) (Go.bits .and .i64 d 65535) 0 false false u a b (Go.bits .and .i64 p 255) (wrap64 (1 + Go.bits .and .i64 ttl 127)) (Go.bits .and .i64 id 65535) 0 false false u) (fun k => (g1_.mono_l k).2.1 _ _ _ _ _ _ _ _ _ _ _ _ _ _ _ _ _ _ _) e (by omega)
  obtain ⟨k, e⟩ := fin
  refine ⟨k + 60, ?_⟩
  unfold g1_.f
  have e0 := monoT (f := fun k => g9_.f k) (fun k => g9_.mono _) lives_s (b := k + 60) (by omega)
  rw [e0, Option.bind_some, if_pos rfl, check0 (k + 60) (by omega), Option.bind_some]
  exact monoT (f := fun k => g1_.j0 k id ttl rest l0 false a b p t d o m wh s) (fun k => (g1_.mono_l k).1 _ _ _ _ _ _ _ _ _ _ _ _ _ _) e (by omega)
end Go.Proofs.Ytckhbdeejnephaa.TW
