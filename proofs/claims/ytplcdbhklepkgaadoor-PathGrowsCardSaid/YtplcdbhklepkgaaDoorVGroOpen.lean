/- How what comes in reads: for each type of the program the cells of a value that can be read as data are those of a plain Lean value (a Kd of the print's words). No condition. -/
import Derived.Test.YtplcdbhklepkgaaDoorVGroWWords
import Derived.ProofKit
import Derived.OpenShut
import Derived.ShutString
import Derived.ChangeOld
import Derived.Below
import Derived.SizedLaws
import Derived.Carry
namespace Go.Proofs.YtplcdbhklepkgaaDoor.Open
open Go.RowKit Go.Proofs.YtplcdbhklepkgaaDoorW.PrintWords
open Go.ChangeShapes Go.WideShapes Go.ChangeAt
set_option linter.unusedVariables false

/-- Every list of cells that reads as type t is that of a value of kind d, of which ok holds. -/
def Opens (P : Program) (t : TypeId) {α : Type} (d : Kd α) (ok : α → Prop) : Prop :=
  ∀ (H : Type) (enc : TypeId × Value → H) (w : World) (base : Nat) (spare : Nat → Bool) (held : Bool) (fuel : Nat) (cs : List Value) (x : DataW H × List MemPlace),
    DataW.trod enc P w base spare held fuel t cs = some x → ∃ a, d.K w a cs ∧ ok a

theorem opens_mono {P : Program} {t : TypeId} {α : Type} {d : Kd α} {ok ok' : α → Prop} (h : Opens P t d ok) (hi : ∀ a, ok a → ok' a) : Opens P t d ok' := by
  intro H enc w base spare held fuel cs x hx
  obtain ⟨a, ha, hok⟩ := h H enc w base spare held fuel cs x hx
  exact ⟨a, ha, hi a hok⟩

theorem opens_int {P : Program} {t : TypeId} {k : IntKind} (ht : P.underlying t = some (.int k)) : Opens P t (Kd.int k) (fun n => (Lit.int k n).wf = true) := by
  intro H enc w base spare held fuel cs x hx
  obtain ⟨n, hc, _, hw⟩ := DataW.trod_int ht hx
  exact ⟨n, hc, hw⟩

theorem opens_bool {P : Program} {t : TypeId} (ht : P.underlying t = some .bool) : Opens P t Kd.bool (fun _ => True) := by
  intro H enc w base spare held fuel cs x hx
  obtain ⟨b, hc, _⟩ := DataW.trod_bool ht hx
  exact ⟨b, hc, trivial⟩

theorem opens_string {P : Program} {t : TypeId} (ht : P.underlying t = some .string) : Opens P t Kd.string (fun s => s.size ≤ 9223372036854775807) := by
  intro H enc w base spare held fuel cs x hx
  obtain ⟨s, hc, _, hs⟩ := DataW.trod_string ht hx
  exact ⟨s, hc, by simpa [maxLen] using hs⟩

theorem cells?_at {w : World} {base : Nat} {a : Addr} {n : Nat} {cs : List Value} (h : w.cells? base a n = some cs) : cs.length = n ∧ ∀ i u, cs[i]? = some u → w.cell? (a.add i) = some u := by
  obtain ⟨_, hl, hat⟩ := World.cells?_some h
  exact ⟨hl, fun i u hu => (hat i (by have := (List.getElem?_eq_some_iff.1 hu).1; omega)).trans hu⟩

theorem add_add' (a : Addr) (m j : Nat) : (a.add m).add j = a.add (m + j) := by
  unfold Addr.add
  by_cases hm : m = 0
  · subst hm; simp
  · by_cases hj : j = 0
    · subst hj; simp [hm]
    · simp [hm, hj, Nat.add_assoc]

theorem mapM_some {α β : Type} {f : α → Option β} : ∀ {l : List α} {xs : List β}, l.mapM f = some xs → xs.length = l.length ∧ ∀ (i : Nat) (a : α), l[i]? = some a → ∃ b, xs[i]? = some b ∧ f a = some b
  | [], xs, h => by
    simp at h
    subst h
    exact ⟨rfl, fun i a ha => by simp at ha⟩
  | a :: l, xs, h => by
    rw [List.mapM_cons] at h
    simp only [Option.bind_eq_bind, Option.bind_eq_some_iff, Option.pure_def, Option.some.injEq] at h
    obtain ⟨b, hb, ys, hys, rfl⟩ := h
    obtain ⟨h1, h2⟩ := mapM_some hys
    refine ⟨by simp [h1], fun i a' ha => ?_⟩
    cases i with
    | zero =>
      simp at ha
      subst ha
      exact ⟨b, rfl, hb⟩
    | succ i => exact h2 i a' (by simpa using ha)

theorem opens_slice {P : Program} {t e : TypeId} {α : Type} {d : Kd α} {ok : α → Prop} (ht : P.underlying t = some (.slice e)) (hc : P.cellsOf e = d.sz) (he : Opens P e d ok) :
    Opens P t (Kd.slice e d) (fun l => (∀ a, a ∈ l → ok a) ∧ l.length ≤ 9223372036854775807) := by
  intro H enc w base spare held fuel cs x hx
  cases fuel with
  | zero => simp [DataW.trod] at hx
  | succ fuel =>
    unfold DataW.trod at hx
    rw [ht] at hx
    split at hx <;> first | (cases hx; done) | (rename_i heq; exfalso; simp at heq; done) | rename_i heq
    · exact ⟨[], ⟨none, 0, rfl, by simp, ⟨rfl, by simp, fun h => absurd h (by simp)⟩⟩, by simp⟩
    · rename_i e' a len cap
      obtain rfl : e = e' := by simpa using heq
      simp only [maxLen] at hx
      split at hx <;> rename_i hcond
      · obtain ⟨hb, hl, hm⟩ := hcond
        simp only [Option.bind_eq_some_iff] at hx
        obtain ⟨elems, hel, hx⟩ := hx
        obtain ⟨hlen, hat⟩ := mapM_some hel
        rw [List.length_range] at hlen
        have hex : ∀ i, i < len → ∃ (p : α) (c : List Value), c.length = d.sz ∧ d.K w p c ∧ ok p ∧ ∀ j u, c[j]? = some u → w.cell? (a.add (i * d.sz + j)) = some u := by
          intro i hi
          obtain ⟨b, _, hf⟩ := hat i i (List.getElem?_range hi)
          simp only [Option.bind_eq_some_iff] at hf
          obtain ⟨c, hc1, hc2⟩ := hf
          rw [hc] at hc1
          obtain ⟨h1, h2⟩ := cells?_at hc1
          obtain ⟨p, hp, hok⟩ := he H enc w base spare held fuel c b hc2
          exact ⟨p, c, h1, hp, hok, fun j u hu => by rw [← add_add']; exact h2 j u hu⟩
        have hcl : ∀ n, n ≤ len → ∃ l : List α, l.length = n ∧ (∀ p, p ∈ l → ok p) ∧ ∀ j p, l[j]? = some p → ∃ c, c.length = d.sz ∧ d.K w p c ∧ ∀ i u, c[i]? = some u → w.cell? (a.add (j * d.sz + i)) = some u := by
          intro n
          induction n with
          | zero => exact fun _ => ⟨[], rfl, by simp, by simp⟩
          | succ n ih =>
            intro hn
            obtain ⟨l, h1, h2, h3⟩ := ih (by omega)
            obtain ⟨p, c, hc1, hc2, hc3, hc4⟩ := hex n (by omega)
            refine ⟨l ++ [p], by simp [h1], ?_, ?_⟩
            · intro q hq
              rcases List.mem_append.1 hq with hq | hq
              · exact h2 q hq
              · rw [List.mem_singleton.1 hq]; exact hc3
            · intro j q hq
              rcases Nat.lt_or_ge j l.length with hj | hj
              · rw [List.getElem?_append_left hj] at hq
                exact h3 j q hq
              · have hj' : j = l.length := by
                  have := (List.getElem?_eq_some_iff.1 hq).1
                  rw [List.length_append, List.length_singleton] at this
                  omega
                subst hj'
                have : p = q := by simpa using hq
                subst this
                exact ⟨c, hc1, hc2, by rw [h1]; exact hc4⟩
        obtain ⟨l, h1, h2, h3⟩ := hcl len (Nat.le_refl _)
        refine ⟨l, ⟨some a, cap, by rw [h1], by omega, ⟨rfl, by omega, fun _ => ⟨a, rfl, h3⟩⟩⟩, h2, by omega⟩
      · cases hx

/-- Fields in line, from cell 'off' on. -/
def FOpens (P : Program) (fl : List Field) (off : Nat) {α : Type} (d : Kd α) (ok : α → Prop) : Prop :=
  ∀ (H : Type) (enc : TypeId × Value → H) (w : World) (base : Nat) (spare : Nat → Bool) (held : Bool) (fuel : Nat) (cs : List Value), cs.length = off + d.sz →
    (∀ f, f ∈ fl → ∃ y, DataW.trod enc P w base spare held fuel f.type ((cs.drop f.offset).take (P.cellsOf f.type)) = some y) → ∃ a, d.K w a (cs.drop off) ∧ ok a

theorem fopens_one {P : Program} {f : Field} {off : Nat} {α : Type} {d : Kd α} {ok : α → Prop} (ho : f.offset = off) (hc : P.cellsOf f.type = d.sz) (h : Opens P f.type d ok) : FOpens P [f] off d ok := by
  intro H enc w base spare held fuel cs hl hx
  obtain ⟨b, hb⟩ := hx f List.mem_cons_self
  rw [ho, hc, List.take_of_length_le (by rw [List.length_drop]; omega)] at hb
  exact h H enc w base spare held fuel _ b hb

theorem fopens_cons {P : Program} {f : Field} {fl : List Field} {off : Nat} {α β : Type} {d : Kd α} {d2 : Kd β} {ok : α → Prop} {ok2 : β → Prop} (ho : f.offset = off) (hc : P.cellsOf f.type = d.sz) (h : Opens P f.type d ok)
    (h2 : FOpens P fl (off + d.sz) d2 ok2) : FOpens P (f :: fl) off (Kd.pair d d2) (fun x => ok x.1 ∧ ok2 x.2) := by
  intro H enc w base spare held fuel cs hl hx
  have hl' : cs.length = off + (d.sz + d2.sz) := hl
  obtain ⟨b, hb⟩ := hx f List.mem_cons_self
  rw [ho, hc] at hb
  obtain ⟨p, hp, hok⟩ := h H enc w base spare held fuel _ b hb
  obtain ⟨q, hq, hok2⟩ := h2 H enc w base spare held fuel cs (by omega) (fun g hg => hx g (List.mem_cons_of_mem _ hg))
  refine ⟨(p, q), ⟨(cs.drop off).take d.sz, cs.drop (off + d.sz), ?_, hp, hq⟩, hok, hok2⟩
  rw [← List.drop_drop, List.take_append_drop]

theorem opens_struct {P : Program} {t : TypeId} {fs : Array Field} {α : Type} {d : Kd α} {ok : α → Prop} (ht : P.underlying t = some (.struct fs)) (hc : P.cellsOf t = d.sz) (h : FOpens P fs.toList 0 d ok) : Opens P t d ok := by
  intro H enc w base spare held fuel cs x hx
  obtain ⟨xs, n, rfl, _, hcs, hlen, hg⟩ := DataW.trod_struct ht hx
  obtain ⟨a, ha, hok⟩ := h H enc w base spare held n cs (by omega) (fun f hf => by
    obtain ⟨i, hi, hfi⟩ := List.mem_iff_getElem.1 hf
    have hfi' : fs[i]? = some f := by
      rw [← hfi, ← Array.getElem?_toList]
      exact List.getElem?_eq_getElem hi
    have := hg i f hfi'
    have hl : i < xs.length := by rw [hlen]; simpa using hi
    rw [List.getElem?_eq_getElem hl] at this
    exact ⟨_, this⟩)
  exact ⟨a, by simpa using ha, hok⟩

theorem opens_iso {P : Program} {t : TypeId} {α β : Type} {d : Kd α} {ok : α → Prop} (f : β → α) (g : α → β) (hfg : ∀ a, f (g a) = a) (h : Opens P t d ok) : Opens P t (Kd.iso d f) (fun b => ok (f b)) := by
  intro H enc w base spare held fuel cs x hx
  obtain ⟨a, ha, hok⟩ := h H enc w base spare held fuel cs x hx
  refine ⟨g a, ?_, ?_⟩
  · show d.K w (f (g a)) cs
    rw [hfg]; exact ha
  · show ok (f (g a))
    rw [hfg]; exact hok

/-! ### arguments -/
section
variable {H : Type} {enc : TypeId × Value → H} {P : Program} {W : World} {base base' : Nat} {spare : Nat → Bool} {held : Bool} {r : Reach} {t e : TypeId} {v : Value} {dd : DataW H} {p : List MemPlace} {α : Type} {d : Kd α} {ok : α → Prop}

/-- A slice that came in. -/
theorem arg_slice (ht : P.underlying t = some (.slice e)) (hc : P.cellsOf e = d.sz) (he : Opens P e d ok) (hv : Value.okWide P W r base t v) (h : DataW.Trod enc P W base' spare held t v dd p) :
    ∃ A c l, v = .slice A l.length c ∧ l.length ≤ c ∧ d.C W A l.length l ∧ (∀ a, a ∈ l → ok a) ∧ l.length ≤ 9223372036854775807 := by
  obtain ⟨A, len, cap, rfl⟩ := okWide_slice ht hv
  obtain ⟨fuel, hf⟩ := h
  obtain ⟨l, ⟨A', c', hcs, hlc, hC⟩, hok, hl⟩ := opens_slice ht hc he H enc W base' spare held fuel _ _ hf
  simp [Value.cells] at hcs
  obtain ⟨rfl, rfl, rfl⟩ := hcs
  exact ⟨_, _, l, rfl, hlc, hC, hok, hl⟩

/-- A struct that came in by value. -/
theorem arg_struct {fs : Array Field} (ht : P.underlying t = some (.struct fs)) (ho : Opens P t d ok) (hv : Value.okWide P W r base t v) (h : DataW.Trod enc P W base' spare held t v dd p) :
    ∃ cs a, v = .agg cs ∧ d.K W a cs.toList ∧ ok a := by
  obtain ⟨cs, rfl, hsz⟩ := okWide_struct ht hv
  obtain ⟨fuel, hf⟩ := h
  obtain ⟨a, ha, hok⟩ := ho H enc W base' spare held fuel _ _ hf
  exact ⟨cs, a, rfl, by simpa [Value.cells] using ha, hok⟩
end

/-! ### arguments read again -/
theorem below_trodAll {H : Type} {enc : TypeId × Value → H} {P : Program} (hl : laidOutB P = true) {W W' : World} (hb : Below W.heap.size W W') :
    ∀ {ts : List TypeId} {vs : List Value} {ds : List (DataW H)} {ps : List MemPlace}, (∀ t, t ∈ ts → P.readableRec t = true ∧ t < P.types.size) →
      DataW.TrodAll enc P W 0 (fun _ => true) true ts vs ds ps → DataW.TrodAll enc P W' 0 (fun b => decide (b < W.heap.size)) true ts vs ds ps
  | [], [], [], _, _, h => h
  | t :: ts, v :: vs, d :: ds, ps, hr, h => by
    obtain ⟨p, q, h1, h2, h3⟩ := h
    have hlt : ∀ x ∈ p, x.block < W.heap.size := by
      obtain ⟨m, hm⟩ := h1
      exact DataW.trod_lt m _ _ _ hm
    exact ⟨p, q, Below.trod hl (hr t List.mem_cons_self).1 (hr t List.mem_cons_self).2 h1 hb hlt, below_trodAll hl hb (fun t ht => hr t (List.mem_cons_of_mem _ ht)) h2, h3⟩
  | [], [], _ :: _, _, _, h => h.elim
  | [], _ :: _, _, _, _, h => h.elim
  | _ :: _, [], _, _, _, h => h.elim
  | _ :: _, _ :: _, [], _, _, h => h.elim
end Go.Proofs.YtplcdbhklepkgaaDoor.Open
