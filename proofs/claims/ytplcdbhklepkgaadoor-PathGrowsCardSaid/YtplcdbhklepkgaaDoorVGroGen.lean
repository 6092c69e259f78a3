/- Words for texts that gen.py prints: a call through a function value that is known, in a region that draws its order; a cell of a row read behind a store of several cells into the same row. No condition. -/
import Derived.Test.YtplcdbhklepkgaaDoorVGroWLast
import Derived.Test.YtplcdbhklepkgaaDoorVGroWMore
namespace Go.Proofs.YtplcdbhklepkgaaDoor.GenWords
abbrev Yy : Bool := true
abbrev Nn : Bool := false
open Go.RowKit Go.Proofs.YtplcdbhklepkgaaDoorW.PrintWords Go.Proofs.YtplcdbhklepkgaaDoorW.PrintLast
section
variable {P : Program} {ops : Array Oper} {Q : Exit → Act → World → Prop}
theorem goesV_ {oi : Oper} {N : Option Tmp} {a : Act} {w : World} {K : Act → World → Prop} {f : FuncId} {fn : Func} {t : Tmp} {caps : Array Value} {as : Array Operand} {ts : Array TypeId} (hf : P.funcs[f]? = some fn) (hname : (fn.name == "runtime.NumGoroutine") = false) (hb : fn.body.isSome = true) (args : Array Value)
    (hw : Region.wanted oi (yielded ops a.tmps) = true) (hN : oi.dst = N) (hop : oi.op = .call { callee := .value (.tmp t), args := as, argTypes := ts }) (hfun : a.eval (.tmp t) = .func (.func f) #[] caps) (hargs : as.map a.eval ++ caps = args)
    (h : Calls P f args w fun e w' => ∃ v, e = .returned v ∧ K (a.put N v) w') : if Region.wanted oi (yielded ops a.tmps) = true then Oper.wp P oi a w K Q else K (a.put N undef) w := by
  refine call_ f args hw hN ?_ h
  have he := enters_ hf hname hb args w
  unfold execOp
  simp [hop, resolve, Deferred.ofValue, invoke, hfun, hargs, he]
end
theorem seg_frozen {w : World} {g : Nat} : ∀ (vs : List Value) (o : Nat) {p : Addr} {b : Bool}, (w.setCells g o vs).frozen? p = b → w.frozen? p = b
  | [], _, _, _, h => h
  | v :: r, o, p, b, h => by
    rw [World.setCells] at h
    have := seg_frozen r (o + 1) h
    simpa using this
theorem seg_cell {g : Nat} : ∀ (vs : List Value) (o p : Nat) {w : World} {v : Value}, (∀ k, k < vs.length → p ≠ o + k) → (w.setCells g o vs).cell? ⟨g, p, none⟩ = some v → w.cell? ⟨g, p, none⟩ = some v
  | [], _, _, _, _, _, h => h
  | u :: r, o, p, w, v, hp, h => by
    rw [World.setCells] at h
    have h2 := seg_cell r (o + 1) p (fun k hk => by have := hp (k + 1) (by simpa using hk); omega) h
    have h0 := hp 0 (by simp)
    rw [World.cell?_setCell_other] at h2
    · exact h2
    · intro e
      injection e with _ e2
      omega
end Go.Proofs.YtplcdbhklepkgaaDoor.GenWords
