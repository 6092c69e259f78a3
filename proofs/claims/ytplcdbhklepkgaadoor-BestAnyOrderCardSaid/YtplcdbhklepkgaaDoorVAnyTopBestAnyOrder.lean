/- BestAnyOrder: for every list of routes and every list of keys the call returns true: the one chosen is alike whatever order the list has. The package variable ten holds what the program's text lays. -/
import Derived.Test.YtplcdbhklepkgaaDoorVAnyMPathEBO
namespace Go.Proofs.YtplcdbhklepkgaaDoor.BO
def ok29 (x : S29) : Prop := (Lit.int .u32 x.f0).wf = true ∧ (Lit.int .i64 x.f1).wf = true
def ok31 (x : S31) : Prop := ok29 x.f0 ∧ ((∀ a, a ∈ x.f1 → (Lit.int .i64 a).wf = true) ∧ x.f1.length ≤ 9223372036854775807) ∧ (Lit.int .i64 x.f2).wf = true ∧ (Lit.int .i64 x.f3).wf = true ∧ ((∀ a, a ∈ x.f4 → (Lit.int .i64 a).wf = true) ∧ x.f4.length ≤ 9223372036854775807)
end Go.Proofs.YtplcdbhklepkgaaDoor.BO
namespace Go.Proofs.YtplcdbhklepkgaaDoor.TopBestAnyOrder
open Go.RowKit Go.Proofs.YtplcdbhklepkgaaDoorW.PrintWords Go.Proofs.YtplcdbhklepkgaaDoorW.PrintLast Go.Proofs.YtplcdbhklepkgaaDoorW.PrintMore Go.Proofs.YtplcdbhklepkgaaDoor.BO
set_option linter.unusedVariables false
theorem walk (A0 : Option Addr) (c0 : Nat) (l0 : List (S31)) (A1 : Option Addr) (c1 : Nat) (l1 : List Int) (W : World)
    (hr0 : Kd.C k31 W A0 l0.length l0) (hc0 : l0.length ≤ c0) (hk0 : ∀ a, a ∈ l0 → ok31 a) (hl0 : l0.length ≤ 9223372036854775807)
    (hr1 : Kd.C (Kd.int .i64) W A1 l1.length l1) (hc1 : l1.length ≤ c1) (hk1 : ∀ a, a ∈ l1 → (Lit.int .i64 a).wf = true) (hl1 : l1.length ≤ 9223372036854775807)
    (t0_ : W.cell? ⟨0, 0, none⟩ = some (.int .u32 167772160)) (t1_ : W.cell? ⟨0, 1, none⟩ = some (.int .i64 8)) :
    Calls Tryd.prog 3 #[.slice A0 l0.length c0, .slice A1 l1.length c1] W fun e W' => e = .returned (.bool true) ∧ Below W.heap.size W W' := by
  obtain ⟨k, h⟩ := law_any l0 l1
  exact g13_.calls k A0 c0 l0 A1 c1 l1 true W hr0 hc0 hr1 hc1 t0_ t1_ h
end Go.Proofs.YtplcdbhklepkgaaDoor.TopBestAnyOrder
