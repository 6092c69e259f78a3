/- BestSettles: for every network and every origin the call returns true: a network without circles of providers settles, on routes that a further round does not change. No condition. -/
import Derived.Test.YtplcdbhklepkgaaVSettlesMBestSBS
namespace Go.Proofs.Ytplcdbhklepkgaa.BS
def ok71 (x : S71) : Prop := (Lit.int .i64 x.f0).wf = true ∧ (Lit.int .i64 x.f1).wf = true ∧ (Lit.int .i64 x.f2).wf = true ∧ (Lit.int .i64 x.f3).wf = true ∧ (Lit.int .i64 x.f4).wf = true
end Go.Proofs.Ytplcdbhklepkgaa.BS
namespace Go.Proofs.Ytplcdbhklepkgaa.TopBestSettles
open Go.RowKit Go.Proofs.YtplcdbhklepkgaaW.PrintWords Go.Proofs.YtplcdbhklepkgaaW.PrintLast Go.Proofs.YtplcdbhklepkgaaW.PrintMore Go.Proofs.Ytplcdbhklepkgaa.BS
set_option linter.unusedVariables false
theorem walk (a0_0 : Int) (A0_1 : Option Addr) (c0_1 : Nat) (l0_1 : List (S71)) (a1 : Int) (W : World)
    (w0_0 : (Lit.int .i64 a0_0).wf = true)
    (hr0_1 : Kd.C k71 W A0_1 l0_1.length l0_1) (hc0_1 : l0_1.length ≤ c0_1) (hk0_1 : ∀ a, a ∈ l0_1 → ok71 a) (hl0_1 : l0_1.length ≤ 9223372036854775807)
    (w1 : (Lit.int .i64 a1).wf = true) :
    Calls Try.prog 6 #[.agg #[.int .i64 a0_0, .slice A0_1 l0_1.length c0_1], .int .i64 a1] W fun e W' => e = .returned (.bool true) ∧ Below W.heap.size W W' :=
  g13_.calls 3001 a0_0 A0_1 c0_1 l0_1 a1 true W hr0_1 hc0_1 (law_settles a0_0 l0_1 a1)
end Go.Proofs.Ytplcdbhklepkgaa.TopBestSettles
