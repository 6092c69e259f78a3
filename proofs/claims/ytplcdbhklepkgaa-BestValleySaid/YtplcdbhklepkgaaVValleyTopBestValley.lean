/- BestValley: for every network and every origin the call returns true: each route that a round chooses leads to the origin without a loop and without a valley. No condition. -/
import Derived.Test.YtplcdbhklepkgaaVValleyMBestVBS
namespace Go.Proofs.Ytplcdbhklepkgaa.BS
def ok71 (x : S71) : Prop := (Lit.int .i64 x.f0).wf = true ∧ (Lit.int .i64 x.f1).wf = true ∧ (Lit.int .i64 x.f2).wf = true ∧ (Lit.int .i64 x.f3).wf = true ∧ (Lit.int .i64 x.f4).wf = true
end Go.Proofs.Ytplcdbhklepkgaa.BS
namespace Go.Proofs.Ytplcdbhklepkgaa.TopBestValley
open Go.RowKit Go.Proofs.YtplcdbhklepkgaaW.PrintWords Go.Proofs.YtplcdbhklepkgaaW.PrintLast Go.Proofs.YtplcdbhklepkgaaW.PrintMore Go.Proofs.Ytplcdbhklepkgaa.BS
set_option linter.unusedVariables false
theorem walk (a0_0 : Int) (A0_1 : Option Addr) (c0_1 : Nat) (l0_1 : List (S71)) (a1 : Int) (a2 : Int) (W : World)
    (w0_0 : (Lit.int .i64 a0_0).wf = true)
    (hr0_1 : Kd.C k71 W A0_1 l0_1.length l0_1) (hc0_1 : l0_1.length ≤ c0_1) (hk0_1 : ∀ a, a ∈ l0_1 → ok71 a) (hl0_1 : l0_1.length ≤ 9223372036854775807)
    (w1 : (Lit.int .i64 a1).wf = true)
    (w2 : (Lit.int .i64 a2).wf = true) :
    Calls Try.prog 7 #[.agg #[.int .i64 a0_0, .slice A0_1 l0_1.length c0_1], .int .i64 a1, .int .i64 a2] W fun e W' => e = .returned (.bool true) ∧ Below W.heap.size W W' :=
  g1_.calls 3001 a0_0 A0_1 c0_1 l0_1 a1 a2 true W hr0_1 hc0_1 (law_valley a0_0 l0_1 a1 a2)
end Go.Proofs.Ytplcdbhklepkgaa.TopBestValley
