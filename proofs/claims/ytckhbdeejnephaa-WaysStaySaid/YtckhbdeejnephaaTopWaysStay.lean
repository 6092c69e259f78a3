/- WaysStay: for every list of next hops, every flow and every number the call returns true. No condition. -/
import Derived.Test.YtckhbdeejnephaaMStayTS
namespace Go.Proofs.Ytckhbdeejnephaa.TS
def ok35 (x : S35) : Prop := (Lit.int .i64 x.f0).wf = true ∧ (Lit.int .u32 x.f1).wf = true
end Go.Proofs.Ytckhbdeejnephaa.TS
namespace Go.Proofs.Ytckhbdeejnephaa.TopWaysStay
open Go.RowKit Go.Proofs.YtckhbdeejnephaaW.PrintWords Go.Proofs.YtckhbdeejnephaaW.PrintLast Go.Proofs.YtckhbdeejnephaaW.PrintMore Go.Proofs.Ytckhbdeejnephaa.TS
set_option linter.unusedVariables false
theorem walk (A0 : Option Addr) (c0 : Nat) (l0 : List (S35)) (a1_0 : Int) (a1_1 : Int) (a1_2 : Int) (a1_3 : Int) (a1_4 : Int) (a2 : Int) (W : World)
    (hr0 : Kd.C k35 W A0 l0.length l0) (hc0 : l0.length ≤ c0) (hk0 : ∀ a, a ∈ l0 → ok35 a) (hl0 : l0.length ≤ 9223372036854775807)
    (w1_0 : (Lit.int .u32 a1_0).wf = true)
    (w1_1 : (Lit.int .u32 a1_1).wf = true)
    (w1_2 : (Lit.int .i64 a1_2).wf = true)
    (w1_3 : (Lit.int .i64 a1_3).wf = true)
    (w1_4 : (Lit.int .i64 a1_4).wf = true)
    (w2 : (Lit.int .i64 a2).wf = true) :
    Calls Try.prog 4 #[.slice A0 l0.length c0, .agg #[.int .u32 a1_0, .int .u32 a1_1, .int .i64 a1_2, .int .i64 a1_3, .int .i64 a1_4], .int .i64 a2] W fun e W' => e = .returned (.bool true) ∧ Below W.heap.size W W' := by
  obtain ⟨k, h⟩ := law_s l0 a1_0 a1_1 a1_2 a1_3 a1_4 a2
  exact patchbaykeep2_WaysStay.calls k A0 c0 l0 a1_0 a1_1 a1_2 a1_3 a1_4 a2 true W hr0 hc0 h
end Go.Proofs.Ytckhbdeejnephaa.TopWaysStay
