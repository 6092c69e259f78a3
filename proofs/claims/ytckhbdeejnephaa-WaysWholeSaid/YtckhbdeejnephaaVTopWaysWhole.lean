/- WaysWhole: for every packet, every id, ttl and rest and every list of next hops the call returns true. No condition. -/
import Derived.Test.YtckhbdeejnephaaVMWholeTW
namespace Go.Proofs.Ytckhbdeejnephaa.TW
def ok35 (x : S35) : Prop := (Lit.int .i64 x.f0).wf = true ∧ (Lit.int .u32 x.f1).wf = true
end Go.Proofs.Ytckhbdeejnephaa.TW
namespace Go.Proofs.Ytckhbdeejnephaa.TopWaysWhole
open Go.RowKit Go.Proofs.YtckhbdeejnephaaW.PrintWords Go.Proofs.YtckhbdeejnephaaW.PrintLast Go.Proofs.YtckhbdeejnephaaW.PrintMore Go.Proofs.Ytckhbdeejnephaa.TW
set_option linter.unusedVariables false
theorem walk (a0_0 : Int) (a0_1 : Int) (a0_2 : Int) (a0_3 : Int) (a0_4 : Int) (a0_5 : Int) (a0_6 : Bool) (a0_7 : Bool) (a0_8 : ByteArray) (a1 : Int) (a2 : Int) (a3 : ByteArray) (A4 : Option Addr) (c4 : Nat) (l4 : List (S35)) (W : World)
    (w0_0 : (Lit.int .u32 a0_0).wf = true)
    (w0_1 : (Lit.int .u32 a0_1).wf = true)
    (w0_2 : (Lit.int .i64 a0_2).wf = true)
    (w0_3 : (Lit.int .i64 a0_3).wf = true)
    (w0_4 : (Lit.int .i64 a0_4).wf = true)
    (w0_5 : (Lit.int .i64 a0_5).wf = true)
    (w0_8 : a0_8.size ≤ 9223372036854775807)
    (w1 : (Lit.int .i64 a1).wf = true)
    (w2 : (Lit.int .i64 a2).wf = true)
    (w3 : a3.size ≤ 9223372036854775807)
    (hr4 : Kd.C k35 W A4 l4.length l4) (hc4 : l4.length ≤ c4) (hk4 : ∀ a, a ∈ l4 → ok35 a) (hl4 : l4.length ≤ 9223372036854775807) :
    Calls Try.prog 5 #[.agg #[.int .u32 a0_0, .int .u32 a0_1, .int .i64 a0_2, .int .i64 a0_3, .int .i64 a0_4, .int .i64 a0_5, .bool a0_6, .bool a0_7, .string a0_8], .int .i64 a1, .int .i64 a2, .string a3, .slice A4 l4.length c4] W fun e W' => e = .returned (.bool true) ∧ Below W.heap.size W W' := by
  obtain ⟨k, h⟩ := law_w a0_0 a0_1 a0_2 a0_3 a0_4 a0_5 a0_6 a0_7 a0_8 a1 a2 a3 l4
  exact g1_.calls k a0_0 a0_1 a0_2 a0_3 a0_4 a0_5 a0_6 a0_7 a0_8 a1 a2 a3 A4 c4 l4 true W hr4 hc4 h
end Go.Proofs.Ytckhbdeejnephaa.TopWaysWhole
