/- PathGrows: for every route, domain and numbers the call returns true: the domain is on the way behind it was added, and adding it m and then n times is adding it m + n times. The package variable ten holds what the program's text lays. -/
import Derived.Test.YtplcdbhklepkgaaDoorVGroMGrowCPG
namespace Go.Proofs.YtplcdbhklepkgaaDoor.TopPathGrows
open Go.RowKit Go.Proofs.YtplcdbhklepkgaaDoorW.PrintWords Go.Proofs.YtplcdbhklepkgaaDoorW.PrintLast Go.Proofs.YtplcdbhklepkgaaDoorW.PrintMore Go.Proofs.YtplcdbhklepkgaaDoor.PG
set_option linter.unusedVariables false
theorem walk (a0_0 a0_1 : Int) (A0_2 : Option Addr) (c0_2 : Nat) (l0_2 : List Int) (a0_3 a0_4 : Int) (A0_5 : Option Addr) (c0_5 : Nat) (l0_5 : List Int) (a1 a2 a3 : Int) (W : World)
    (w0_0 : (Lit.int .u32 a0_0).wf = true)
    (w0_1 : (Lit.int .i64 a0_1).wf = true)
    (hr0_2 : Kd.C (Kd.int .i64) W A0_2 l0_2.length l0_2) (hc0_2 : l0_2.length ≤ c0_2) (hk0_2 : ∀ a, a ∈ l0_2 → (Lit.int .i64 a).wf = true) (hl0_2 : l0_2.length ≤ 9223372036854775807)
    (w0_3 : (Lit.int .i64 a0_3).wf = true)
    (w0_4 : (Lit.int .i64 a0_4).wf = true)
    (hr0_5 : Kd.C (Kd.int .i64) W A0_5 l0_5.length l0_5) (hc0_5 : l0_5.length ≤ c0_5) (hk0_5 : ∀ a, a ∈ l0_5 → (Lit.int .i64 a).wf = true) (hl0_5 : l0_5.length ≤ 9223372036854775807)
    (w1 : (Lit.int .i64 a1).wf = true)
    (w2 : (Lit.int .i64 a2).wf = true)
    (w3 : (Lit.int .i64 a3).wf = true)
    (t0_ : W.cell? ⟨0, 0, none⟩ = some (.int .u32 167772160)) (t1_ : W.cell? ⟨0, 1, none⟩ = some (.int .i64 8)) :
    Calls Tryd.prog 5 #[.agg #[.int .u32 a0_0, .int .i64 a0_1, .slice A0_2 l0_2.length c0_2, .int .i64 a0_3, .int .i64 a0_4, .slice A0_5 l0_5.length c0_5], .int .i64 a1, .int .i64 a2, .int .i64 a3] W fun e W' => e = .returned (.bool true) ∧ Below W.heap.size W W' := by
  obtain ⟨k, h⟩ := law_grows a0_0 a0_1 l0_2 a0_3 a0_4 l0_5 a1 a2 a3
  exact g1_.calls k a0_0 a0_1 A0_2 c0_2 l0_2 a0_3 a0_4 A0_5 c0_5 l0_5 a1 a2 a3 true W hr0_2 hc0_2 hr0_5 hc0_5 t0_ t1_ h
end Go.Proofs.YtplcdbhklepkgaaDoor.TopPathGrows
