/- BestSettles, BestValley, the plain law: the two constants, a network that does not settle and a choice of two routes. No condition. -/
import Derived.Test.YtplcdbhklepkgaaVValleyMBestCBS
import Derived.Test.YtplcdbhklepkgaaVValleyBSx17
namespace Go.Proofs.Ytplcdbhklepkgaa.BS
open Go.RowKit Go.Proofs.YtplcdbhklepkgaaW.PrintWords Go.Proofs.YtplcdbhklepkgaaW.PrintLast Go.Proofs.YtplcdbhklepkgaaW.PrintMore Go.Proofs.Ytplcdbhklepkgaa.Num Go.Proofs.Ytplcdbhklepkgaa.BestM
set_option linter.unusedVariables false
def gadgetIs : Option (Int × List S71) := some (4, [⟨1, 0, 1, 0, 0⟩, ⟨1, 2, 2, 400, 0⟩, ⟨2, 0, 1, 0, 0⟩, ⟨2, 3, 2, 400, 0⟩, ⟨3, 0, 1, 0, 0⟩, ⟨3, 1, 2, 400, 0⟩])
theorem gadget_20 : g16_.f 20 = gadgetIs := by kernel_rfl
theorem lives_200 : g18_.f 200 = some true := by kernel_rfl
theorem settle_200 : (best_Settle.f 200 4 [⟨1, 0, 1, 0, 0⟩, ⟨1, 2, 2, 400, 0⟩, ⟨2, 0, 1, 0, 0⟩, ⟨2, 3, 2, 400, 0⟩, ⟨3, 0, 1, 0, 0⟩, ⟨3, 1, 2, 400, 0⟩] 0 50).map (fun r => r.2.2) = some 12 := by kernel_rfl
theorem gadget_k (k : Nat) (hk : 20 ≤ k) : g16_.f k = gadgetIs := at_rounds (g := fun k => g16_.f k) (fun k => g16_.mono _) hk gadget_20
theorem lives_k (k : Nat) (hk : 200 ≤ k) : g18_.f k = some true := at_rounds (g := fun k => g18_.f k) (fun k => g18_.mono _) hk lives_200
theorem settle_k (k : Nat) (hk : 200 ≤ k) : ∃ l m, best_Settle.f k 4 [⟨1, 0, 1, 0, 0⟩, ⟨1, 2, 2, 400, 0⟩, ⟨2, 0, 1, 0, 0⟩, ⟨2, 3, 2, 400, 0⟩, ⟨3, 0, 1, 0, 0⟩, ⟨3, 1, 2, 400, 0⟩] 0 50 = some (l, m, 12) := by
  have h := settle_200
  obtain ⟨⟨l, m, e⟩, h1, h2⟩ := Option.map_eq_some_iff.mp h
  simp only at h2
  subst h2
  exact ⟨l, m, at_rounds (g := fun k => best_Settle.f k 4 [⟨1, 0, 1, 0, 0⟩, ⟨1, 2, 2, 400, 0⟩, ⟨2, 0, 1, 0, 0⟩, ⟨2, 3, 2, 400, 0⟩, ⟨3, 0, 1, 0, 0⟩, ⟨3, 1, 2, 400, 0⟩] 0 50) (fun k => best_Settle.mono _ _ _ _ _) hk h1⟩
end Go.Proofs.Ytplcdbhklepkgaa.BS
