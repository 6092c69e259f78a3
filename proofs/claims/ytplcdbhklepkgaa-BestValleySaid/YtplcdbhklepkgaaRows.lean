/-
  No cell of these rows narrows 'for every input' (looked for: loops, veiled, ifaces, maps, wideKeys, modest, calm, conditions, laid).
  DERIVED. THE GIVEN ROWS OF THIS SEAT. 5 by the template 'for every input the law returns true; each argument reads behind the call as it read before'; 0 by the template 'total and deterministic' (their statements: YtplcdbhklepkgaaTotals.lean).
  GIVEN WITH THE SEED: the statements are not yours to turn. If you find one false, say at which input.
  Laid BY PROGRAM, IN A SANDBOX (cutbox-rows.mjs): the forced cells as the released guide's own fill.sh prints them over the translation 340aaabfb945baa9… (all of the seat's roots in one cut). By AI agents, Wed Nov 11 2026. No macro, syntax, notation, axiom, sorry.
-/
import Derived.Test.YtplcdbhklepkgaaChecked
import GoSem.Claim
import GoSem.ClaimJoined
import GoSem.ClaimMapViews
import Derived.JoinedTies
import Derived.KernelRfl
namespace Go.Proofs.Ytplcdbhklepkgaa
/- THE CELL 'sum', in the pinned program and in every row, IS THE sha256 OF THE DUMP (.gsa) THAT YtplcdbhklepkgaaProg.lean LOADS. Nothing in Lean hashes anything: it is a label: what it is worth is what the hold of that sum in a sandbox is worth. -/
noncomputable def Try.pinned : Pinned := { name := "ytplcdbhklepkgaa", sum := "340aaabfb945baa9d2cb23b77dcd91cddc91b204c80a2ea4ad8bf9c6f214404d", checked := Try.checked }
namespace Rows
def none {H : Type} : Left H := { results := [], args := [] }

/-- 'patchbaykeep2.DampFalls': WHATEVER THE INPUT: true; the input reads as it did. -/
def dampFallsSpec : ChangeSpec := { name := "dampFalls", fn := fun _ => fun
  | [d1, d2, d3, d4] => { results := [.lit (.bool true)], args := [d1, d2, d3, d4] }
  | _ => none }
def dampFallsRow : OpenClaim := { program := "ytplcdbhklepkgaa", sum := "340aaabfb945baa9d2cb23b77dcd91cddc91b204c80a2ea4ad8bf9c6f214404d", func := "patchbay/patchbaykeep2.DampFalls", spec := "dampFalls", apart := false }
def DampFallsSaid : Prop := dampFallsRow.holds Try.pinned (OpenSpec.ofChange dampFallsSpec)

/-- ITS FALSE NEIGHBOUR: 'it returns false'. Refute it at one input. -/
def dampFallsWrong : ChangeSpec := { name := "dampFalls", fn := fun _ => fun
  | [d1, d2, d3, d4] => { results := [.lit (.bool false)], args := [d1, d2, d3, d4] }
  | _ => none }
def DampFallsWrongFalsely : Prop := dampFallsRow.holds Try.pinned (OpenSpec.ofChange dampFallsWrong)

/-- 'patchbaykeep2.DampFlaps': WHATEVER THE INPUT: true; the input reads as it did. -/
def dampFlapsSpec : ChangeSpec := { name := "dampFlaps", fn := fun _ => fun
  | [d1, d2] => { results := [.lit (.bool true)], args := [d1, d2] }
  | _ => none }
def dampFlapsRow : OpenClaim := { program := "ytplcdbhklepkgaa", sum := "340aaabfb945baa9d2cb23b77dcd91cddc91b204c80a2ea4ad8bf9c6f214404d", func := "patchbay/patchbaykeep2.DampFlaps", spec := "dampFlaps", apart := false }
def DampFlapsSaid : Prop := dampFlapsRow.holds Try.pinned (OpenSpec.ofChange dampFlapsSpec)

/-- ITS FALSE NEIGHBOUR: 'it returns false'. Refute it at one input. -/
def dampFlapsWrong : ChangeSpec := { name := "dampFlaps", fn := fun _ => fun
  | [d1, d2] => { results := [.lit (.bool false)], args := [d1, d2] }
  | _ => none }
def DampFlapsWrongFalsely : Prop := dampFlapsRow.holds Try.pinned (OpenSpec.ofChange dampFlapsWrong)

/-- 'patchbaykeep2.DampWhen': WHATEVER THE INPUT: true; the input reads as it did. -/
def dampWhenSpec : ChangeSpec := { name := "dampWhen", fn := fun _ => fun
  | [d1, d2, d3, d4] => { results := [.lit (.bool true)], args := [d1, d2, d3, d4] }
  | _ => none }
def dampWhenRow : OpenClaim := { program := "ytplcdbhklepkgaa", sum := "340aaabfb945baa9d2cb23b77dcd91cddc91b204c80a2ea4ad8bf9c6f214404d", func := "patchbay/patchbaykeep2.DampWhen", spec := "dampWhen", apart := false }
def DampWhenSaid : Prop := dampWhenRow.holds Try.pinned (OpenSpec.ofChange dampWhenSpec)

/-- ITS FALSE NEIGHBOUR: 'it returns false'. Refute it at one input. -/
def dampWhenWrong : ChangeSpec := { name := "dampWhen", fn := fun _ => fun
  | [d1, d2, d3, d4] => { results := [.lit (.bool false)], args := [d1, d2, d3, d4] }
  | _ => none }
def DampWhenWrongFalsely : Prop := dampWhenRow.holds Try.pinned (OpenSpec.ofChange dampWhenWrong)

/-- 'patchbaykeep2.BestSettles': WHATEVER THE INPUT: true; the input reads as it did. -/
def bestSettlesSpec : ChangeSpec := { name := "bestSettles", fn := fun _ => fun
  | [d1, d2] => { results := [.lit (.bool true)], args := [d1, d2] }
  | _ => none }
def bestSettlesRow : OpenClaim := { program := "ytplcdbhklepkgaa", sum := "340aaabfb945baa9d2cb23b77dcd91cddc91b204c80a2ea4ad8bf9c6f214404d", func := "patchbay/patchbaykeep2.BestSettles", spec := "bestSettles", unfollowed := true, recurses := true, apart := false }
def BestSettlesSaid : Prop := bestSettlesRow.holds Try.pinned (OpenSpec.ofChange bestSettlesSpec)

/-- ITS FALSE NEIGHBOUR: 'it returns false'. Refute it at one input. -/
def bestSettlesWrong : ChangeSpec := { name := "bestSettles", fn := fun _ => fun
  | [d1, d2] => { results := [.lit (.bool false)], args := [d1, d2] }
  | _ => none }
def BestSettlesWrongFalsely : Prop := bestSettlesRow.holds Try.pinned (OpenSpec.ofChange bestSettlesWrong)

/-- 'patchbaykeep2.BestValley': WHATEVER THE INPUT: true; the input reads as it did. -/
def bestValleySpec : ChangeSpec := { name := "bestValley", fn := fun _ => fun
  | [d1, d2, d3] => { results := [.lit (.bool true)], args := [d1, d2, d3] }
  | _ => none }
def bestValleyRow : OpenClaim := { program := "ytplcdbhklepkgaa", sum := "340aaabfb945baa9d2cb23b77dcd91cddc91b204c80a2ea4ad8bf9c6f214404d", func := "patchbay/patchbaykeep2.BestValley", spec := "bestValley", unfollowed := true, recurses := true, apart := false }
def BestValleySaid : Prop := bestValleyRow.holds Try.pinned (OpenSpec.ofChange bestValleySpec)

/-- ITS FALSE NEIGHBOUR: 'it returns false'. Refute it at one input. -/
def bestValleyWrong : ChangeSpec := { name := "bestValley", fn := fun _ => fun
  | [d1, d2, d3] => { results := [.lit (.bool false)], args := [d1, d2, d3] }
  | _ => none }
def BestValleyWrongFalsely : Prop := bestValleyRow.holds Try.pinned (OpenSpec.ofChange bestValleyWrong)

/- THE SECOND FORM. 'bulk': how many values and letters a reading holds, each counted each time it is reached (what is shared counts as often as it is met; a slice's spare places count too). A statement '..UptoSaid' is the law's where the arguments, and the package variables that the reading takes, are together of bulk at most 1048576: NARROWER than '..Said'. Prove '..Said' where nothing that the law and all that it calls make is longer than what came in: it says more and counts as full. Else prove '..UptoSaid'. A law counts once. -/
mutual
def uptoBulk {H : Type} : DataW H → Nat
  | .lit (.string bytes) => bytes.length + 1
  | .lit _ => 1
  | .nil => 1
  | .ptr d => uptoBulk d + 1
  | .slice elems spare => uptoBulkAll elems + uptoBulkAll spare + 1
  | .agg parts => uptoBulkAll parts + 1
  | .iface _ d => uptoBulk d + 1
  | .map entries => uptoBulkEntries entries + 1
  | .held _ => 1
def uptoBulkAll {H : Type} : List (DataW H) → Nat
  | [] => 0
  | d :: r => uptoBulk d + uptoBulkAll r
def uptoBulkEntries {H : Type} : List (Lit × DataW H) → Nat
  | [] => 0
  | x :: r => uptoBulkEntry x + uptoBulkEntries r
def uptoBulkEntry {H : Type} : Lit × DataW H → Nat
  | (.string bytes, d) => bytes.length + uptoBulk d + 1
  | (_, d) => uptoBulk d + 1
 end
def uptoSmall : (H : Type) → List (DataW H) → Bool := fun _ ds => decide (uptoBulkAll ds ≤ 1048576)
def OpenSpec.upto (s : _root_.Go.ChangeSpec) : _root_.Go.OpenSpec := { _root_.Go.OpenSpec.ofChange s with cond := some uptoSmall }

/-- 'patchbaykeep2.DampFalls', WHERE WHAT IT READS IS OF BULK AT MOST 1048576: true; the input reads as it did. -/
def dampFallsUptoRow : OpenClaim := { program := "ytplcdbhklepkgaa", sum := "340aaabfb945baa9d2cb23b77dcd91cddc91b204c80a2ea4ad8bf9c6f214404d", func := "patchbay/patchbaykeep2.DampFalls", spec := "dampFalls", apart := false, narrowed := true }
def DampFallsUptoSaid : Prop := dampFallsUptoRow.holds Try.pinned (OpenSpec.upto dampFallsSpec)

/-- 'patchbaykeep2.DampFlaps', WHERE WHAT IT READS IS OF BULK AT MOST 1048576: true; the input reads as it did. -/
def dampFlapsUptoRow : OpenClaim := { program := "ytplcdbhklepkgaa", sum := "340aaabfb945baa9d2cb23b77dcd91cddc91b204c80a2ea4ad8bf9c6f214404d", func := "patchbay/patchbaykeep2.DampFlaps", spec := "dampFlaps", apart := false, narrowed := true }
def DampFlapsUptoSaid : Prop := dampFlapsUptoRow.holds Try.pinned (OpenSpec.upto dampFlapsSpec)

/-- 'patchbaykeep2.DampWhen', WHERE WHAT IT READS IS OF BULK AT MOST 1048576: true; the input reads as it did. -/
def dampWhenUptoRow : OpenClaim := { program := "ytplcdbhklepkgaa", sum := "340aaabfb945baa9d2cb23b77dcd91cddc91b204c80a2ea4ad8bf9c6f214404d", func := "patchbay/patchbaykeep2.DampWhen", spec := "dampWhen", apart := false, narrowed := true }
def DampWhenUptoSaid : Prop := dampWhenUptoRow.holds Try.pinned (OpenSpec.upto dampWhenSpec)

/-- 'patchbaykeep2.BestSettles', WHERE WHAT IT READS IS OF BULK AT MOST 1048576: true; the input reads as it did. -/
def bestSettlesUptoRow : OpenClaim := { program := "ytplcdbhklepkgaa", sum := "340aaabfb945baa9d2cb23b77dcd91cddc91b204c80a2ea4ad8bf9c6f214404d", func := "patchbay/patchbaykeep2.BestSettles", spec := "bestSettles", unfollowed := true, recurses := true, apart := false, narrowed := true }
def BestSettlesUptoSaid : Prop := bestSettlesUptoRow.holds Try.pinned (OpenSpec.upto bestSettlesSpec)

/-- 'patchbaykeep2.BestValley', WHERE WHAT IT READS IS OF BULK AT MOST 1048576: true; the input reads as it did. -/
def bestValleyUptoRow : OpenClaim := { program := "ytplcdbhklepkgaa", sum := "340aaabfb945baa9d2cb23b77dcd91cddc91b204c80a2ea4ad8bf9c6f214404d", func := "patchbay/patchbaykeep2.BestValley", spec := "bestValley", unfollowed := true, recurses := true, apart := false, narrowed := true }
def BestValleyUptoSaid : Prop := bestValleyUptoRow.holds Try.pinned (OpenSpec.upto bestValleySpec)

end Rows
end Go.Proofs.Ytplcdbhklepkgaa
