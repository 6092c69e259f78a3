/-
  NARROWER THAN 'FOR EVERY INPUT', by the rows' own cells (each row's printed sentence says how): BestAnyOrder: laid · BestOfTwo: laid · PathGrows: laid.
  DERIVED. THE GIVEN ROWS OF THIS SEAT. 3 by the template 'for every input the law returns true; each argument reads behind the call as it read before'; 0 by the template 'total and deterministic' (their statements: YtplcdbhklepkgaaDoorTotals.lean).
  GIVEN WITH THE SEED: the statements are not yours to turn. If you find one false, say at which input.
  Laid BY PROGRAM, IN A SANDBOX (cutbox-rows.mjs): the forced cells as the released guide's own fill.sh prints them over the translation c203c55714bbd39e… (all of the seat's roots in one cut). By AI agents, Wed Nov 11 2026. No macro, syntax, notation, axiom, sorry.
-/
import Derived.Test.YtplcdbhklepkgaaDoorChecked
import GoSem.Claim
import GoSem.ClaimJoined
import GoSem.ClaimMapViews
import Derived.JoinedTies
import Derived.KernelRfl
namespace Go.Proofs.YtplcdbhklepkgaaDoor
/- THE CELL 'sum', in the pinned program and in every row, IS THE sha256 OF THE DUMP (.gsa) THAT YtplcdbhklepkgaaDoorProg.lean LOADS. Nothing in Lean hashes anything: it is a label: what it is worth is what the hold of that sum in a sandbox is worth. -/
noncomputable def Tryd.pinned : Pinned := { name := "ytplcdbhklepkgaadoor", sum := "c203c55714bbd39ed56c4928cf6deeeed009874b5eebc2f1419c191146f36463", checked := Tryd.checked }
namespace Rows
def none {H : Type} : Left H := { results := [], args := [] }

/- WHAT THE LISTED PACKAGE-LEVEL VARIABLES READ AS WHEN THE CALL BEGINS. Each datum BY PROGRAM (the guide's laid-datum.mjs) off the statement by which the dump's own 'gosem.cut.vars' lays the variable. In a bare row this is a premise. The card (YtplcdbhklepkgaaDoorCards.lean) ties it to the program's text. -/
def laid_patchbay_patchbaykeep2_ten {H : Type} : DataW H := .agg [.lit (.int .u32 167772160), .lit (.int .i64 8)]

/-- 'patchbaykeep2.BestAnyOrder': WHATEVER THE INPUT: true; the input reads as it did. -/
def bestAnyOrderSpec : ChangeSpec := { name := "bestAnyOrder", fn := fun _ => fun
  | [d1, d2] => { results := [.lit (.bool true)], args := [d1, d2] }
  | _ => none }
def bestAnyOrderRow : OpenClaim := { program := "ytplcdbhklepkgaadoor", sum := "c203c55714bbd39ed56c4928cf6deeeed009874b5eebc2f1419c191146f36463", func := "patchbay/patchbaykeep2.BestAnyOrder", spec := "bestAnyOrder", unfollowed := true, recurses := true, named := ["patchbay/patchbaykeep2.ten"], apart := false, laid := [("patchbay/patchbaykeep2.ten", laid_patchbay_patchbaykeep2_ten)] }
def BestAnyOrderSaid : Prop := bestAnyOrderRow.holds Tryd.pinned (OpenSpec.ofChange bestAnyOrderSpec)

/-- ITS FALSE NEIGHBOUR: 'it returns false'. Refute it at one input. -/
def bestAnyOrderWrong : ChangeSpec := { name := "bestAnyOrder", fn := fun _ => fun
  | [d1, d2] => { results := [.lit (.bool false)], args := [d1, d2] }
  | _ => none }
def BestAnyOrderWrongFalsely : Prop := bestAnyOrderRow.holds Tryd.pinned (OpenSpec.ofChange bestAnyOrderWrong)

/-- 'patchbaykeep2.BestOfTwo': WHATEVER THE INPUT: true; the input reads as it did. -/
def bestOfTwoSpec : ChangeSpec := { name := "bestOfTwo", fn := fun _ => fun
  | [d] => { results := [.lit (.bool true)], args := [d] }
  | _ => none }
def bestOfTwoRow : OpenClaim := { program := "ytplcdbhklepkgaadoor", sum := "c203c55714bbd39ed56c4928cf6deeeed009874b5eebc2f1419c191146f36463", func := "patchbay/patchbaykeep2.BestOfTwo", spec := "bestOfTwo", unfollowed := true, recurses := true, named := ["patchbay/patchbaykeep2.ten"], apart := false, laid := [("patchbay/patchbaykeep2.ten", laid_patchbay_patchbaykeep2_ten)] }
def BestOfTwoSaid : Prop := bestOfTwoRow.holds Tryd.pinned (OpenSpec.ofChange bestOfTwoSpec)

/-- ITS FALSE NEIGHBOUR: 'it returns false'. Refute it at one input. -/
def bestOfTwoWrong : ChangeSpec := { name := "bestOfTwo", fn := fun _ => fun
  | [d] => { results := [.lit (.bool false)], args := [d] }
  | _ => none }
def BestOfTwoWrongFalsely : Prop := bestOfTwoRow.holds Tryd.pinned (OpenSpec.ofChange bestOfTwoWrong)

/-- 'patchbaykeep2.PathGrows': WHATEVER THE INPUT: true; the input reads as it did. -/
def pathGrowsSpec : ChangeSpec := { name := "pathGrows", fn := fun _ => fun
  | [d1, d2, d3, d4] => { results := [.lit (.bool true)], args := [d1, d2, d3, d4] }
  | _ => none }
def pathGrowsRow : OpenClaim := { program := "ytplcdbhklepkgaadoor", sum := "c203c55714bbd39ed56c4928cf6deeeed009874b5eebc2f1419c191146f36463", func := "patchbay/patchbaykeep2.PathGrows", spec := "pathGrows", unfollowed := true, recurses := true, named := ["patchbay/patchbaykeep2.ten"], apart := false, laid := [("patchbay/patchbaykeep2.ten", laid_patchbay_patchbaykeep2_ten)] }
def PathGrowsSaid : Prop := pathGrowsRow.holds Tryd.pinned (OpenSpec.ofChange pathGrowsSpec)

/-- ITS FALSE NEIGHBOUR: 'it returns false'. Refute it at one input. -/
def pathGrowsWrong : ChangeSpec := { name := "pathGrows", fn := fun _ => fun
  | [d1, d2, d3, d4] => { results := [.lit (.bool false)], args := [d1, d2, d3, d4] }
  | _ => none }
def PathGrowsWrongFalsely : Prop := pathGrowsRow.holds Tryd.pinned (OpenSpec.ofChange pathGrowsWrong)

/- THE SECOND FORM. 'bulk': how many values and letters a reading holds, each counted each time it is reached (what is shared counts as often as it is met; a slice's spare places count too). A statement '..UptoSaid' is the law's where the arguments, and the package variables that the reading takes, are together of bulk at most 1048576: NARROWER than '..Said'. Prove '..Said' where nothing that the law and all that it calls make is longer than what came in: it says more and counts as full. Else prove '..UptoSaid'. A law counts once. -/
mutual
def uptoBulk {H : Type} : DataW H → Nat
  | .lit (.string bytes) => bytes.length + 1
  | .lit _ => 1
  | .nil => 1
  | .ptr d => uptoBulk d + 1
  | .slice elems spare => uptoBulkAll elems + uptoBulkAll spare + 1
  | .agg parts => uptoBulkAll parts + 1
  | .iface _ d => uptoBulk d + 1
  | .map entries => uptoBulkEntries entries + 1
  | .held _ => 1
def uptoBulkAll {H : Type} : List (DataW H) → Nat
  | [] => 0
  | d :: r => uptoBulk d + uptoBulkAll r
def uptoBulkEntries {H : Type} : List (Lit × DataW H) → Nat
  | [] => 0
  | x :: r => uptoBulkEntry x + uptoBulkEntries r
def uptoBulkEntry {H : Type} : Lit × DataW H → Nat
  | (.string bytes, d) => bytes.length + uptoBulk d + 1
  | (_, d) => uptoBulk d + 1
 end
def uptoSmall : (H : Type) → List (DataW H) → Bool := fun _ ds => decide (uptoBulkAll ds ≤ 1048576)
def OpenSpec.upto (s : _root_.Go.ChangeSpec) : _root_.Go.OpenSpec := { _root_.Go.OpenSpec.ofChange s with cond := some uptoSmall }

/-- 'patchbaykeep2.BestAnyOrder', WHERE WHAT IT READS IS OF BULK AT MOST 1048576: true; the input reads as it did. -/
def bestAnyOrderUptoRow : OpenClaim := { program := "ytplcdbhklepkgaadoor", sum := "c203c55714bbd39ed56c4928cf6deeeed009874b5eebc2f1419c191146f36463", func := "patchbay/patchbaykeep2.BestAnyOrder", spec := "bestAnyOrder", unfollowed := true, recurses := true, named := ["patchbay/patchbaykeep2.ten"], apart := false, laid := [("patchbay/patchbaykeep2.ten", laid_patchbay_patchbaykeep2_ten)], narrowed := true }
def BestAnyOrderUptoSaid : Prop := bestAnyOrderUptoRow.holds Tryd.pinned (OpenSpec.upto bestAnyOrderSpec)

/-- 'patchbaykeep2.BestOfTwo', WHERE WHAT IT READS IS OF BULK AT MOST 1048576: true; the input reads as it did. -/
def bestOfTwoUptoRow : OpenClaim := { program := "ytplcdbhklepkgaadoor", sum := "c203c55714bbd39ed56c4928cf6deeeed009874b5eebc2f1419c191146f36463", func := "patchbay/patchbaykeep2.BestOfTwo", spec := "bestOfTwo", unfollowed := true, recurses := true, named := ["patchbay/patchbaykeep2.ten"], apart := false, laid := [("patchbay/patchbaykeep2.ten", laid_patchbay_patchbaykeep2_ten)], narrowed := true }
def BestOfTwoUptoSaid : Prop := bestOfTwoUptoRow.holds Tryd.pinned (OpenSpec.upto bestOfTwoSpec)

/-- 'patchbaykeep2.PathGrows', WHERE WHAT IT READS IS OF BULK AT MOST 1048576: true; the input reads as it did. -/
def pathGrowsUptoRow : OpenClaim := { program := "ytplcdbhklepkgaadoor", sum := "c203c55714bbd39ed56c4928cf6deeeed009874b5eebc2f1419c191146f36463", func := "patchbay/patchbaykeep2.PathGrows", spec := "pathGrows", unfollowed := true, recurses := true, named := ["patchbay/patchbaykeep2.ten"], apart := false, laid := [("patchbay/patchbaykeep2.ten", laid_patchbay_patchbaykeep2_ten)], narrowed := true }
def PathGrowsUptoSaid : Prop := pathGrowsUptoRow.holds Tryd.pinned (OpenSpec.upto pathGrowsSpec)

end Rows
end Go.Proofs.YtplcdbhklepkgaaDoor
