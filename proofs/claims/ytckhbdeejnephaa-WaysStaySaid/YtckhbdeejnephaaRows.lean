/-
  No cell of these rows narrows 'for every input' (looked for: loops, veiled, ifaces, maps, wideKeys, modest, calm, conditions, laid).
  DERIVED. THE GIVEN ROWS OF THIS SEAT. 3 by the template 'for every input the law returns true; each argument reads behind the call as it read before'; 0 by the template 'total and deterministic' (their statements: YtckhbdeejnephaaTotals.lean).
  GIVEN WITH THE SEED: the statements are not yours to turn. If you find one false, say at which input.
  Laid BY PROGRAM, IN A SANDBOX (cutbox-rows.mjs): the forced cells as the released guide's own fill.sh prints them over the translation bddae544045e98a7… (all of the seat's roots in one cut). By AI agents, Wed Nov 11 2026. No macro, syntax, notation, axiom, sorry.
-/
import Derived.Test.YtckhbdeejnephaaChecked
import GoSem.Claim
import GoSem.ClaimJoined
import GoSem.ClaimMapViews
import Derived.JoinedTies
import Derived.KernelRfl
namespace Go.Proofs.Ytckhbdeejnephaa
/- THE CELL 'sum', in the pinned program and in every row, IS THE sha256 OF THE DUMP (.gsa) THAT YtckhbdeejnephaaProg.lean LOADS. Nothing in Lean hashes anything: it is a label: what it is worth is what the hold of that sum in a sandbox is worth. -/
noncomputable def Try.pinned : Pinned := { name := "ytckhbdeejnephaa", sum := "bddae544045e98a7741d89c0662f8088af76662876dc4f3e35f4c72fb4d2dd3d", checked := Try.checked }
namespace Rows
def none {H : Type} : Left H := { results := [], args := [] }

/-- 'patchbaykeep2.WaysAnyOrder': WHATEVER THE INPUT: true; the input reads as it did. -/
def waysAnyOrderSpec : ChangeSpec := { name := "waysAnyOrder", fn := fun _ => fun
  | [d1, d2, d3] => { results := [.lit (.bool true)], args := [d1, d2, d3] }
  | _ => none }
def waysAnyOrderRow : OpenClaim := { program := "ytckhbdeejnephaa", sum := "bddae544045e98a7741d89c0662f8088af76662876dc4f3e35f4c72fb4d2dd3d", func := "patchbay/patchbaykeep2.WaysAnyOrder", spec := "waysAnyOrder", unfollowed := true, recurses := true, apart := false }
def WaysAnyOrderSaid : Prop := waysAnyOrderRow.holds Try.pinned (OpenSpec.ofChange waysAnyOrderSpec)

/-- ITS FALSE NEIGHBOUR: 'it returns false'. Refute it at one input. -/
def waysAnyOrderWrong : ChangeSpec := { name := "waysAnyOrder", fn := fun _ => fun
  | [d1, d2, d3] => { results := [.lit (.bool false)], args := [d1, d2, d3] }
  | _ => none }
def WaysAnyOrderWrongFalsely : Prop := waysAnyOrderRow.holds Try.pinned (OpenSpec.ofChange waysAnyOrderWrong)

/-- 'patchbaykeep2.WaysStay': WHATEVER THE INPUT: true; the input reads as it did. -/
def waysStaySpec : ChangeSpec := { name := "waysStay", fn := fun _ => fun
  | [d1, d2, d3] => { results := [.lit (.bool true)], args := [d1, d2, d3] }
  | _ => none }
def waysStayRow : OpenClaim := { program := "ytckhbdeejnephaa", sum := "bddae544045e98a7741d89c0662f8088af76662876dc4f3e35f4c72fb4d2dd3d", func := "patchbay/patchbaykeep2.WaysStay", spec := "waysStay", unfollowed := true, recurses := true, apart := false }
def WaysStaySaid : Prop := waysStayRow.holds Try.pinned (OpenSpec.ofChange waysStaySpec)

/-- ITS FALSE NEIGHBOUR: 'it returns false'. Refute it at one input. -/
def waysStayWrong : ChangeSpec := { name := "waysStay", fn := fun _ => fun
  | [d1, d2, d3] => { results := [.lit (.bool false)], args := [d1, d2, d3] }
  | _ => none }
def WaysStayWrongFalsely : Prop := waysStayRow.holds Try.pinned (OpenSpec.ofChange waysStayWrong)

/-- 'patchbaykeep2.WaysWhole': WHATEVER THE INPUT: true; the input reads as it did. -/
def waysWholeSpec : ChangeSpec := { name := "waysWhole", fn := fun _ => fun
  | [d1, d2, d3, d4, d5] => { results := [.lit (.bool true)], args := [d1, d2, d3, d4, d5] }
  | _ => none }
def waysWholeRow : OpenClaim := { program := "ytckhbdeejnephaa", sum := "bddae544045e98a7741d89c0662f8088af76662876dc4f3e35f4c72fb4d2dd3d", func := "patchbay/patchbaykeep2.WaysWhole", spec := "waysWhole", unfollowed := true, recurses := true, apart := false }
def WaysWholeSaid : Prop := waysWholeRow.holds Try.pinned (OpenSpec.ofChange waysWholeSpec)

/-- ITS FALSE NEIGHBOUR: 'it returns false'. Refute it at one input. -/
def waysWholeWrong : ChangeSpec := { name := "waysWhole", fn := fun _ => fun
  | [d1, d2, d3, d4, d5] => { results := [.lit (.bool false)], args := [d1, d2, d3, d4, d5] }
  | _ => none }
def WaysWholeWrongFalsely : Prop := waysWholeRow.holds Try.pinned (OpenSpec.ofChange waysWholeWrong)

/- THE SECOND FORM. 'bulk': how many values and letters a reading holds, each counted each time it is reached (what is shared counts as often as it is met; a slice's spare places count too). A statement '..UptoSaid' is the law's where the arguments, and the package variables that the reading takes, are together of bulk at most 1048576: NARROWER than '..Said'. Prove '..Said' where nothing that the law and all that it calls make is longer than what came in: it says more and counts as full. Else prove '..UptoSaid'. A law counts once. -/
mutual
def uptoBulk {H : Type} : DataW H → Nat
  | .lit (.string bytes) => bytes.length + 1
  | .lit _ => 1
  | .nil => 1
  | .ptr d => uptoBulk d + 1
  | .slice elems spare => uptoBulkAll elems + uptoBulkAll spare + 1
  | .agg parts => uptoBulkAll parts + 1
  | .iface _ d => uptoBulk d + 1
  | .map entries => uptoBulkEntries entries + 1
  | .held _ => 1
def uptoBulkAll {H : Type} : List (DataW H) → Nat
  | [] => 0
  | d :: r => uptoBulk d + uptoBulkAll r
def uptoBulkEntries {H : Type} : List (Lit × DataW H) → Nat
  | [] => 0
  | x :: r => uptoBulkEntry x + uptoBulkEntries r
def uptoBulkEntry {H : Type} : Lit × DataW H → Nat
  | (.string bytes, d) => bytes.length + uptoBulk d + 1
  | (_, d) => uptoBulk d + 1
 end
def uptoSmall : (H : Type) → List (DataW H) → Bool := fun _ ds => decide (uptoBulkAll ds ≤ 1048576)
def OpenSpec.upto (s : _root_.Go.ChangeSpec) : _root_.Go.OpenSpec := { _root_.Go.OpenSpec.ofChange s with cond := some uptoSmall }

/-- 'patchbaykeep2.WaysAnyOrder', WHERE WHAT IT READS IS OF BULK AT MOST 1048576: true; the input reads as it did. -/
def waysAnyOrderUptoRow : OpenClaim := { program := "ytckhbdeejnephaa", sum := "bddae544045e98a7741d89c0662f8088af76662876dc4f3e35f4c72fb4d2dd3d", func := "patchbay/patchbaykeep2.WaysAnyOrder", spec := "waysAnyOrder", unfollowed := true, recurses := true, apart := false, narrowed := true }
def WaysAnyOrderUptoSaid : Prop := waysAnyOrderUptoRow.holds Try.pinned (OpenSpec.upto waysAnyOrderSpec)

/-- 'patchbaykeep2.WaysStay', WHERE WHAT IT READS IS OF BULK AT MOST 1048576: true; the input reads as it did. -/
def waysStayUptoRow : OpenClaim := { program := "ytckhbdeejnephaa", sum := "bddae544045e98a7741d89c0662f8088af76662876dc4f3e35f4c72fb4d2dd3d", func := "patchbay/patchbaykeep2.WaysStay", spec := "waysStay", unfollowed := true, recurses := true, apart := false, narrowed := true }
def WaysStayUptoSaid : Prop := waysStayUptoRow.holds Try.pinned (OpenSpec.upto waysStaySpec)

/-- 'patchbaykeep2.WaysWhole', WHERE WHAT IT READS IS OF BULK AT MOST 1048576: true; the input reads as it did. -/
def waysWholeUptoRow : OpenClaim := { program := "ytckhbdeejnephaa", sum := "bddae544045e98a7741d89c0662f8088af76662876dc4f3e35f4c72fb4d2dd3d", func := "patchbay/patchbaykeep2.WaysWhole", spec := "waysWhole", unfollowed := true, recurses := true, apart := false, narrowed := true }
def WaysWholeUptoSaid : Prop := waysWholeUptoRow.holds Try.pinned (OpenSpec.upto waysWholeSpec)

end Rows
end Go.Proofs.Ytckhbdeejnephaa
