/-
  DERIVED. GIVEN WITH THE SEED: THE CARDS: each row of YtplcdbhklepkgaaDoorRows.lean that lists a variable, with what it lists TIED to the program's text (the seventh form; the later family's looks); each row that meets fmt, with fmt's text TOLD by the authors' own Lean function (tested against real Go, not proved from fmt's source: count such statements apart). THE CARD IS WHAT COUNTS. Prove the row's statement (the work); the ties are given (YtplcdbhklepkgaaDoorTie.lean); close each card by the builder's one call (the guide's Derived/Test/ToyasCard.lean, 'card_holds'). Laid BY PROGRAM, IN A SANDBOX (cutbox-door.mjs). By AI agents, Wed Nov 11 2026. No macro, syntax, notation, axiom, sorry.
-/
import Derived.Test.YtplcdbhklepkgaaDoorRows
import GoSem.ClaimSeven
namespace Go.Proofs.YtplcdbhklepkgaaDoor
namespace Rows

/-- THE TIED CARD OF 'patchbaykeep2.BestAnyOrder'. -/
def bestAnyOrderCard : Claim7 := { stood := { row := bestAnyOrderRow, standIns := [], harness := (true, "71c862b592bbf6e3c524903b34e1ff323e1dc2e68c13ddba28d396660fd74748"), looks := false }, kinds := [], alts := [], laidByText := true, laidKinds := [.data], laidTests := true, laidLooks := .later }
def BestAnyOrderCardSaid : Prop := Claim7.holds Tryd.pinned (.plain (OpenSpec.ofChange bestAnyOrderSpec)) bestAnyOrderCard

/-- THE TIED CARD OF 'patchbaykeep2.BestOfTwo'. -/
def bestOfTwoCard : Claim7 := { stood := { row := bestOfTwoRow, standIns := [], harness := (true, "71c862b592bbf6e3c524903b34e1ff323e1dc2e68c13ddba28d396660fd74748"), looks := false }, kinds := [], alts := [], laidByText := true, laidKinds := [.data], laidTests := true, laidLooks := .later }
def BestOfTwoCardSaid : Prop := Claim7.holds Tryd.pinned (.plain (OpenSpec.ofChange bestOfTwoSpec)) bestOfTwoCard

/-- THE TIED CARD OF 'patchbaykeep2.PathGrows'. -/
def pathGrowsCard : Claim7 := { stood := { row := pathGrowsRow, standIns := [], harness := (true, "71c862b592bbf6e3c524903b34e1ff323e1dc2e68c13ddba28d396660fd74748"), looks := false }, kinds := [], alts := [], laidByText := true, laidKinds := [.data], laidTests := true, laidLooks := .later }
def PathGrowsCardSaid : Prop := Claim7.holds Tryd.pinned (.plain (OpenSpec.ofChange pathGrowsSpec)) pathGrowsCard

/-- THE SECOND FORM's CARD OF 'patchbaykeep2.BestAnyOrder'. -/
def bestAnyOrderUptoCard : Claim7 := { stood := { row := bestAnyOrderUptoRow, standIns := [], harness := (true, "71c862b592bbf6e3c524903b34e1ff323e1dc2e68c13ddba28d396660fd74748"), looks := false }, kinds := [], alts := [], laidByText := true, laidKinds := [.data], laidTests := true, laidLooks := .later }
def BestAnyOrderUptoCardSaid : Prop := Claim7.holds Tryd.pinned (.plain (OpenSpec.upto bestAnyOrderSpec)) bestAnyOrderUptoCard

/-- THE SECOND FORM's CARD OF 'patchbaykeep2.BestOfTwo'. -/
def bestOfTwoUptoCard : Claim7 := { stood := { row := bestOfTwoUptoRow, standIns := [], harness := (true, "71c862b592bbf6e3c524903b34e1ff323e1dc2e68c13ddba28d396660fd74748"), looks := false }, kinds := [], alts := [], laidByText := true, laidKinds := [.data], laidTests := true, laidLooks := .later }
def BestOfTwoUptoCardSaid : Prop := Claim7.holds Tryd.pinned (.plain (OpenSpec.upto bestOfTwoSpec)) bestOfTwoUptoCard

/-- THE SECOND FORM's CARD OF 'patchbaykeep2.PathGrows'. -/
def pathGrowsUptoCard : Claim7 := { stood := { row := pathGrowsUptoRow, standIns := [], harness := (true, "71c862b592bbf6e3c524903b34e1ff323e1dc2e68c13ddba28d396660fd74748"), looks := false }, kinds := [], alts := [], laidByText := true, laidKinds := [.data], laidTests := true, laidLooks := .later }
def PathGrowsUptoCardSaid : Prop := Claim7.holds Tryd.pinned (.plain (OpenSpec.upto pathGrowsSpec)) pathGrowsUptoCard
end Rows
end Go.Proofs.YtplcdbhklepkgaaDoor
