/- math/bits.Len, as the kit's shelf has it: at every uint it returns the number of bits. No condition. -/
import Derived.Test.YtplcdbhklepkgaaDoorProg
import Derived.Test.YtplcdbhklepkgaaDoorVGroWWords
import Derived.Shelf.Small.Bits
import Derived.Shelf.Lay
import Derived.Ground.NamesProg
namespace Go.Proofs.YtplcdbhklepkgaaDoor.PG
open Go.RowKit Go.Proofs.YtplcdbhklepkgaaDoorW.PrintWords Go.Shelf
shelf_lay Lays.n125 Nm 125 at Tryd as Tryd.bitsLen
def bits_Len.f (a0 : Int) : Option Int := if 0 ≤ a0 then (if a0 ≤ 18446744073709551615 then some (Lib.bitLen a0.toNat : Int) else none) else none
theorem bits_Len.calls (a0 : Int) (r : Int) (w : World) (h : bits_Len.f a0 = some r) :
    Calls Tryd.prog 40 #[.int .u64 a0] w fun e w' => e = .returned (.int .i64 r) ∧ Drawn0 w w' := by
  unfold bits_Len.f at h
  by_cases h0 : 0 ≤ a0
  · rw [if_pos h0] at h
    by_cases h1 : a0 ≤ 18446744073709551615
    · rw [if_pos h1] at h
      have hcon := Any.bits_Len Tryd.bitsLen a0 w h0 h1
      change Calls Tryd.prog 40 _ _ _ at hcon
      refine hcon.mono fun e w' ⟨he, hw⟩ => ?_
      subst hw
      obtain rfl := Option.some.inj h
      exact ⟨he, Drawn0.refl _⟩
    · rw [if_neg h1] at h; cases h
  · rw [if_neg h0] at h; cases h
end Go.Proofs.YtplcdbhklepkgaaDoor.PG
