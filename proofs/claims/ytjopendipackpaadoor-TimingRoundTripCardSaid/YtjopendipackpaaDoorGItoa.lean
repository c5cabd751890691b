/- strconv.Itoa of a number from 0 to 99 is its decimal digits. Condition: the number lies there. -/
import Derived.Test.YtjopendipackpaaDoorShelf
import Derived.Test.YtjopendipackpaaDoorPClkx0
namespace Go.Proofs.YtjopendipackpaaDoor.PClk
open Go.RowKit Go.Shelf Go.Proofs.YtjopendipackpaaDoorW.PrintWords Go.Proofs.YtjopendipackpaaDoorW.PrintLast Go.Proofs.YtjopendipackpaaDoorW.PrintMore
def itoa.f (a0 : Int) : Option ByteArray := if 0 ≤ a0 ∧ a0 < 100 then some ⟨(Lib.decDigits a0.toNat).toArray⟩ else none
theorem itoa.calls (a0 : Int) (r : ByteArray) (w : World) (h : itoa.f a0 = some r) :
    Calls Tryd.prog 11 #[.int .i64 a0] w fun e w' => e = .returned (.string r) ∧ Below w.heap.size w w' := by
  unfold itoa.f at h
  split at h
  · rename_i hh
    obtain rfl := Option.some.inj h
    have hz : ((a0.toNat : Nat) : Int) = a0 := Int.toNat_of_nonneg hh.1
    have hl : a0.toNat < 100 := by omega
    generalize a0.toNat = n at *
    subst hz
    refine (Any.strconv_Itoa_small Tryd.itoa n hl w).mono ?_
    rintro e w' ⟨rfl, rfl⟩
    exact ⟨rfl, Below.refl _ _⟩
  · cases h
end Go.Proofs.YtjopendipackpaaDoor.PClk
