/- slices.ContainsFunc at the two predicates of check: does an interval meet it. Condition: the slice is read as told. -/
import Derived.Test.YtjopendipackpaaPTimx0
import Derived.Test.YtjopendipackpaaPTimCx1
import Derived.Test.YtjopendipackpaaShelf
import Derived.Test.YtjopendipackpaaContains
namespace Go.Proofs.Ytjopendipackpaa.PTim
open Go.RowKit Go.Sort Go.Shelf Go.Proofs.YtjopendipackpaaW.PrintWords Go.Proofs.YtjopendipackpaaW.PrintLast Go.Proofs.YtjopendipackpaaW.PrintMore
set_option linter.unusedVariables false
set_option linter.unusedSimpArgs false

instance inhabitedC : Inhabited S33 := ⟨z33⟩
def encP (x : S33) : List Value := [.int .i64 x.f0, .int .i64 x.f1]
def isBad (p : S33) : Bool := !(decide (0 ≤ p.f0) && decide (p.f0 ≤ 1099511627776)) || !(decide (0 ≤ p.f1) && decide (p.f1 ≤ 1099511627776))
def isTurned (p : S33) : Bool := decide (p.f1 ≤ p.f0)
def anyBad.f (l0 : List S33) : Option Bool := some (l0.any isBad)
def anyTurned.f (l0 : List S33) : Option Bool := some (l0.any isTurned)
theorem anyBad.calls (A0 : Option Addr) (c0 : Nat) (l0 : List S33) (r : Bool) (w : World) (hr0 : Kd.C k33 w A0 l0.length l0) (hc0 : l0.length ≤ c0) (h : anyBad.f l0 = some r) :
    Calls Try.prog 29 #[.slice A0 l0.length c0, .func (.func 30) #[] #[]] w fun e w' => e = .returned (.bool r) ∧ Below w.heap.size w w' := by
  obtain rfl := Option.some.inj h
  have eg : ∀ args w, (callFunc 30 args).run Try.prog w = .ok (.enter 30 args) w := enters_of Try.func30 (by kernel_rfl) rfl
  refine Cnt.contains_any encP 2 Try.contPair Try.isAgg33 Try.sizeOf33 (fun _ => rfl) (by omega) isBad 30 #[] eg (fun W x => ?_) (d := k33) (fun h => k33_open h) rfl hr0
  refine PTimC.timing_check_1.calls x.f0 x.f1 (isBad x) W ?_
  unfold PTimC.timing_check_1.f PTimC.timing_time.f isBad
  by_cases h1 : 0 ≤ x.f0 <;> by_cases h2 : x.f0 ≤ 1099511627776 <;> by_cases h3 : 0 ≤ x.f1 <;> by_cases h4 : x.f1 ≤ 1099511627776 <;> simp [h1, h2, h3, h4]
theorem anyTurned.calls (A0 : Option Addr) (c0 : Nat) (l0 : List S33) (r : Bool) (w : World) (hr0 : Kd.C k33 w A0 l0.length l0) (hc0 : l0.length ≤ c0) (h : anyTurned.f l0 = some r) :
    Calls Try.prog 29 #[.slice A0 l0.length c0, .func (.func 32) #[] #[]] w fun e w' => e = .returned (.bool r) ∧ Below w.heap.size w w' := by
  obtain rfl := Option.some.inj h
  have eg : ∀ args w, (callFunc 32 args).run Try.prog w = .ok (.enter 32 args) w := enters_of Try.func32 (by kernel_rfl) rfl
  refine Cnt.contains_any encP 2 Try.contPair Try.isAgg33 Try.sizeOf33 (fun _ => rfl) (by omega) isTurned 32 #[] eg (fun W x => ?_) (d := k33) (fun h => k33_open h) rfl hr0
  refine PTimC.timing_check_2.calls x.f0 x.f1 (isTurned x) W ?_
  rfl
end Go.Proofs.Ytjopendipackpaa.PTim
