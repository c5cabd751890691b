/- slices.SortFunc at the union's comparison: the row of intervals holds a permutation of what it held, sorted by A. Condition: fewer than 2^62 intervals. -/
import Derived.Test.YtjopendipackpaaPTimx0
import Derived.Test.YtjopendipackpaaSorted
import Derived.Test.YtjopendipackpaaShelf
namespace Go.Proofs.Ytjopendipackpaa.PTim
open Go.RowKit Go.Sort Go.Shelf Go.Proofs.YtjopendipackpaaW.PrintWords Go.Proofs.YtjopendipackpaaW.PrintLast Go.Proofs.YtjopendipackpaaW.PrintMore
set_option linter.unusedVariables false
set_option linter.unusedSimpArgs false

instance : Inhabited S33 := ⟨z33⟩
def encPair (x : S33) : List Value := [.int .i64 x.f0, .int .i64 x.f1]
def cmpPair (x y : S33) : Int := Lib.compareInt x.f0 y.f0
theorem ltPair (x y : S33) : ltOf cmpPair x y = decide (x.f0 < y.f0) := by
  unfold ltOf cmpPair Lib.compareInt
  by_cases h1 : x.f0 < y.f0
  · simp [h1]
  · by_cases h2 : y.f0 < x.f0 <;> simp [h1, h2]
theorem swoPair : SWO (ltOf cmpPair) where
  irrefl x := by rw [ltPair]; simp
  trans x y z h1 h2 := by rw [ltPair] at *; simp at *; omega
  ntrans x y z h1 h2 := by rw [ltPair] at *; simp at *; omega
set_option maxHeartbeats 1000000 in
theorem cmpPair_calls (x y : S33) (W : World) : Calls Try.prog 35 #[.agg #[.int .i64 x.f0, .int .i64 x.f1], .agg #[.int .i64 y.f0, .int .i64 y.f1]] W fun e w' => e = .returned (.int .i64 (cmpPair x y)) ∧ ∃ q os', w' = grow (W.drewN q) os' := by
  have hcon := fun W' => AnyG.cmp_Compare_int Try.cmpInt x.f0 y.f0 W'
  change ∀ W', Calls Try.prog 36 _ _ _ at hcon
  unfold cmpPair
  generalize Lib.compareInt x.f0 y.f0 = r at hcon ⊢
  go_enter Try.func35, Try.ntmps35
  go_wp2_with (go_at_call 36; refine (hcon _).mono ?_; rintro e w' ⟨rfl, rfl⟩)
  go_ret
  exact ⟨rfl, 0, _, by rw [alloc_eq_grow, alloc_eq_grow, grow_grow]; rfl⟩

/-- The sort's own order. -/
def sortP (l : List S33) : List S33 := Srt.sortBy (ltOf cmpPair) l
theorem sortP_sorts (l : List S33) : (sortP l).Perm l ∧ (sortP l).Pairwise (fun p q => p.f0 ≤ q.f0) := by
  have h := Srt.sortBy_perm swoPair l
  refine ⟨h.1, List.pairwise_iff_getElem.2 fun i j hi hj hij => ?_⟩
  have h2 := h.2 i j _ _ hij (List.getElem?_eq_getElem hi) (List.getElem?_eq_getElem hj)
  rw [ltPair] at h2
  simp at h2
  exact h2
def sortPairs.f (l0 : List S33) : Option (List S33) := if l0.length < 4611686018427387904 then some (sortP l0) else none
theorem sortPairs.calls (P0_ : Nat → Prop) (u9000_ : Value) (l0 : List S33) (r : List S33) (w0 w : World) (hB : Below w0.heap.size w0 w) (ho0 : Kd.R k33 33 w w0.heap.size P0_ u9000_ l0) (h : sortPairs.f l0 = some r) :
    Calls Try.prog 34 #[u9000_, .func (.func 35) #[] #[]] w fun e w' => e = .returned (.tuple #[]) ∧ Kd.R k33 33 w' w0.heap.size (fun k_ => (P0_ k_ ∨ w.heap.size ≤ k_)) u9000_ r ∧ Below w0.heap.size w0 w' ∧ Kept w w' (fun k_ => P0_ k_) := by
  unfold sortPairs.f at h
  by_cases hl : l0.length < 4611686018427387904
  · rw [if_pos hl] at h
    obtain rfl := Option.some.inj h
    have eg : ∀ args w, (callFunc 35 args).run Try.prog w = .ok (.enter 35 args) w := enters_of Try.func35 (by kernel_rfl) rfl
    exact Srt.sort_own encPair 2 Try.sortPair Try.isAgg33 Try.sizeOf33 (fun _ => rfl) (fun x v hv => by simp [encPair] at hv; rcases hv with rfl | rfl <;> rfl) cmpPair swoPair 35 #[] eg
      (fun x y W => cmpPair_calls x y W) (fun w base ok x cs => ⟨fun h => k33_openM h, fun h => h ▸ k33_mkM w base ok x⟩) rfl hl hB ho0
  · rw [if_neg hl] at h
    cases h
end Go.Proofs.Ytjopendipackpaa.PTim
