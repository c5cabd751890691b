/- slices.SortFunc at incident.order: the row of incidents holds a permutation of what it held, sorted by time, kind, lost seconds and gravity. Condition: fewer than 2^62 incidents. -/
import Derived.Test.YtidehmfaebiebaaDoorPA
import Derived.Test.YtidehmfaebiebaaDoorGOrder
import Derived.Test.YtidehmfaebiebaaDoorSorted
import Derived.Test.YtidehmfaebiebaaDoorShelf
namespace Go.Proofs.YtidehmfaebiebaaDoor.PInc
open Go.RowKit Go.Sort Go.Shelf Go.Proofs.YtidehmfaebiebaaDoorW.PrintWords Go.Proofs.YtidehmfaebiebaaDoorW.PrintLast Go.Proofs.YtidehmfaebiebaaDoorW.PrintMore
set_option linter.unusedVariables false
set_option linter.unusedSimpArgs false

instance inhabitedI : Inhabited S23 := ⟨z23⟩
def encInc (x : S23) : List Value := [.int .i64 x.f0, .int .i64 x.f1, .int .i64 x.f2, .int .i64 x.f3]
def cmpI (a b : Int) : Int := if a < b then -1 else if a > b then 1 else 0
def cmpInc (x y : S23) : Int := if cmpI x.f1 y.f1 = 0 then (if cmpI x.f0 y.f0 = 0 then (if cmpI x.f2 y.f2 = 0 then cmpI x.f3 y.f3 else cmpI x.f2 y.f2) else cmpI x.f0 y.f0) else cmpI x.f1 y.f1
/-- The order of incidents. -/
def ltI (x y : S23) : Prop := x.f1 < y.f1 ∨ (x.f1 = y.f1 ∧ (x.f0 < y.f0 ∨ (x.f0 = y.f0 ∧ (x.f2 < y.f2 ∨ (x.f2 = y.f2 ∧ x.f3 < y.f3)))))
theorem cmpI_zero (a b : Int) : cmpI a b = 0 ↔ a = b := by
  unfold cmpI
  by_cases h1 : a < b
  · rw [if_pos h1]; omega
  · rw [if_neg h1]
    by_cases h2 : a > b
    · rw [if_pos h2]; omega
    · rw [if_neg h2]; omega
theorem cmpI_neg (a b : Int) : cmpI a b < 0 ↔ a < b := by
  unfold cmpI
  by_cases h1 : a < b
  · rw [if_pos h1]; omega
  · rw [if_neg h1]
    by_cases h2 : a > b
    · rw [if_pos h2]; omega
    · rw [if_neg h2]; omega
theorem cmpInc_neg (x y : S23) : cmpInc x y < 0 ↔ ltI x y := by
  unfold cmpInc ltI
  by_cases h1 : cmpI x.f1 y.f1 = 0
  · rw [if_pos h1]
    rw [cmpI_zero] at h1
    by_cases h2 : cmpI x.f0 y.f0 = 0
    · rw [if_pos h2]
      rw [cmpI_zero] at h2
      by_cases h3 : cmpI x.f2 y.f2 = 0
      · rw [if_pos h3, cmpI_neg]
        rw [cmpI_zero] at h3
        omega
      · rw [if_neg h3, cmpI_neg]
        rw [cmpI_zero] at h3
        omega
    · rw [if_neg h2, cmpI_neg]
      rw [cmpI_zero] at h2
      omega
  · rw [if_neg h1, cmpI_neg]
    rw [cmpI_zero] at h1
    omega
theorem ltInc (x y : S23) : ltOf cmpInc x y = true ↔ ltI x y := by
  unfold ltOf
  rw [decide_eq_true_iff]
  exact cmpInc_neg x y
theorem ltInc_false (x y : S23) : ltOf cmpInc x y = false ↔ ¬ ltI x y := by
  rw [← ltInc, Bool.not_eq_true]
theorem swoInc : SWO (ltOf cmpInc) where
  irrefl x := by rw [ltInc_false]; unfold ltI; omega
  trans x y z h1 h2 := by rw [ltInc] at *; unfold ltI at *; omega
  ntrans x y z h1 h2 := by rw [ltInc_false] at *; unfold ltI at *; omega
theorem compare_eq (a b : Int) : PIncC.cmp_Compare_int.f a b = some (cmpI a b) := by
  unfold PIncC.cmp_Compare_int.f PIncC.cmp_isNaN_int.f cmpI
  simp only [Option.bind_some, bne_self_eq_false]
  rw [if_neg (by decide), if_neg (by decide)]
  by_cases h1 : a < b
  · rw [if_pos h1, if_pos h1]
  · rw [if_neg h1, if_neg h1]
    by_cases h2 : a > b
    · rw [if_pos h2, if_pos h2]
    · rw [if_neg h2, if_neg h2]
theorem or_eq (a b c d : Int) : PIncC.cmp_Or_int.f 5 [a, b, c, d] = some (if a = 0 then (if b = 0 then (if c = 0 then d else c) else b) else a) := by
  have r0 : rd [a, b, c, d] 0 = a := rfl
  have r1 : rd [a, b, c, d] 1 = b := rfl
  have r2 : rd [a, b, c, d] 2 = c := rfl
  have r3 : rd [a, b, c, d] 3 = d := rfl
  have hl : (([a, b, c, d] : List Int).length : Int) = 4 := rfl
  unfold PIncC.cmp_Or_int.f
  rw [hl]
  have w1 : wrap64 (0 + 1) = 1 := by unfold wrap64; omega
  have w2 : wrap64 (1 + 1) = 2 := by unfold wrap64; omega
  have w3 : wrap64 (2 + 1) = 3 := by unfold wrap64; omega
  have w4 : wrap64 (3 + 1) = 4 := by unfold wrap64; omega
  rw [PIncC.cmp_Or_int.l0, if_pos (by decide), if_pos (by decide), hl, if_pos (by decide), r0, w1]
  by_cases h0 : a = 0
  · rw [if_pos h0, if_pos h0]
    rw [PIncC.cmp_Or_int.l0, if_pos (by decide), if_pos (by decide), hl, if_pos (by decide), r1, w2]
    by_cases h1 : b = 0
    · rw [if_pos h1, if_pos h1]
      rw [PIncC.cmp_Or_int.l0, if_pos (by decide), if_pos (by decide), hl, if_pos (by decide), r2, w3]
      by_cases h2 : c = 0
      · rw [if_pos h2, if_pos h2]
        rw [PIncC.cmp_Or_int.l0, if_pos (by decide), if_pos (by decide), hl, if_pos (by decide), r3, w4]
        by_cases h3 : d = 0
        · rw [if_pos h3, PIncC.cmp_Or_int.l0, if_neg (by decide), h3]
        · rw [if_neg h3]
      · rw [if_neg h2, if_neg h2]
    · rw [if_neg h1, if_neg h1]
  · rw [if_neg h0, if_neg h0]
theorem order_eq (x y : S23) : PIncC.incident_order.f 5 x.f0 x.f1 x.f2 x.f3 y.f0 y.f1 y.f2 y.f3 = some (cmpInc x y) := by
  unfold PIncC.incident_order.f
  rw [compare_eq, compare_eq, compare_eq, compare_eq]
  simp only [Option.bind_some]
  rw [or_eq]
  rfl
theorem cmpInc_calls (x y : S23) (W : World) : Calls Tryd.prog 34 #[.agg (encInc x).toArray, .agg (encInc y).toArray] W fun e w' => e = .returned (.int .i64 (cmpInc x y)) ∧ ∃ q os', w' = grow (W.drewN q) os' := by
  refine (PIncC.incident_order.calls 5 x.f0 x.f1 x.f2 x.f3 y.f0 y.f1 y.f2 y.f3 (cmpInc x y) W (order_eq x y)).mono ?_
  rintro e w' ⟨he, hb⟩
  exact ⟨he, hb.grows⟩

/-- The sort's own order. -/
def sortP (l : List S23) : List S23 := Srt.sortBy (ltOf cmpInc) l
theorem sortP_sorts (l : List S23) : (sortP l).Perm l ∧ (sortP l).Pairwise (fun p q => ¬ ltI q p) := by
  have h := Srt.sortBy_perm swoInc l
  refine ⟨h.1, List.pairwise_iff_getElem.2 fun i j hi hj hij => ?_⟩
  have h2 := h.2 i j _ _ hij (List.getElem?_eq_getElem hi) (List.getElem?_eq_getElem hj)
  rw [ltInc_false] at h2
  exact h2
def sortInc.f (l0 : List S23) : Option (List S23) := if l0.length < 4611686018427387904 then some (sortP l0) else none
theorem sortInc.calls (P0_ : Nat → Prop) (u9000_ : Value) (l0 : List S23) (r : List S23) (w0 w : World) (hB : Below w0.heap.size w0 w) (ho0 : Kd.R k23 23 w w0.heap.size P0_ u9000_ l0) (h : sortInc.f l0 = some r) :
    Calls Tryd.prog 33 #[u9000_, .func (.func 34) #[] #[]] w fun e w' => e = .returned (.tuple #[]) ∧ Kd.R k23 23 w' w0.heap.size (fun k_ => (P0_ k_ ∨ w.heap.size ≤ k_)) u9000_ r ∧ Below w0.heap.size w0 w' ∧ Kept w w' (fun k_ => P0_ k_) := by
  unfold sortInc.f at h
  by_cases hl : l0.length < 4611686018427387904
  · rw [if_pos hl] at h
    obtain rfl := Option.some.inj h
    have eg : ∀ args w, (callFunc 34 args).run Tryd.prog w = .ok (.enter 34 args) w := enters_of Tryd.func34 (by kernel_rfl) rfl
    exact Srt.sort_own encInc 4 Tryd.sortInc Tryd.isAgg23 Tryd.sizeOf23 (fun _ => rfl) (fun x v hv => by simp [encInc] at hv; rcases hv with rfl | rfl | rfl | rfl <;> rfl) cmpInc swoInc 34 #[] eg
      (fun x y W => cmpInc_calls x y W) (fun w base ok x cs => ⟨fun h => k23_openM h, fun h => h ▸ k23_mkM w base ok x⟩) rfl hl hB ho0
  · rw [if_neg hl] at h
    cases h
end Go.Proofs.YtidehmfaebiebaaDoor.PInc
