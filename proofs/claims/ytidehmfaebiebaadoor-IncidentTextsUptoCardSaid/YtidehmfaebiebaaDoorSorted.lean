/- slices.SortFunc on a row of one's own, in the words of the printed contracts: the row holds a permutation of what it held, sorted by the comparison. Conditions: the comparison is a strict weak order and hands back the plain function's value. -/
import Derived.Shelf.SlSortCmp.WholeK
import Derived.Shelf.SlSortCmp.NoneTotal
import Derived.Test.YtidehmfaebiebaaDoorWWords
import Derived.Test.YtidehmfaebiebaaDoorWAll
namespace Go.Proofs.YtidehmfaebiebaaDoor.Srt
open Go.Sort Go.Shelf Go.RowKit Go.Proofs.YtidehmfaebiebaaDoorW.PrintWords Go.Proofs
set_option linter.unusedVariables false

section
variable {α : Type} [Inhabited α] (enc : α → List Value) (k : Nat) (hk : ∀ x, (enc x).length = k)

omit [Inhabited α] in
include hk in
theorem flat_length : ∀ l : List α, (l.flatMap enc).length = l.length * k
  | [] => by simp
  | x :: l => by rw [List.flatMap_cons, List.length_append, hk, flat_length l, List.length_cons, Nat.add_mul, Nat.one_mul, Nat.add_comm]

omit [Inhabited α] in
include hk in
theorem flat_at : ∀ (l : List α) (j : Nat) (p : α), l[j]? = some p → ((l.flatMap enc).drop (j * k)).take k = enc p
  | [], _, _, h => by simp at h
  | x :: l, 0, p, h => by
    simp at h
    subst h
    rw [Nat.zero_mul, List.drop_zero, List.flatMap_cons, List.take_append_of_le_length (by rw [hk]; exact Nat.le_refl _), ← hk x, List.take_length]
  | x :: l, j + 1, p, h => by
    simp at h
    rw [List.flatMap_cons, Nat.add_mul, Nat.one_mul, Nat.add_comm, ← List.drop_drop, List.drop_append_of_le_length (by rw [hk]; exact Nat.le_refl _), ← hk x, List.drop_length, List.nil_append, hk]
    exact flat_at l j p h

omit [Inhabited α] in
include hk in
theorem reps_flat (l : List α) : Reps (fun x cs => cs = enc x) k l (l.flatMap enc) :=
  ⟨flat_length enc k hk l, fun j p h => flat_at enc k hk l j p h⟩

omit [Inhabited α] in
theorem flat_of_reps : ∀ (l : List α) (cs : List Value), Reps (fun x cs => cs = enc x) k l cs → cs = l.flatMap enc
  | [], cs, h => by
    have := h.1
    simp at this
    exact this
  | x :: l, cs, h => by
    have h0 := h.2 0 x rfl
    rw [Nat.zero_mul, List.drop_zero] at h0
    have h1 : Reps (fun x cs => cs = enc x) k l (cs.drop k) := by
      refine ⟨by rw [List.length_drop, h.1, List.length_cons, Nat.add_mul, Nat.one_mul, Nat.add_sub_cancel], fun j p hj => ?_⟩
      have h3 : ((cs.drop ((j + 1) * k)).take k) = enc p := h.2 (j + 1) p (by simpa using hj)
      show ((cs.drop k).drop (j * k)).take k = enc p
      rw [List.drop_drop, ← h3, Nat.add_mul, Nat.one_mul, Nat.add_comm]
    have h2 := flat_of_reps l _ h1
    rw [List.flatMap_cons, ← h2, ← h0, List.take_append_drop]

include hk in
theorem flatK_list (d : Array α) : (flatK enc k d).toList = d.toList.flatMap enc := by
  refine flat_of_reps enc k _ _ ⟨by simp, fun j p hj => ?_⟩
  have hjd : j < d.size := by
    have := (List.getElem?_eq_some_iff.1 hj).1
    simpa using this
  have hle : j * k + k ≤ d.size * k := by
    have := Nat.mul_le_mul_right k (show j + 1 ≤ d.size from hjd)
    rwa [Nat.add_mul, Nat.one_mul] at this
  have hp : d[j]! = p := by
    rw [Array.getElem?_toList, Array.getElem?_eq_getElem hjd] at hj
    rw [getElem!_pos d j hjd]
    exact Option.some.inj hj
  apply List.ext_getElem?
  intro c
  rcases Nat.lt_or_ge c k with hc | hc
  · rw [List.getElem?_take_of_lt hc, List.getElem?_drop, Array.getElem?_toList]
    have ht : j * k + c < d.size * k := by omega
    have e1 : (j * k + c) / k = j := (blk_iff k j _ (by omega)).1 ⟨by omega, by omega⟩
    have e2 : (j * k + c) % k = c := by rw [Nat.mod_eq_sub_div_mul, e1]; omega
    have := get_flatK enc k d _ ht
    rw [e1, e2, hp, getElem!_pos _ _ (by simpa using ht)] at this
    rw [Array.getElem?_eq_getElem (by simpa using ht), this, getElem!_pos (enc p) c (by rw [hk]; exact hc), List.getElem?_eq_getElem (by rw [hk]; exact hc)]
  · rw [List.getElem?_take_eq_none hc, List.getElem?_eq_none (by rw [hk]; exact hc)]

theorem heap_after {w : World} {g n : Nat} {os : Array Obj} {cur : Array Value} {e : TypeId} {fr : Nat × Nat} (F : Array Value) (hb : w.heap[g]? = some (.cells cur e fr)) :
    (grow (putRow id (Sort.ahead w n) g 0 F) os).heap[g]? = some (.cells (putCells id 0 F cur) e fr) := by
  have hg : g < w.heap.size := (Array.getElem?_eq_some_iff.1 hb).1
  rw [heap_grow_old _ _ (by simpa using hg)]
  simp [putRow, mapBlock, Sort.ahead, Array.getElem?_modify, hb, onCells]

theorem grown_after {w : World} {g n : Nat} {os : Array Obj} (F : Array Value) : w.grownBy (grow (putRow id (Sort.ahead w n) g 0 F) os) (some g) := by
  refine ⟨rfl, rfl, rfl, by simp, fun k hk hne => ?_⟩
  rw [heap_grow_old _ _ (by simpa using hk)]
  have : g ≠ k := fun e => hne (by rw [e])
  simp [putRow, mapBlock, Sort.ahead, Array.getElem?_modify, this]

theorem take_put (cur F : Array Value) (h : F.size ≤ cur.size) : (putCells id 0 F cur).toList.take F.size = F.toList := by
  apply List.ext_getElem?
  intro j
  by_cases hj : j < F.size
  · rw [List.getElem?_take_of_lt hj, Array.getElem?_toList, Array.getElem?_toList]
    simp [putCells, hj, show j < cur.size by omega]
  · rw [List.getElem?_take_eq_none (by omega), List.getElem?_eq_none (by simp; omega)]

theorem holds_of {w : World} {g : Nat} {cur : Array Value} {e : TypeId} {F : Array Value} (hb : w.heap[g]? = some (.cells cur e (0, 0))) (ht : cur.toList.take F.size = F.toList) : Holds id w g 0 F := by
  intro j hj
  refine ⟨?_, by simp [World.frozen?, hb]⟩
  have h1 : (cur.toList.take F.size)[j]? = F.toList[j]? := by rw [ht]
  rw [List.getElem?_take_of_lt hj] at h1
  simp only [World.cell?, hb, Nat.zero_add]
  simp only [Option.isSome_none, Bool.false_eq_true, if_false]
  rw [← Array.getElem?_toList, h1]
  simp [hj]

/-- The sort's own order of the elements. -/
def sortBy (lt : α → α → Bool) (l : List α) : List α := (pdq lt l.toArray 0 l.length (Lib.bitLen l.length) true true).toList

theorem sortBy_perm {lt : α → α → Bool} (hO : SWO lt) (l : List α) : (sortBy lt l).Perm l ∧ ∀ (i j : Nat) (x y : α), i < j → (sortBy lt l)[i]? = some x → (sortBy lt l)[j]? = some y → lt y x = false := by
  have h := pdq_sorts lt hO l.toArray 0 l.length (Lib.bitLen l.length) true true (Nat.zero_le _) (by simp) (Or.inl rfl)
  unfold sortBy
  generalize pdq lt l.toArray 0 l.length (Lib.bitLen l.length) true true = d at h ⊢
  obtain ⟨⟨h1, _, h3⟩, h4⟩ := h
  have hs : d.size = l.length := by simpa using h1
  refine ⟨?_, fun i j x y hij hx hy => ?_⟩
  · rw [← hs, Array.extract_size] at h3
    have : (l.toArray.extract 0 d.size).toList = l := by rw [hs]; simp
    rwa [this] at h3
  · rw [Array.getElem?_toList] at hx hy
    have hj : j < d.size := (Array.getElem?_eq_some_iff.1 hy).1
    have := h4 i j (Nat.zero_le _) hij (by omega)
    rw [getElem!_pos d j hj, getElem!_pos d i (by omega)] at this
    rw [Array.getElem?_eq_getElem hj] at hy
    rw [Array.getElem?_eq_getElem (by omega)] at hx
    rwa [Option.some.inj hy, Option.some.inj hx] at this
theorem sortBy_length {lt : α → α → Bool} (hO : SWO lt) (l : List α) : (sortBy lt l).length = l.length := (sortBy_perm hO l).1.length_eq
theorem sortBy_nil {lt : α → α → Bool} (hO : SWO lt) : sortBy lt ([] : List α) = [] := List.eq_nil_of_length_eq_zero (sortBy_length hO [])

/-- THE CONTRACT: slices.SortFunc on a row of one's own. -/
theorem sort_own {P : Program} {ρ : Ren} (L : SlLaysF0.n6 P ρ) (aE : ∀ w, (isAgg (ρ.t 24)).run P w = .ok true w) (zE : ∀ w, (Go.sizeOf (ρ.t 24)).run P w = .ok k w) (hk : ∀ x, (enc x).length = k) (h1 : ∀ x, ∀ v ∈ enc x, v.oneCell' = true)
    (cf : α → α → Int) (hO : SWO (ltOf cf)) (g0 : Nat) (cb : Array Value) (eg : ∀ args w, (callFunc g0 args).run P w = .ok (.enter g0 args) w)
    (hcmp : ∀ (x y : α) (W : World), Calls P g0 (#[.agg (enc x).toArray, .agg (enc y).toArray] ++ cb) W fun e w' => e = .returned (.int .i64 (cf x y)) ∧ ∃ q os', w' = grow (W.drewN q) os')
    {d : Kd α} {e : Nat} (hM : ∀ w base ok x cs, d.M w base ok x cs ↔ cs = enc x) (hsz : d.sz = k) {P0 : Nat → Prop} {u : Value} {l : List α} (hl : l.length < 4611686018427387904) {w0 w : World} (hB : Below w0.heap.size w0 w) (ho : Kd.R d e w w0.heap.size P0 u l) :
    Calls P (ρ.f 6) #[u, .func (.func g0) #[] cb] w fun e' w' => e' = .returned (.tuple #[]) ∧ Kd.R d e w' w0.heap.size (fun k_ => (P0 k_ ∨ w.heap.size ≤ k_)) u (sortBy (ltOf cf) l) ∧ Below w0.heap.size w0 w' ∧ Kept w w' (fun k_ => P0 k_) := by
  obtain ⟨h0, inner, hown, hreps⟩ := ho
  have hreps' : Reps (fun x cs => cs = enc x) k l inner := ⟨by rw [← hsz]; exact hreps.1, fun j p hj => by
    have := (hM _ _ _ _ _).1 (hreps.2 j p hj)
    rwa [hsz] at this⟩
  have hin := flat_of_reps enc k l inner hreps'
  rcases hown.2 with ⟨rfl, hn⟩ | ⟨g, cap, cur, rfl, hg, hb, hnc, hcm, hcs, htk⟩
  · obtain rfl : l = [] := List.eq_nil_of_length_eq_zero hn
    refine (AnyF.slices_SortFunc_none { L with } none 0 (.func (.func g0) #[] cb) w).mono ?_
    rintro e' w' ⟨rfl, rfl⟩
    refine ⟨rfl, ?_, hB, Kept.refl _ _⟩
    rw [sortBy_nil hO]
    exact Kd.R_nil _ _ _ _ _
  · have hlt : g < w.heap.size := (Array.getElem?_eq_some_iff.1 hb).1
    have hF : (flatK enc k l.toArray).toList = inner := by rw [flatK_list enc k hk, hin]
    have hFs : (flatK enc k l.toArray).size = l.length * k := by simp
    have hH : HoldsK enc k w g 0 l.toArray := holds_of hb (by rw [hFs, hF, ← hsz]; exact htk)
    refine (AnyQ.slices_SortFunc_eq L k aE zE enc hk h1 cf hO g0 cb g 0 cap l.toArray w eg (fun m os dk _ x y => hcmp x y _) hH hlt (by simpa using hl)).mono ?_
    rintro e' w' ⟨rfl, n, os, rfl⟩
    have hlen := sortBy_length hO l
    have hd : (pdq (ltOf cf) l.toArray 0 l.toArray.size (Lib.bitLen l.toArray.size) true true) = (sortBy (ltOf cf) l).toArray := by unfold sortBy; simp
    rw [hd]
    have hs' : (flatK enc k (sortBy (ltOf cf) l).toArray).size = l.length * k := by simp [hlen]
    have hcur : (flatK enc k (sortBy (ltOf cf) l).toArray).size ≤ cur.size := by
      rw [hs', hcs, hsz]
      exact Nat.mul_le_mul_right _ hnc
    have hgb : w.grownBy (sortWorldK enc k w g 0 n (sortBy (ltOf cf) l).toArray os) (some g) := grown_after _
    refine ⟨rfl, ⟨fun k_ hk_ => .inl (h0 k_ hk_), (sortBy (ltOf cf) l).flatMap enc, ⟨?_, .inr ⟨g, cap, _, by rw [hlen], hg, heap_after _ hb, by omega, hcm, by simpa [putCells] using hcs, ?_⟩⟩, ?_⟩, ?_, ?_⟩
    · rw [flat_length enc k hk, hsz]
    · rw [hlen, hsz, ← hs', take_put _ _ hcur, flatK_list enc k hk]
    · rw [hsz]
      exact ⟨flat_length enc k hk _, fun j p hj => (hM _ _ _ _ _).2 (flat_at enc k hk _ j p hj)⟩
    · exact hB.grown hgb hB.size (fun b hb' => by injection hb' with hb'; omega)
    · exact Kept.of_grown hgb (Kept.refl _ _) (fun b hb' => by
        injection hb' with hb'
        subst hb'
        exact .inl (h0 _ rfl))
end
end Go.Proofs.YtidehmfaebiebaaDoor.Srt
