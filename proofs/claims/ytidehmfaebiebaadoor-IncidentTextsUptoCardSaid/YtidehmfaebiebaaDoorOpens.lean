/- Whatever reads as data of a type reads as a value of the printed kind: integers, bools, strings, structs, slices, nested in any way. Conditions: the type's own layout, given as closed facts. -/
import Derived.Deep.Slices
import Derived.Deep.Fields
import Derived.ChangeSame
import Derived.SizedLaws
import Derived.ShutString
import Derived.Carry
import Derived.OpenShut
import Derived.Test.YtidehmfaebiebaaDoorWWords
namespace Go.Proofs.YtidehmfaebiebaaDoor.Opn
open Go.ChangeShapes Go.WideShapes Go.Deep Go.Proofs.YtidehmfaebiebaaDoorW.PrintWords
set_option linter.unusedVariables false

/-- What reads as data of type t reads as a value of kind k that meets g. -/
def Opens {α : Type} (P : Program) (t : TypeId) (k : Kd α) (g : α → Prop) : Prop :=
  P.cellsOf t = k.sz ∧
  ∀ (H : Type) (enc : TypeId × Value → H) (w : World) (base : Nat) (spare : Nat → Bool) (held : Bool) (fuel : Nat) (cs : List Value) (x : DataW H × List MemPlace),
    DataW.trod enc P w base spare held fuel t cs = some x → (∀ n ∈ x.1.weights P t, n ≤ reachBytes) → ∃ y, k.K w y cs ∧ g y

theorem opens_int {P : Program} {t : TypeId} {k : IntKind} (hu : P.underlying t = some (.int k)) (hc : P.cellsOf t = 1) : Opens P t (Kd.int k) (fun n => (Lit.int k n).wf = true) :=
  ⟨hc, fun H enc w base spare held fuel cs x h _ => by
    obtain ⟨n, rfl, _, hw⟩ := DataW.trod_int hu h
    exact ⟨n, rfl, hw⟩⟩
theorem opens_bool {P : Program} {t : TypeId} (hu : P.underlying t = some .bool) (hc : P.cellsOf t = 1) : Opens P t Kd.bool (fun _ => True) :=
  ⟨hc, fun H enc w base spare held fuel cs x h _ => by
    obtain ⟨n, rfl, _⟩ := DataW.trod_bool hu h
    exact ⟨n, rfl, trivial⟩⟩
theorem opens_string {P : Program} {t : TypeId} (hu : P.underlying t = some .string) (hc : P.cellsOf t = 1) : Opens P t Kd.string (fun s => s.size ≤ 140737488351232) :=
  ⟨hc, fun H enc w base spare held fuel cs x h hz => by
    obtain ⟨s, rfl, rfl, _⟩ := DataW.trod_string hu h
    refine ⟨s, rfl, ?_⟩
    have := hz s.data.toList.length (by simp [DataW.weights])
    rw [Array.length_toList] at this
    exact this⟩

theorem weights_all {H : Type} {P : Program} {e : TypeId} : ∀ {l : List (DataW H)} {d : DataW H}, d ∈ l → ∀ n ∈ d.weights P e, n ∈ DataW.weightsAll P e l
  | [], _, h, _, _ => by simp at h
  | a :: l, d, h, n, hn => by
    simp only [DataW.weightsAll, List.mem_append]
    rcases List.mem_cons.1 h with rfl | h
    · exact Or.inl hn
    · exact Or.inr (weights_all h n hn)

theorem list_of {α : Type} {n : Nat} {p : Nat → α → Prop} (h : ∀ i, i < n → ∃ x, p i x) : ∃ xs : List α, xs.length = n ∧ ∀ i x, xs[i]? = some x → p i x := by
  induction n with
  | zero => exact ⟨[], rfl, fun i x hx => by simp at hx⟩
  | succ n ih =>
    obtain ⟨xs, hl, hx⟩ := ih (fun i hi => h i (by omega))
    obtain ⟨y, hy⟩ := h n (by omega)
    refine ⟨xs ++ [y], by simp [hl], fun i x hi => ?_⟩
    rcases Nat.lt_or_ge i n with hlt | hge
    · rw [List.getElem?_append_left (by omega)] at hi
      exact hx i x hi
    · rw [List.getElem?_append_right (by omega)] at hi
      have : i = n := by
        rcases Nat.lt_or_ge (i - xs.length) 1 with h1 | h1
        · omega
        · rw [List.getElem?_eq_none (by simpa using h1)] at hi; cases hi
      subst this
      rw [hl, Nat.sub_self] at hi
      simp at hi
      subst hi
      exact hy

theorem opens_slice {P : Program} {t e : TypeId} {B : Nat} {α : Type} {k : Kd α} {g : α → Prop} (hu : P.underlying t = some (.slice e)) (hc : P.cellsOf t = 1) (hB : P.bytesOf e = B) (hk : Opens P e k g) :
    Opens P t (Kd.slice e k) (fun xs => xs.length * B ≤ 140737488351232 ∧ ∀ x ∈ xs, g x) :=
  ⟨hc, fun H enc w base spare held fuel cs x h hz => by
    rcases open_slice hu h with ⟨rfl, _⟩ | ⟨a, len, cap, m, n, D, Pl, rfl, _, hl, hm, hmm, rfl, hx⟩
    · exact ⟨[], ⟨none, 0, rfl, Nat.le_refl _, rfl, by simp, fun h => absurd h (Nat.lt_irrefl 0)⟩, by simp, by simp⟩
    · have hlm : len ≤ m := by rw [hmm]; split <;> omega
      have hw : ∀ i, i < len → ∀ n ∈ (D i).weights P e, n ≤ reachBytes := fun i hi n hn => hz n (by
        simp only [DataW.weights, hu, List.mem_cons, List.mem_append]
        exact Or.inr (Or.inl (weights_all (List.mem_map.2 ⟨i, List.mem_range.2 hi, rfl⟩) n hn)))
      have hlen : (len + (m - len)) * B ≤ reachBytes := by
        have := hz ((((List.range len).map D).length + ((List.range (m - len)).map fun j => D (len + j)).length) * P.bytesOf e) (by simp [DataW.weights, hu])
        simpa [hB] using this
      obtain ⟨ys, hys, hget⟩ := list_of (n := len) (p := fun i y => g y ∧ ∃ c, c.length = k.sz ∧ k.K w y c ∧ ∀ j u, c[j]? = some u → w.cell? (a.add (i * k.sz + j)) = some u) (fun i hi => by
        obtain ⟨cs', h1, h2⟩ := hx i (by omega)
        obtain ⟨y, hy, hg⟩ := hk.2 H enc w base spare held n cs' _ h2 (hw i hi)
        obtain ⟨_, hcl, hat⟩ := World.cells?_some h1
        rw [hk.1] at hcl hat
        refine ⟨y, hg, cs', hcl, hy, fun j u hu => ?_⟩
        have hj : j < k.sz := by
          rw [← hcl]
          exact (List.getElem?_eq_some_iff.1 hu).1
        rw [← Go.Deep.add_add, hat j hj, hu])
      have hmax : len ≤ 9223372036854775807 := by unfold maxLen at hm; omega
      refine ⟨ys, ⟨some a, cap, by rw [hys], by omega, rfl, by omega, fun _ => ⟨a, rfl, fun j p hj => ?_⟩⟩, ?_, ?_⟩
      · obtain ⟨_, c, h1, h2, h3⟩ := hget j p hj
        exact ⟨c, h1, h2, h3⟩
      · rw [hys]
        have : len * B ≤ (len + (m - len)) * B := Nat.mul_le_mul_right _ (by omega)
        exact Nat.le_trans this hlen
      · intro y hy
        obtain ⟨i, hi⟩ := List.getElem?_of_mem hy
        exact (hget i y hi).1⟩

/-- The fields of a struct from offset o on read as a value of kind k. -/
def OpensF {α : Type} (P : Program) (o : Nat) (fs : List Field) (k : Kd α) (g : α → Prop) : Prop :=
  (∀ f ∈ fs, o ≤ f.offset) ∧
  ∀ (H : Type) (enc : TypeId × Value → H) (w : World) (base : Nat) (spare : Nat → Bool) (held : Bool) (fuel : Nat) (cs : List Value),
    cs.length = k.sz → (∀ f ∈ fs, ∃ x, DataW.trod enc P w base spare held fuel f.type ((cs.drop (f.offset - o)).take (P.cellsOf f.type)) = some x ∧ ∀ n ∈ x.1.weights P f.type, n ≤ reachBytes) →
    ∃ y, k.K w y cs ∧ g y

theorem opensF_one {P : Program} {o : Nat} {f : Field} {α : Type} {k : Kd α} {g : α → Prop} (ho : f.offset = o) (hk : Opens P f.type k g) : OpensF P o [f] k g :=
  ⟨fun f' h => by rw [List.mem_singleton.1 h]; omega, fun H enc w base spare held fuel cs hl h => by
    obtain ⟨x, hx, hw⟩ := h f (List.mem_singleton.2 rfl)
    rw [ho, Nat.sub_self, List.drop_zero, hk.1, ← hl, List.take_length] at hx
    exact hk.2 H enc w base spare held fuel cs x hx hw⟩

theorem opensF_cons {P : Program} {o o' : Nat} {f : Field} {fs : List Field} {α β : Type} {a : Kd α} {b : Kd β} {ga : α → Prop} {gb : β → Prop} (ho : f.offset = o) (hk : Opens P f.type a ga) (ho' : o' = o + a.sz) (hs : OpensF P o' fs b gb) :
    OpensF P o (f :: fs) (Kd.pair a b) (fun x => ga x.1 ∧ gb x.2) :=
  ⟨fun f' h => by
    rcases List.mem_cons.1 h with rfl | h
    · omega
    · have := hs.1 f' h
      omega, fun H enc w base spare held fuel cs hl h => by
    have hl' : cs.length = a.sz + b.sz := hl
    obtain ⟨x, hx, hw⟩ := h f List.mem_cons_self
    rw [ho, Nat.sub_self, List.drop_zero, hk.1] at hx
    obtain ⟨y, hy, hgy⟩ := hk.2 H enc w base spare held fuel _ x hx hw
    obtain ⟨z, hz, hgz⟩ := hs.2 H enc w base spare held fuel (cs.drop a.sz) (by rw [List.length_drop]; omega) (fun f' hf' => by
      obtain ⟨x', hx', hw'⟩ := h f' (List.mem_cons_of_mem _ hf')
      refine ⟨x', ?_, hw'⟩
      have := hs.1 f' hf'
      rw [List.drop_drop, show a.sz + (f'.offset - o') = f'.offset - o by omega]
      exact hx')
    exact ⟨(y, z), ⟨cs.take a.sz, cs.drop a.sz, (List.take_append_drop _ _).symm, hy, hz⟩, hgy, hgz⟩⟩

theorem opens_struct {P : Program} {t : TypeId} {fs : Array Field} {α β : Type} {k : Kd α} {g : α → Prop} (f : β → α) (r : α → β) (hfr : ∀ x, f (r x) = x) (hu : P.underlying t = some (.struct fs)) (hc : P.cellsOf t = k.sz)
    (hs : OpensF P 0 fs.toList k g) : Opens P t (Kd.iso k f) (fun x => g (f x)) :=
  ⟨hc, fun H enc w base spare held fuel cs x h hz => by
    obtain ⟨xs, n, _, rfl, hl, hxl, hat⟩ := DataW.trod_struct hu h
    obtain ⟨y, hy, hg⟩ := hs.2 H enc w base spare held n cs (hl.trans hc) (fun f' hf' => by
      obtain ⟨i, hi⟩ := List.getElem?_of_mem hf'
      have hi' : fs[i]? = some f' := by rw [← hi]; simp
      have h1 := hat i f' hi'
      have hlt : i < xs.length := by
        rw [hxl]
        exact (Array.getElem?_eq_some_iff.1 hi').1
      rw [List.getElem?_eq_getElem hlt] at h1
      refine ⟨_, by simpa using h1, fun n hn => hz n ?_⟩
      simp only [DataW.weights, hu]
      refine DataW.weights_mem_each (j := i) (t := f'.type) (d := xs[i].1) ?_ ?_ n hn
      · rw [List.getElem?_map, hi]; rfl
      · rw [List.getElem?_map, List.getElem?_eq_getElem hlt]; rfl)
    exact ⟨r y, by show k.K w (f (r y)) cs; rw [hfr]; exact hy, by show g (f (r y)); rw [hfr]; exact hg⟩⟩

/-- A parameter: a struct. -/
theorem param_struct {P : Program} {t : TypeId} {fs : Array Field} {α : Type} {k : Kd α} {g : α → Prop} (ho : Opens P t k g) (hu : P.underlying t = some (.struct fs)) {H : Type} {enc : TypeId × Value → H} {w : World} {base b0 : Nat} {spare : Nat → Bool} {held : Bool} {r : Reach} {v : Value} {d : DataW H} {ps : List MemPlace}
    {ts : List TypeId} {ds : List (DataW H)} {j : Nat} (hsz : (DataW.weightsEach P ts ds).all (· ≤ reachBytes) = true) (ht : ts[j]? = some t) (hd : ds[j]? = some d) (hv : Value.okWide P w r b0 t v) (h : DataW.Trod enc P w base spare held t v d ps) :
    ∃ y cs, v = .agg cs.toArray ∧ k.K w y cs ∧ g y := by
  obtain ⟨cs, rfl, hs⟩ := okWide_struct hu hv
  obtain ⟨fuel, hf⟩ := h
  obtain ⟨y, hy, hg⟩ := ho.2 H enc w base spare held fuel _ _ hf (fun n hn => by
    have := List.all_eq_true.1 hsz n (DataW.weights_mem_each ht hd n hn)
    simpa using this)
  exact ⟨y, cs.toList, by simp, by simpa [Value.cells] using hy, hg⟩

/-- A parameter: a slice. -/
theorem param_slice {P : Program} {t e : TypeId} {B : Nat} {α : Type} {k : Kd α} {g : List α → Prop} (ho : Opens P t (Kd.slice e k) g) (hu : P.underlying t = some (.slice e)) {H : Type} {enc : TypeId × Value → H} {w : World} {base b0 : Nat} {spare : Nat → Bool} {held : Bool} {r : Reach} {v : Value} {d : DataW H} {ps : List MemPlace}
    {ts : List TypeId} {ds : List (DataW H)} {j : Nat} (hsz : (DataW.weightsEach P ts ds).all (· ≤ reachBytes) = true) (ht : ts[j]? = some t) (hd : ds[j]? = some d) (hv : Value.okWide P w r b0 t v) (h : DataW.Trod enc P w base spare held t v d ps) :
    ∃ (A : Option Addr) (c : Nat) (xs : List α), v = .slice A xs.length c ∧ xs.length ≤ c ∧ k.C w A xs.length xs ∧ g xs := by
  obtain ⟨a, len, cap, rfl⟩ := okWide_slice hu hv
  obtain ⟨fuel, hf⟩ := h
  obtain ⟨y, hy, hg⟩ := ho.2 H enc w base spare held fuel _ _ hf (fun n hn => by
    have := List.all_eq_true.1 hsz n (DataW.weights_mem_each ht hd n hn)
    simpa using this)
  obtain ⟨A, c, hcs, hl, hC⟩ := hy
  simp [Value.cells] at hcs
  obtain ⟨rfl, rfl, rfl⟩ := hcs
  exact ⟨_, _, y, rfl, hl, hC, hg⟩
end Go.Proofs.YtidehmfaebiebaaDoor.Opn
