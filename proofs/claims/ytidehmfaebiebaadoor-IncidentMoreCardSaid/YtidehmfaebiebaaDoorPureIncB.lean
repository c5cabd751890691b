/- Sorted lists of incidents: what merging computes, by the program's road and by the reference's. No condition but those that each theorem states. -/
import Derived.Test.YtidehmfaebiebaaDoorPureIncA
import Derived.Test.YtidehmfaebiebaaDoorGCompact
namespace Go.Proofs.YtidehmfaebiebaaDoor.Pure
open Go.RowKit Go.Proofs.YtidehmfaebiebaaDoor.PInc Go.Proofs.YtidehmfaebiebaaDoorW.PrintWords Go.Proofs.YtidehmfaebiebaaDoorW.PrintLast Go.Proofs.YtidehmfaebiebaaDoorW.PrintMore
set_option linter.unusedVariables false

instance (x y : S23) : Decidable (ltI x y) := by unfold ltI; infer_instance
theorem ltI_irrefl (x : S23) : ¬ ltI x x := by unfold ltI; omega
theorem ltI_trans {x y z : S23} (h1 : ltI x y) (h2 : ltI y z) : ltI x z := by unfold ltI at *; omega
theorem ltI_tri (x y : S23) : ltI x y ∨ x = y ∨ ltI y x := by
  rcases x with ⟨a, b, c, d⟩
  rcases y with ⟨a', b', c', d'⟩
  by_cases h : a = a' ∧ b = b' ∧ c = c' ∧ d = d'
  · obtain ⟨rfl, rfl, rfl, rfl⟩ := h
    exact .inr (.inl rfl)
  · unfold ltI
    simp only
    omega
/-- Sorted, each once. -/
def SS (l : List S23) : Prop := l.Pairwise ltI
theorem ss_unique : ∀ (a b : List S23), SS a → SS b → (∀ x, x ∈ a ↔ x ∈ b) → a = b
  | [], [], _, _, _ => rfl
  | [], q :: b, _, _, h => by have := (h q).2 List.mem_cons_self; cases this
  | p :: a, [], _, _, h => by have := (h p).1 List.mem_cons_self; cases this
  | p :: a, q :: b, ha, hb, h => by
    obtain ⟨ha1, ha2⟩ := List.pairwise_cons.1 ha
    obtain ⟨hb1, hb2⟩ := List.pairwise_cons.1 hb
    have e : p = q := by
      rcases List.mem_cons.1 ((h p).1 List.mem_cons_self) with e | e
      · exact e
      · rcases List.mem_cons.1 ((h q).2 List.mem_cons_self) with e2 | e2
        · exact e2.symm
        · exact absurd (ltI_trans (hb1 p e) (ha1 q e2)) (ltI_irrefl _)
    subst e
    congr 1
    refine ss_unique a b ha2 hb2 (fun x => ⟨fun hx => ?_, fun hx => ?_⟩)
    · rcases List.mem_cons.1 ((h x).1 (List.mem_cons_of_mem _ hx)) with e | e
      · subst e; exact absurd (ha1 x hx) (ltI_irrefl _)
      · exact e
    · rcases List.mem_cons.1 ((h x).2 (List.mem_cons_of_mem _ hx)) with e | e
      · subst e; exact absurd (hb1 x hx) (ltI_irrefl _)
      · exact e
/-! ### the program's road: sort, then compact -/
theorem compP_mem (l : List S23) (x : S23) : x ∈ compP l ↔ x ∈ l := by
  induction l with
  | nil => exact Iff.rfl
  | cons a t ih =>
    cases t with
    | nil => exact Iff.rfl
    | cons b r =>
      rw [compP]
      by_cases h : a = b
      · rw [if_pos h, ih, h]
        simp
      · rw [if_neg h, List.mem_cons, ih, List.mem_cons (a := x) (b := a)]
theorem compP_ss (l : List S23) (h : l.Pairwise fun p q => ¬ ltI q p) : SS (compP l) := by
  induction l with
  | nil => exact List.Pairwise.nil
  | cons a t ih =>
    obtain ⟨h1, h2⟩ := List.pairwise_cons.1 h
    cases t with
    | nil => exact List.pairwise_singleton _ _
    | cons b r =>
      rw [compP]
      by_cases e : a = b
      · rw [if_pos e]; exact ih h2
      · rw [if_neg e]
        refine List.pairwise_cons.2 ⟨fun x hx => ?_, ih h2⟩
        rw [compP_mem] at hx
        have hab : ltI a b := by
          rcases ltI_tri a b with h3 | h3 | h3
          · exact h3
          · exact absurd h3 e
          · exact absurd h3 (h1 b List.mem_cons_self)
        rcases List.mem_cons.1 hx with rfl | hx
        · exact hab
        · rcases ltI_tri b x with h4 | h4 | h4
          · exact ltI_trans hab h4
          · rw [← h4]; exact hab
          · exact absurd h4 ((List.pairwise_cons.1 h2).1 x hx)
def normL (l : List S23) : List S23 := compP (sortP l)
theorem normL_mem (l : List S23) (x : S23) : x ∈ normL l ↔ x ∈ l := by
  unfold normL
  rw [compP_mem]
  exact (sortP_sorts l).1.mem_iff
theorem normL_ss (l : List S23) : SS (normL l) := compP_ss _ (sortP_sorts l).2
theorem normL_eq {l m : List S23} (hm : SS m) (h : ∀ x, x ∈ m ↔ x ∈ l) : normL l = m :=
  ss_unique _ _ (normL_ss l) hm (fun x => (normL_mem l x).trans (h x).symm)
theorem normL_congr {l m : List S23} (h : ∀ x, x ∈ l ↔ x ∈ m) : normL l = normL m :=
  normL_eq (normL_ss m) (fun x => (normL_mem m x).trans (h x).symm)
/-- What Merge returns. -/
def mergeV (a b : List S23) : List S23 × Int :=
  if chkV a = 0 then (if chkV b = 0 then (if ((normL (a ++ b)).length : Int) > 300 then ([], 5) else (normL (a ++ b), 0)) else ([], chkV b)) else ([], chkV a)
/-! ### the reference's road: insert one after the other -/
def putP : List S23 → S23 → List S23
  | [], x => [x]
  | y :: r, x => if ltI y x then y :: putP r x else if y = x then y :: r else x :: y :: r
theorem putP_mem (l : List S23) (x z : S23) : z ∈ putP l x ↔ z ∈ l ∨ z = x := by
  induction l with
  | nil => simp [putP]
  | cons y r ih =>
    rw [putP]
    by_cases h1 : ltI y x
    · rw [if_pos h1, List.mem_cons, ih, List.mem_cons, or_assoc]
    · rw [if_neg h1]
      by_cases h2 : y = x
      · rw [if_pos h2]
        constructor
        · exact Or.inl
        · rintro (h | rfl)
          · exact h
          · rw [h2]; exact List.mem_cons_self
      · rw [if_neg h2, List.mem_cons]
        exact or_comm
theorem putP_ss (l : List S23) (x : S23) (h : SS l) : SS (putP l x) := by
  induction l with
  | nil => exact List.pairwise_singleton _ _
  | cons y r ih =>
    obtain ⟨h1, h2⟩ := List.pairwise_cons.1 h
    rw [putP]
    by_cases e1 : ltI y x
    · rw [if_pos e1]
      refine List.pairwise_cons.2 ⟨fun z hz => ?_, ih h2⟩
      rcases (putP_mem r x z).1 hz with hz | rfl
      · exact h1 z hz
      · exact e1
    · rw [if_neg e1]
      by_cases e2 : y = x
      · rw [if_pos e2]; exact h
      · rw [if_neg e2]
        have hxy : ltI x y := by
          rcases ltI_tri y x with h3 | h3 | h3
          · exact absurd h3 e1
          · exact absurd h3 e2
          · exact h3
        refine List.pairwise_cons.2 ⟨fun z hz => ?_, h⟩
        rcases List.mem_cons.1 hz with rfl | hz
        · exact hxy
        · exact ltI_trans hxy (h1 z hz)
theorem putP_len (l : List S23) (x : S23) : (putP l x).length ≤ l.length + 1 := by
  induction l with
  | nil => simp [putP]
  | cons y r ih =>
    rw [putP]
    split
    · simp only [List.length_cons]; omega
    · split <;> simp only [List.length_cons] <;> omega
def putAll (out l : List S23) : List S23 := l.foldl putP out
theorem putAll_mem (l out : List S23) (z : S23) : z ∈ putAll out l ↔ z ∈ out ∨ z ∈ l := by
  induction l generalizing out with
  | nil => simp [putAll]
  | cons x r ih =>
    show z ∈ putAll (putP out x) r ↔ _
    rw [ih, putP_mem, List.mem_cons, or_assoc]
theorem putAll_ss (l out : List S23) (h : SS out) : SS (putAll out l) := by
  induction l generalizing out with
  | nil => exact h
  | cons x r ih => exact ih _ (putP_ss out x h)
theorem putAll_len (l out : List S23) : (putAll out l).length ≤ out.length + l.length := by
  induction l generalizing out with
  | nil => exact Nat.le_refl _
  | cons x r ih =>
    have h1 := ih (putP out x)
    have h2 := putP_len out x
    simp only [List.length_cons]
    show (putAll (putP out x) r).length ≤ _
    omega
theorem putAll_norm (a b : List S23) : putAll (putAll [] a) b = normL (a ++ b) := by
  refine (normL_eq (putAll_ss b _ (putAll_ss a [] List.Pairwise.nil)) (fun x => ?_)).symm
  rw [putAll_mem, putAll_mem, List.mem_append]
  simp
end Go.Proofs.YtidehmfaebiebaaDoor.Pure
