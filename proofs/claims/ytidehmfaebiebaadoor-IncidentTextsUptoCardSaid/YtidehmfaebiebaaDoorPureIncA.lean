/- What incident.Valid, check and the reference's List compute, in plain words. No condition but those that each theorem states. -/
import Derived.Test.YtidehmfaebiebaaDoorPA
namespace Go.Proofs.YtidehmfaebiebaaDoor.Pure
open Go.RowKit Go.Proofs.YtidehmfaebiebaaDoor.PInc Go.Proofs.YtidehmfaebiebaaDoorW.PrintWords Go.Proofs.YtidehmfaebiebaaDoorW.PrintLast Go.Proofs.YtidehmfaebiebaaDoorW.PrintMore
set_option linter.unusedVariables false

theorem wrap_id {x : Int} (h0 : -9223372036854775808 ≤ x) (h1 : x ≤ 9223372036854775807) : wrap64 x = x := by
  unfold wrap64; omega
/-- An incident is as the chapter asks. -/
def okI (x : S23) : Prop := 1 ≤ x.f0 ∧ x.f0 ≤ 6 ∧ 0 ≤ x.f1 ∧ x.f1 ≤ 1099511627776 ∧ 0 ≤ x.f2 ∧ x.f2 ≤ 86400 ∧ 0 ≤ x.f3 ∧ x.f3 ≤ 3
instance (x : S23) : Decidable (okI x) := by unfold okI; infer_instance
def valV (x : S23) : Int := if x.f0 < 1 ∨ x.f0 > 6 then 1 else if x.f1 < 0 ∨ x.f1 > 1099511627776 ∨ x.f2 < 0 ∨ x.f2 > 86400 ∨ x.f3 < 0 ∨ x.f3 > 3 then 3 else 0
theorem valV_zero (x : S23) : valV x = 0 ↔ okI x := by
  unfold valV okI
  by_cases h1 : x.f0 < 1 ∨ x.f0 > 6
  · rw [if_pos h1]; omega
  · rw [if_neg h1]
    by_cases h2 : x.f1 < 0 ∨ x.f1 > 1099511627776 ∨ x.f2 < 0 ∨ x.f2 > 86400 ∨ x.f3 < 0 ∨ x.f3 > 3
    · rw [if_pos h2]; omega
    · rw [if_neg h2]; omega
theorem chain (k : Int) (x : S23) : (if x.f1 < 0 then (some (3 : Int)) else (if x.f1 > 1099511627776 then (some 3) else (if x.f2 < 0 then (some 3) else (if x.f2 > 86400 then (some 3) else (if x.f3 < 0 then (some 3) else (if x.f3 > 3 then (some 3) else (some 0))))))) =
    some (if x.f1 < 0 ∨ x.f1 > 1099511627776 ∨ x.f2 < 0 ∨ x.f2 > 86400 ∨ x.f3 < 0 ∨ x.f3 > 3 then 3 else 0) := by
  by_cases h1 : x.f1 < 0
  · rw [if_pos h1, if_pos (by omega)]
  · rw [if_neg h1]
    by_cases h2 : x.f1 > 1099511627776
    · rw [if_pos h2, if_pos (by omega)]
    · rw [if_neg h2]
      by_cases h3 : x.f2 < 0
      · rw [if_pos h3, if_pos (by omega)]
      · rw [if_neg h3]
        by_cases h4 : x.f2 > 86400
        · rw [if_pos h4, if_pos (by omega)]
        · rw [if_neg h4]
          by_cases h5 : x.f3 < 0
          · rw [if_pos h5, if_pos (by omega)]
          · rw [if_neg h5]
            by_cases h6 : x.f3 > 3
            · rw [if_pos h6, if_pos (by omega)]
            · rw [if_neg h6, if_neg (by omega)]
theorem valid_eq (k : Nat) (x : S23) : incident_Valid.f (k + 1) x.f0 x.f1 x.f2 x.f3 = some (valV x) := by
  unfold incident_Valid.f valV
  by_cases h1 : x.f0 < 1
  · rw [if_pos h1, if_pos (Or.inl h1)]; rfl
  · rw [if_neg h1]
    by_cases h2 : x.f0 > 6
    · rw [if_pos (Or.inr h2), decide_eq_true h2]; rfl
    · rw [if_neg (by omega : ¬ (x.f0 < 1 ∨ x.f0 > 6)), decide_eq_false h2, incident_Valid.j0, if_neg (by decide)]
      exact chain 0 x
theorem rvalid_eq (k : Nat) (x : S23) : examboardref50_Valid.f (k + 1) x.f0 x.f1 x.f2 x.f3 = some (valV x) := by
  unfold examboardref50_Valid.f valV
  by_cases h1 : x.f0 < 1
  · rw [if_pos h1, if_pos (Or.inl h1)]; rfl
  · rw [if_neg h1]
    by_cases h2 : x.f0 > 6
    · rw [if_pos (Or.inr h2), decide_eq_true h2]; rfl
    · rw [if_neg (by omega : ¬ (x.f0 < 1 ∨ x.f0 > 6)), decide_eq_false h2, examboardref50_Valid.j0, if_neg (by decide)]
      exact chain 0 x
/-- The first error of a list's members. -/
def firstV : List S23 → Int
  | [] => 0
  | x :: r => if valV x = 0 then firstV r else valV x
def chkV (l : List S23) : Int := if (l.length : Int) > 300 then 5 else firstV l
theorem drop_S (l : List S23) (i : Int) (h0 : 0 ≤ i) (h1 : i < (l.length : Int)) : l.drop i.toNat = rd_T23 l i :: l.drop (i + 1).toNat := by
  have h : i.toNat < l.length := by omega
  rw [List.drop_eq_getElem_cons h, show (i + 1).toNat = i.toNat + 1 by omega]
  simp [rd_T23, List.getD, List.getElem?_eq_getElem h]
theorem check_l0 (l : List S23) (hl : (l.length : Int) ≤ 300) : ∀ (d : Nat) (i : Int), 0 ≤ i → (l.length : Int) - i = (d : Int) → Ev (fun k => incident_check.l0 k l (l.length : Int) i) (firstV (l.drop i.toNat)) := by
  intro d
  induction d with
  | zero =>
    intro i h0 hd
    rw [List.drop_eq_nil_of_le (by omega)]
    refine Ev.step (f := fun _ => some 0) (fun k => ?_) (Ev.now _)
    show incident_check.l0 (k + 1) l (l.length : Int) i = some 0
    rw [incident_check.l0, if_neg (by omega)]
  | succ d ih =>
    intro i h0 hd
    rw [drop_S l i h0 (by omega)]
    have hw : wrap64 (i + 1) = i + 1 := wrap_id (by omega) (by omega)
    have hin := ih (i + 1) (by omega) (by omega)
    rw [firstV]
    refine Ev.step (f := fun k => (incident_Valid.f k (rd_T23 l i).f0 (rd_T23 l i).f1 (rd_T23 l i).f2 (rd_T23 l i).f3).bind fun t => if t = 0 then incident_check.l0 k l (l.length : Int) (i + 1) else some t) (fun k => ?_) ?_
    · show incident_check.l0 (k + 1) l (l.length : Int) i = _
      rw [incident_check.l0, if_pos (by omega), if_pos h0, if_pos (by omega), hw]
    · refine Ev.bind (a := valV (rd_T23 l i)) (Ev.step (f := fun _ => some (valV (rd_T23 l i))) (fun k => valid_eq k _) (Ev.now _)) ?_
      by_cases hv : valV (rd_T23 l i) = 0
      · refine Ev.congr (f := fun k => incident_check.l0 k l (l.length : Int) (i + 1)) (fun k => by rw [if_pos hv]) ?_
        rw [if_pos hv]; exact hin
      · refine Ev.congr (f := fun _ => some (valV (rd_T23 l i))) (fun k => by rw [if_neg hv]) ?_
        rw [if_neg hv]; exact Ev.now _
theorem check_ev (l : List S23) : Ev (fun k => incident_check.f k l) (chkV l) := by
  unfold chkV
  by_cases h : (l.length : Int) > 300
  · refine Ev.congr (f := fun _ => some 5) (fun k => by unfold incident_check.f; rw [if_pos h]) ?_
    rw [if_pos h]; exact Ev.now _
  · refine Ev.congr (f := fun k => incident_check.l0 k l (l.length : Int) 0) (fun k => by unfold incident_check.f; rw [if_neg h]) ?_
    rw [if_neg h]
    exact check_l0 l (by omega) l.length 0 (by omega) (by omega)
theorem firstV_zero (l : List S23) : firstV l = 0 ↔ ∀ x ∈ l, okI x := by
  induction l with
  | nil => simp [firstV]
  | cons x r ih =>
    rw [firstV]
    by_cases h : valV x = 0
    · rw [if_pos h, ih]
      have := (valV_zero x).1 h
      simp [this]
    · rw [if_neg h]
      constructor
      · intro h2; exact absurd h2 h
      · intro h2; exact absurd ((valV_zero x).2 (h2 x List.mem_cons_self)) h
theorem chkV_zero (l : List S23) : chkV l = 0 ↔ (l.length : Int) ≤ 300 ∧ ∀ x ∈ l, okI x := by
  unfold chkV
  by_cases h : (l.length : Int) > 300
  · rw [if_pos h]; constructor <;> intro h2
    · omega
    · omega
  · rw [if_neg h, firstV_zero]
    constructor
    · intro h2; exact ⟨by omega, h2⟩
    · intro h2; exact h2.2
end Go.Proofs.YtidehmfaebiebaaDoor.Pure
