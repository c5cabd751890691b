/- What the reference's Merge, Same, has, within and SameInts compute, in plain words. No condition but those that each theorem states. -/
import Derived.Test.YtidehmfaebiebaaDoorPureIncB
import Derived.Test.YtidehmfaebiebaaDoorPureIncC
import Derived.Test.YtidehmfaebiebaaDoorPIncx8
import Derived.Test.YtidehmfaebiebaaDoorPC
import Derived.Test.YtidehmfaebiebaaDoorPB
import Derived.Test.YtidehmfaebiebaaDoorPH
namespace Go.Proofs.YtidehmfaebiebaaDoor.Pure
open Go.RowKit Go.Proofs.YtidehmfaebiebaaDoor.PInc Go.Proofs.YtidehmfaebiebaaDoorW.PrintWords Go.Proofs.YtidehmfaebiebaaDoorW.PrintLast Go.Proofs.YtidehmfaebiebaaDoorW.PrintMore
set_option linter.unusedVariables false

theorem ev_none {α : Type} (v : α) : Ev (fun _ => (some v : Option α)) v := Ev.now v
theorem less_eq (x y : S23) : examboardref50_less.f x.f0 x.f1 x.f2 x.f3 y.f0 y.f1 y.f2 y.f3 = some (decide (ltI x y)) := by
  unfold examboardref50_less.f ltI
  by_cases h1 : x.f1 = y.f1
  · rw [if_pos h1]
    by_cases h0 : x.f0 = y.f0
    · rw [if_pos h0]
      by_cases h2 : x.f2 = y.f2
      · rw [if_pos h2]; congr 1; exact decide_eq_decide.2 (by omega)
      · rw [if_neg h2]; congr 1; exact decide_eq_decide.2 (by omega)
    · rw [if_neg h0]; congr 1; exact decide_eq_decide.2 (by omega)
  · rw [if_neg h1]; congr 1; exact decide_eq_decide.2 (by omega)
theorem eq4 (x y : S23) : ((x.f0 == y.f0 && (x.f1 == y.f1 && (x.f2 == y.f2 && (x.f3 == y.f3)))) = true) ↔ x = y := by
  rcases x with ⟨a, b, c, d⟩
  rcases y with ⟨a', b', c', d'⟩
  simp
theorem ne4 (x y : S23) : ((!(x.f0 == y.f0) || (!(x.f1 == y.f1) || (!(x.f2 == y.f2) || (!(x.f3 == y.f3))))) = true) ↔ x ≠ y := by
  rcases x with ⟨a, b, c, d⟩
  rcases y with ⟨a', b', c', d'⟩
  simp [Classical.or_iff_not_imp_left]
/-! ### put -/
theorem put_l0 (l : List S23) (x : S23) (hl : (l.length : Int) ≤ 1000) : ∀ (d : Nat) (i : Int), 0 ≤ i → (l.length : Int) - i = (d : Int) →
    Ev (fun k => examboardref50_put.l0 k l i x.f0 x.f1 x.f2 x.f3) (l.take i.toNat ++ putP (l.drop i.toNat) x) := by
  intro d
  induction d with
  | zero =>
    intro i h0 hd
    rw [List.drop_eq_nil_of_le (by omega)]
    refine Ev.step (f := fun _ => some (l.take i.toNat ++ putP [] x)) (fun k => ?_) (Ev.now _)
    show examboardref50_put.l0 (k + 1) l i x.f0 x.f1 x.f2 x.f3 = _
    rw [examboardref50_put.l0, if_neg (by omega)]
    simp only [Option.bind_some]
    rw [if_pos h0, if_pos (by omega), if_pos (by simp only [List.length_nil, List.length_take]; omega), if_pos (by simp only [List.length_nil, List.length_append, List.length_take]; omega), List.drop_eq_nil_of_le (by omega), if_pos (by simp only [List.length_nil, List.length_append, List.length_take, List.length_cons]; omega)]
    simp [putP]
  | succ d ih =>
    intro i h0 hd
    have hw : wrap64 (i + 1) = i + 1 := wrap_id (by omega) (by omega)
    have hin := ih (i + 1) (by omega) (by omega)
    have hlt : i.toNat < l.length := by omega
    have ht : l.take (i + 1).toNat = l.take i.toNat ++ [rd_T23 l i] := by
      rw [show (i + 1).toNat = i.toNat + 1 by omega, List.take_succ_eq_append_getElem hlt]
      congr 2
      simp [rd_T23, List.getD, List.getElem?_eq_getElem hlt]
    have hdr := drop_S l i h0 (by omega)
    rw [hdr]
    by_cases h1 : ltI (rd_T23 l i) x
    · rw [putP, if_pos h1]
      rw [ht, List.append_assoc] at hin
      refine Ev.step (fun k => ?_) hin
      show examboardref50_put.l0 (k + 1) l i x.f0 x.f1 x.f2 x.f3 = _
      rw [examboardref50_put.l0, if_pos (by omega), if_pos h0, less_eq, Option.bind_some, decide_eq_true h1, if_pos rfl, hw]
    · by_cases h2 : rd_T23 l i = x
      · rw [putP, if_neg h1, if_pos h2, ← hdr, List.take_append_drop]
        refine Ev.step (f := fun _ => some l) (fun k => ?_) (Ev.now _)
        show examboardref50_put.l0 (k + 1) l i x.f0 x.f1 x.f2 x.f3 = _
        rw [examboardref50_put.l0, if_pos (by omega), if_pos h0, less_eq, Option.bind_some, decide_eq_false h1, if_neg (by decide), if_pos ((eq4 _ _).2 h2)]
      · rw [putP, if_neg h1, if_neg h2, ← hdr]
        refine Ev.step (f := fun _ => some (l.take i.toNat ++ x :: l.drop i.toNat)) (fun k => ?_) (Ev.now _)
        show examboardref50_put.l0 (k + 1) l i x.f0 x.f1 x.f2 x.f3 = _
        rw [examboardref50_put.l0, if_pos (by omega), if_pos h0, less_eq, Option.bind_some, decide_eq_false h1, if_neg (by decide), if_neg (fun h => h2 ((eq4 _ _).1 h))]
        simp only [Option.bind_some]
        rw [if_pos (by omega), if_pos (by simp only [List.length_nil, List.length_take]; omega), if_pos (by simp only [List.length_nil, List.length_append, List.length_take]; omega), if_pos (by simp only [List.length_nil, List.length_append, List.length_take, List.length_cons, List.length_drop]; omega)]
        simp
theorem put_ev (l : List S23) (x : S23) (hl : (l.length : Int) ≤ 1000) : Ev (fun k => examboardref50_put.f k l x.f0 x.f1 x.f2 x.f3) (putP l x) := by
  have := put_l0 l x hl l.length 0 (by omega) (by omega)
  exact this
theorem rmerge_l1 (b : List S23) (hb : (b.length : Int) ≤ 300) : ∀ (d : Nat) (out : List S23) (i : Int), 0 ≤ i → (b.length : Int) - i = (d : Int) → (out.length : Int) ≤ 300 + i →
    Ev (fun k => examboardref50_Merge.l1 k b out i) (if ((putAll out (b.drop i.toNat)).length : Int) > 300 then ([], 5) else (putAll out (b.drop i.toNat), 0)) := by
  intro d
  induction d with
  | zero =>
    intro out i h0 hd ho
    rw [List.drop_eq_nil_of_le (by omega)]
    refine Ev.step (f := fun _ => some (if (out.length : Int) > 300 then ([], 5) else (out, 0))) (fun k => ?_) (Ev.now _)
    show examboardref50_Merge.l1 (k + 1) b out i = _
    rw [examboardref50_Merge.l1, if_neg (by omega)]
    split <;> rfl
  | succ d ih =>
    intro out i h0 hd ho
    have hw : wrap64 (i + 1) = i + 1 := wrap_id (by omega) (by omega)
    have hp := putP_len out (rd_T23 b i)
    have hin := ih (putP out (rd_T23 b i)) (i + 1) (by omega) (by omega) (by omega)
    rw [drop_S b i h0 (by omega)]
    refine Ev.step (f := fun k => (examboardref50_put.f k out (rd_T23 b i).f0 (rd_T23 b i).f1 (rd_T23 b i).f2 (rd_T23 b i).f3).bind fun t => examboardref50_Merge.l1 k b t (i + 1)) (fun k => ?_) ?_
    · show examboardref50_Merge.l1 (k + 1) b out i = _
      rw [examboardref50_Merge.l1, if_pos (by omega), if_pos h0, hw]
    · exact Ev.bind (put_ev out _ (by omega)) hin
theorem rmerge_l0 (a b : List S23) (ha : (a.length : Int) ≤ 300) (hb : (b.length : Int) ≤ 300) : ∀ (d : Nat) (out : List S23) (i : Int), 0 ≤ i → (a.length : Int) - i = (d : Int) → (out.length : Int) ≤ i →
    Ev (fun k => examboardref50_Merge.l0 k a b out i) (if ((putAll (putAll out (a.drop i.toNat)) b).length : Int) > 300 then ([], 5) else (putAll (putAll out (a.drop i.toNat)) b, 0)) := by
  intro d
  induction d with
  | zero =>
    intro out i h0 hd ho
    rw [List.drop_eq_nil_of_le (by omega)]
    have h := rmerge_l1 b hb b.length out 0 (by omega) (by omega) (by omega)
    refine Ev.step (fun k => ?_) h
    show examboardref50_Merge.l0 (k + 1) a b out i = _
    rw [examboardref50_Merge.l0, if_neg (by omega)]
  | succ d ih =>
    intro out i h0 hd ho
    have hw : wrap64 (i + 1) = i + 1 := wrap_id (by omega) (by omega)
    have hp := putP_len out (rd_T23 a i)
    have hin := ih (putP out (rd_T23 a i)) (i + 1) (by omega) (by omega) (by omega)
    rw [drop_S a i h0 (by omega)]
    refine Ev.step (f := fun k => (examboardref50_put.f k out (rd_T23 a i).f0 (rd_T23 a i).f1 (rd_T23 a i).f2 (rd_T23 a i).f3).bind fun t => examboardref50_Merge.l0 k a b t (i + 1)) (fun k => ?_) ?_
    · show examboardref50_Merge.l0 (k + 1) a b out i = _
      rw [examboardref50_Merge.l0, if_pos (by omega), if_pos h0, hw]
    · exact Ev.bind (put_ev out _ (by omega)) hin
theorem rmerge_ev (a b : List S23) : Ev (fun k => examboardref50_Merge.f k a b) (mergeV a b) := by
  unfold examboardref50_Merge.f mergeV
  refine Ev.bind (list_ev a) ?_
  by_cases h : chkV a = 0
  · obtain ⟨h1, h2⟩ := (chkV_zero a).1 h
    rw [if_pos h]
    refine Ev.congr (f := fun k => (examboardref50_List.f k b).bind fun t180 => (if t180 = 0 then (examboardref50_Merge.l0 k a b (([] : List (S23))) 0) else (some (([] : List (S23)), t180)))) (fun k => by rw [if_pos h]) ?_
    refine Ev.bind (list_ev b) ?_
    by_cases h' : chkV b = 0
    · obtain ⟨h1', h2'⟩ := (chkV_zero b).1 h'
      rw [if_pos h']
      have key := rmerge_l0 a b h1 h1' a.length [] 0 (by omega) (by omega) (by simp)
      rw [Int.toNat_zero, List.drop_zero, putAll_norm] at key
      exact Ev.congr (fun k => by rw [if_pos h']) key
    · rw [if_neg h']
      exact Ev.congr (fun k => by rw [if_neg h']) (Ev.now _)
  · rw [if_neg h]
    exact Ev.congr (fun k => by rw [if_neg h]) (Ev.now _)
theorem merge_ev (a b : List S23) : Ev (fun k => incident_Merge.f k a b) (mergeV a b) := by
  unfold incident_Merge.f mergeV
  refine Ev.bind (check_ev a) ?_
  by_cases h : chkV a = 0
  · obtain ⟨h1, h2⟩ := (chkV_zero a).1 h
    rw [if_pos h]
    refine Ev.congr (f := fun k => (incident_check.f k b).bind fun t119 => (if t119 = 0 then ((cloneInc.f a).bind fun t120 => (if t120.length + b.length < 4398046511104 then ((sortInc.f (t120 ++ b)).bind fun t126 => ((compactInc.f t126).bind fun t127 => (if (t127.length : Int) > 300 then (some (([] : List (S23)), 5)) else (some (t127, 0))))) else (none))) else (some (([] : List (S23)), t119)))) (fun k => by rw [if_pos h]) ?_
    refine Ev.bind (check_ev b) ?_
    by_cases h' : chkV b = 0
    · obtain ⟨h1', h2'⟩ := (chkV_zero b).1 h'
      rw [if_pos h', if_pos h']
      refine Ev.congr (f := fun _ => some (if ((normL (a ++ b)).length : Int) > 300 then ([], 5) else (normL (a ++ b), 0))) (fun k => ?_) (Ev.now _)
      unfold cloneInc.f
      rw [if_pos (by omega), Option.bind_some, if_pos (by omega)]
      unfold sortInc.f
      rw [if_pos (by rw [List.length_append]; omega), Option.bind_some]
      unfold compactInc.f
      rw [Option.bind_some]
      show (if ((normL (a ++ b)).length : Int) > 300 then _ else some (normL (a ++ b), (0 : Int))) = _
      split <;> rfl
    · rw [if_neg h']
      exact Ev.congr (fun k => by rw [if_neg h']) (Ev.now _)
  · rw [if_neg h]
    exact Ev.congr (fun k => by rw [if_neg h]) (Ev.now _)
/-! ### Same, SameInts, has, within -/
theorem same_l0 (l m : List S23) (he : l.length = m.length) (hl : (l.length : Int) ≤ 1000) : ∀ (d : Nat) (i : Int), 0 ≤ i → (l.length : Int) - i = (d : Int) → Ev (fun k => examboardref50_Same.l0 k l m i) (decide (l.drop i.toNat = m.drop i.toNat)) := by
  intro d
  induction d with
  | zero =>
    intro i h0 hd
    rw [List.drop_eq_nil_of_le (by omega), List.drop_eq_nil_of_le (by omega)]
    refine Ev.step (f := fun _ => some true) (fun k => ?_) (Ev.now _)
    show examboardref50_Same.l0 (k + 1) l m i = some true
    rw [examboardref50_Same.l0, if_neg (by omega)]
  | succ d ih =>
    intro i h0 hd
    rw [drop_S l i h0 (by omega), drop_S m i h0 (by omega)]
    have hw : wrap64 (i + 1) = i + 1 := wrap_id (by omega) (by omega)
    have hin := ih (i + 1) (by omega) (by omega)
    by_cases h : rd_T23 l i = rd_T23 m i
    · rw [decide_eq_decide.2 (show (rd_T23 l i :: l.drop (i + 1).toNat = rd_T23 m i :: m.drop (i + 1).toNat) ↔ l.drop (i + 1).toNat = m.drop (i + 1).toNat by simp [h])]
      refine Ev.step (fun k => ?_) hin
      show examboardref50_Same.l0 (k + 1) l m i = _
      rw [examboardref50_Same.l0, if_pos (by omega), if_pos h0, if_pos (by omega), if_neg (fun h2 => (ne4 _ _).1 h2 h), hw]
    · rw [decide_eq_false (by simp [h])]
      refine Ev.step (f := fun _ => some false) (fun k => ?_) (Ev.now _)
      show examboardref50_Same.l0 (k + 1) l m i = _
      rw [examboardref50_Same.l0, if_pos (by omega), if_pos h0, if_pos (by omega), if_pos ((ne4 _ _).2 h)]
theorem same_ev (l m : List S23) (hl : (l.length : Int) ≤ 1000) : Ev (fun k => examboardref50_Same.f k l m) (decide (l = m)) := by
  by_cases h : (l.length : Int) = (m.length : Int)
  · refine Ev.congr (f := fun k => examboardref50_Same.l0 k l m 0) (fun k => by unfold examboardref50_Same.f; rw [if_pos h]) ?_
    exact same_l0 l m (by omega) hl l.length 0 (by omega) (by omega)
  · rw [decide_eq_false (fun e => h (by rw [e]))]
    exact Ev.congr (f := fun _ => some false) (fun k => by unfold examboardref50_Same.f; rw [if_neg h]) (Ev.now _)
theorem drop_I (l : List Int) (i : Int) (h0 : 0 ≤ i) (h1 : i < (l.length : Int)) : l.drop i.toNat = rd l i :: l.drop (i + 1).toNat := by
  have h : i.toNat < l.length := by omega
  rw [List.drop_eq_getElem_cons h, show (i + 1).toNat = i.toNat + 1 by omega]
  simp [rd, List.getD, List.getElem?_eq_getElem h]
theorem ints_l0 (l m : List Int) (he : l.length = m.length) (hl : (l.length : Int) ≤ 1000) : ∀ (d : Nat) (i : Int), 0 ≤ i → (l.length : Int) - i = (d : Int) → Ev (fun k => examboardref13_SameInts.l0 k l m i) (decide (l.drop i.toNat = m.drop i.toNat)) := by
  intro d
  induction d with
  | zero =>
    intro i h0 hd
    rw [List.drop_eq_nil_of_le (by omega), List.drop_eq_nil_of_le (by omega)]
    refine Ev.step (f := fun _ => some true) (fun k => ?_) (Ev.now _)
    show examboardref13_SameInts.l0 (k + 1) l m i = some true
    rw [examboardref13_SameInts.l0, if_neg (by omega)]
  | succ d ih =>
    intro i h0 hd
    rw [drop_I l i h0 (by omega), drop_I m i h0 (by omega)]
    have hw : wrap64 (i + 1) = i + 1 := wrap_id (by omega) (by omega)
    have hin := ih (i + 1) (by omega) (by omega)
    by_cases h : rd l i = rd m i
    · rw [decide_eq_decide.2 (show (rd l i :: l.drop (i + 1).toNat = rd m i :: m.drop (i + 1).toNat) ↔ l.drop (i + 1).toNat = m.drop (i + 1).toNat by simp [h])]
      refine Ev.step (fun k => ?_) hin
      show examboardref13_SameInts.l0 (k + 1) l m i = _
      rw [examboardref13_SameInts.l0, if_pos (by omega), if_pos h0, if_pos (by omega), if_pos h, hw]
    · rw [decide_eq_false (by simp [h])]
      refine Ev.step (f := fun _ => some false) (fun k => ?_) (Ev.now _)
      show examboardref13_SameInts.l0 (k + 1) l m i = _
      rw [examboardref13_SameInts.l0, if_pos (by omega), if_pos h0, if_pos (by omega), if_neg h]
theorem ints_ev (l m : List Int) (hl : (l.length : Int) ≤ 1000) : Ev (fun k => examboardref13_SameInts.f k l m) (decide (l = m)) := by
  by_cases h : (l.length : Int) = (m.length : Int)
  · refine Ev.congr (f := fun k => examboardref13_SameInts.l0 k l m 0) (fun k => by unfold examboardref13_SameInts.f; rw [if_pos h]) ?_
    exact ints_l0 l m (by omega) hl l.length 0 (by omega) (by omega)
  · rw [decide_eq_false (fun e => h (by rw [e]))]
    exact Ev.congr (f := fun _ => some false) (fun k => by unfold examboardref13_SameInts.f; rw [if_neg h]) (Ev.now _)
theorem has_l0 (l : List S23) (x : S23) (hl : (l.length : Int) ≤ 1000) : ∀ (d : Nat) (i : Int), 0 ≤ i → (l.length : Int) - i = (d : Int) → Ev (fun k => examboardlaw50_has.l0 k l i x.f0 x.f1 x.f2 x.f3) (decide (x ∈ l.drop i.toNat)) := by
  intro d
  induction d with
  | zero =>
    intro i h0 hd
    rw [List.drop_eq_nil_of_le (by omega)]
    refine Ev.step (f := fun _ => some false) (fun k => ?_) (Ev.now _)
    show examboardlaw50_has.l0 (k + 1) l i x.f0 x.f1 x.f2 x.f3 = some false
    rw [examboardlaw50_has.l0, if_neg (by omega)]
  | succ d ih =>
    intro i h0 hd
    rw [drop_S l i h0 (by omega)]
    have hw : wrap64 (i + 1) = i + 1 := wrap_id (by omega) (by omega)
    have hin := ih (i + 1) (by omega) (by omega)
    by_cases h : rd_T23 l i = x
    · rw [decide_eq_true (by simp [h])]
      refine Ev.step (f := fun _ => some true) (fun k => ?_) (Ev.now _)
      show examboardlaw50_has.l0 (k + 1) l i x.f0 x.f1 x.f2 x.f3 = _
      rw [examboardlaw50_has.l0, if_pos (by omega), if_pos h0, if_pos ((eq4 _ _).2 h)]
    · rw [decide_eq_decide.2 (show (x ∈ rd_T23 l i :: l.drop (i + 1).toNat) ↔ x ∈ l.drop (i + 1).toNat by simp [Ne.symm h])]
      refine Ev.step (fun k => ?_) hin
      show examboardlaw50_has.l0 (k + 1) l i x.f0 x.f1 x.f2 x.f3 = _
      rw [examboardlaw50_has.l0, if_pos (by omega), if_pos h0, if_neg (fun h2 => h ((eq4 _ _).1 h2)), hw]
theorem has_ev (l : List S23) (x : S23) (hl : (l.length : Int) ≤ 1000) : Ev (fun k => examboardlaw50_has.f k l x.f0 x.f1 x.f2 x.f3) (decide (x ∈ l)) :=
  has_l0 l x hl l.length 0 (by omega) (by omega)
theorem within_l0 (l m : List S23) (hl : (l.length : Int) ≤ 1000) (hm : (m.length : Int) ≤ 1000) : ∀ (d : Nat) (i : Int), 0 ≤ i → (l.length : Int) - i = (d : Int) → Ev (fun k => examboardlaw50_within.l0 k l m i) (decide (∀ x ∈ l.drop i.toNat, x ∈ m)) := by
  intro d
  induction d with
  | zero =>
    intro i h0 hd
    rw [List.drop_eq_nil_of_le (by omega)]
    refine Ev.step (f := fun _ => some true) (fun k => ?_) (Ev.congr (fun k => by rw [decide_eq_true (by simp)]) (Ev.now _))
    show examboardlaw50_within.l0 (k + 1) l m i = some true
    rw [examboardlaw50_within.l0, if_neg (by omega)]
  | succ d ih =>
    intro i h0 hd
    rw [drop_S l i h0 (by omega)]
    have hw : wrap64 (i + 1) = i + 1 := wrap_id (by omega) (by omega)
    have hin := ih (i + 1) (by omega) (by omega)
    refine Ev.step (f := fun k => (examboardlaw50_has.f k m (rd_T23 l i).f0 (rd_T23 l i).f1 (rd_T23 l i).f2 (rd_T23 l i).f3).bind fun t => if t = true then examboardlaw50_within.l0 k l m (i + 1) else some false) (fun k => ?_) ?_
    · show examboardlaw50_within.l0 (k + 1) l m i = _
      rw [examboardlaw50_within.l0, if_pos (by omega), if_pos h0, hw]
    · refine Ev.bind (has_ev m _ hm) ?_
      by_cases h : rd_T23 l i ∈ m
      · rw [decide_eq_decide.2 (show (∀ x ∈ rd_T23 l i :: l.drop (i + 1).toNat, x ∈ m) ↔ ∀ x ∈ l.drop (i + 1).toNat, x ∈ m by simp [h])]
        exact Ev.congr (fun k => by rw [decide_eq_true h, if_pos rfl]) hin
      · have hn : ¬ ∀ x ∈ rd_T23 l i :: l.drop (i + 1).toNat, x ∈ m := fun h2 => h (h2 _ List.mem_cons_self)
        refine (congrArg (Ev _) (decide_eq_false hn).symm).mp ?_
        exact Ev.congr (f := fun _ => some false) (fun k => by rw [decide_eq_false h, if_neg (by decide)]) (Ev.now _)
theorem within_ev (l m : List S23) (hl : (l.length : Int) ≤ 1000) (hm : (m.length : Int) ≤ 1000) : Ev (fun k => examboardlaw50_within.f k l m) (decide (∀ x ∈ l, x ∈ m)) :=
  within_l0 l m hl hm l.length 0 (by omega) (by omega)
theorem mergeV_len (a b : List S23) : ((mergeV a b).1.length : Int) ≤ 300 := by
  unfold mergeV
  split
  · split
    · split
      · simp
      · show ((normL (a ++ b)).length : Int) ≤ 300
        omega
    · simp
  · simp
end Go.Proofs.YtidehmfaebiebaaDoor.Pure
