/- The plain law of IncidentMerge and IncidentGroups: what the functions compute is true. No condition. -/
import Derived.Test.YtidehmfaebiebaaDoorPureIncD
import Derived.Test.YtidehmfaebiebaaDoorPIncx42
import Derived.Test.YtidehmfaebiebaaDoorPIncx43
namespace Go.Proofs.YtidehmfaebiebaaDoor.Pure
open Go.RowKit Go.Proofs.YtidehmfaebiebaaDoor.PInc Go.Proofs.YtidehmfaebiebaaDoorW.PrintWords Go.Proofs.YtidehmfaebiebaaDoorW.PrintLast Go.Proofs.YtidehmfaebiebaaDoorW.PrintMore
set_option linter.unusedVariables false

theorem normL_comm (a b : List S23) : normL (a ++ b) = normL (b ++ a) :=
  normL_congr (fun x => by rw [List.mem_append, List.mem_append]; exact or_comm)
/-- A merge that succeeds. -/
theorem mergeV_ok (a b : List S23) : (mergeV a b).2 = 0 ↔ chkV a = 0 ∧ chkV b = 0 ∧ ((normL (a ++ b)).length : Int) ≤ 300 := by
  unfold mergeV
  by_cases h : chkV a = 0
  · rw [if_pos h]
    by_cases h' : chkV b = 0
    · rw [if_pos h']
      by_cases h2 : ((normL (a ++ b)).length : Int) > 300
      · rw [if_pos h2]
        constructor
        · intro e; exact absurd e (by decide)
        · intro e; omega
      · rw [if_neg h2]
        exact ⟨fun _ => ⟨h, h', by omega⟩, fun _ => rfl⟩
    · rw [if_neg h']
      exact ⟨fun e => absurd e h', fun e => absurd e.2.1 h'⟩
  · rw [if_neg h]
    exact ⟨fun e => absurd e h, fun e => absurd e.1 h⟩
theorem mergeV_val {a b : List S23} (h : (mergeV a b).2 = 0) : mergeV a b = (normL (a ++ b), 0) := by
  obtain ⟨h1, h2, h3⟩ := (mergeV_ok a b).1 h
  unfold mergeV
  rw [if_pos h1, if_pos h2, if_neg (by omega)]
theorem mergeV_comm_ok (a b : List S23) : (mergeV a b).2 = 0 ↔ (mergeV b a).2 = 0 := by
  rw [mergeV_ok, mergeV_ok, normL_comm a b]
  exact ⟨fun ⟨x, y, z⟩ => ⟨y, x, z⟩, fun ⟨x, y, z⟩ => ⟨y, x, z⟩⟩
theorem chk_norm {a b : List S23} (h1 : chkV a = 0) (h2 : chkV b = 0) (h3 : ((normL (a ++ b)).length : Int) ≤ 300) : chkV (normL (a ++ b)) = 0 := by
  obtain ⟨_, o1⟩ := (chkV_zero a).1 h1
  obtain ⟨_, o2⟩ := (chkV_zero b).1 h2
  refine (chkV_zero _).2 ⟨h3, fun x hx => ?_⟩
  rcases List.mem_append.1 ((normL_mem _ _).1 hx) with hx | hx
  · exact o1 x hx
  · exact o2 x hx
theorem merge_again {a b : List S23} (h : (mergeV a b).2 = 0) : mergeV (normL (a ++ b)) a = (normL (a ++ b), 0) := by
  obtain ⟨h1, h2, h3⟩ := (mergeV_ok a b).1 h
  have e : normL (normL (a ++ b) ++ a) = normL (a ++ b) := normL_eq (normL_ss _) (fun x => by
    rw [List.mem_append, normL_mem, List.mem_append]
    constructor
    · exact Or.inl
    · rintro (h | h)
      · exact h
      · exact .inl h)
  have h4 : (mergeV (normL (a ++ b)) a).2 = 0 := (mergeV_ok _ _).2 ⟨chk_norm h1 h2 h3, h1, by rw [e]; exact h3⟩
  rw [mergeV_val h4, e]
/-- Neighbours of a sorted list. -/
theorem ss_next (m : List S23) (h : SS m) (i : Int) (h0 : 0 < i) (h1 : i < (m.length : Int)) : ltI (rd_T23 m (i - 1)) (rd_T23 m i) := by
  have e1 : i.toNat < m.length := by omega
  have e0 : (i - 1).toNat < m.length := by omega
  have r1 : rd_T23 m i = m[i.toNat] := by simp [rd_T23, List.getD, List.getElem?_eq_getElem e1]
  have r0 : rd_T23 m (i - 1) = m[(i - 1).toNat] := by
    unfold rd_T23 List.getD
    rw [List.getElem?_eq_getElem e0]; rfl
  rw [r1, r0]
  exact List.pairwise_iff_getElem.1 h _ _ e0 e1 (by omega)
theorem mlaw_l0 (a b m : List S23) (ha : (a.length : Int) ≤ 300) (hb : (b.length : Int) ≤ 300) (hm : (m.length : Int) ≤ 300) (hs : SS m) (hmem : ∀ x ∈ m, x ∈ a ∨ x ∈ b) (hag : mergeV m a = (m, 0)) :
    ∀ (d : Nat) (i : Int), 0 ≤ i → (m.length : Int) - i = (d : Int) → Ev (fun k => examboardlaw50_IncidentMerge.l0 k a b m i) true := by
  intro d
  induction d with
  | zero =>
    intro i h0 hd
    refine Ev.step (f := fun k => (incident_Merge.f k m a).bind fun bt362 => (if bt362.2 = 0 then ((examboardref50_Same.f k bt362.1 m).bind fun t366 => (if t366 = true then ((awake.f).bind fun t367 => (some t367)) else (some false))) else (some false))) (fun k => ?_) ?_
    · show examboardlaw50_IncidentMerge.l0 (k + 1) a b m i = _
      rw [examboardlaw50_IncidentMerge.l0, if_neg (by omega)]
    · have hme := merge_ev m a
      rw [hag] at hme
      refine Ev.bind hme ?_
      refine Ev.congr (f := fun k => (examboardref50_Same.f k m m).bind fun t366 => (if t366 = true then ((awake.f).bind fun t367 => (some t367)) else (some false))) (fun k => by rw [if_pos rfl]) ?_
      refine Ev.bind (same_ev m m (by omega)) ?_
      exact Ev.congr (f := fun _ => some true) (fun k => by rw [if_pos (decide_eq_true rfl)]; rfl) (Ev.now _)
  | succ d ih =>
    intro i h0 hd
    have hin := ih (i + 1) (by omega) (by omega)
    have hw : wrap64 (i + 1) = i + 1 := wrap_id (by omega) (by omega)
    have hw1 : wrap64 (i - 1) = i - 1 := wrap_id (by omega) (by omega)
    have j3 : Ev (fun k => examboardlaw50_IncidentMerge.j3 k a b m i false) true := by
      refine Ev.step (fun k => ?_) hin
      show examboardlaw50_IncidentMerge.j3 (k + 1) a b m i false = _
      rw [examboardlaw50_IncidentMerge.j3, if_neg (by decide)]
      by_cases hi : i > 0
      · have hl := ss_next m hs i hi (by omega)
        rw [if_pos hi, if_pos h0, if_pos (by omega), hw1, if_pos (by omega), if_pos (by omega), if_neg (by unfold ltI at hl; omega), if_neg (fun e => by
          have := (eq4 _ _).1 e
          rw [this] at hl
          exact ltI_irrefl _ hl), hw]
      · rw [if_neg hi, hw]
    have hmi := hmem _ (rd_mem m i h0 (by omega))
    refine Ev.step (f := fun k => (examboardlaw50_has.f k a (rd_T23 m i).f0 (rd_T23 m i).f1 (rd_T23 m i).f2 (rd_T23 m i).f3).bind fun t369 => (if t369 = true then (examboardlaw50_IncidentMerge.j3 k a b m i false) else ((examboardlaw50_has.f k b (rd_T23 m i).f0 (rd_T23 m i).f1 (rd_T23 m i).f2 (rd_T23 m i).f3).bind fun t371 => (examboardlaw50_IncidentMerge.j3 k a b m i (!t371))))) (fun k => ?_) ?_
    · show examboardlaw50_IncidentMerge.l0 (k + 1) a b m i = _
      rw [examboardlaw50_IncidentMerge.l0, if_pos (by omega), if_pos h0]
    · refine Ev.bind (has_ev a _ (by omega)) ?_
      by_cases hx : rd_T23 m i ∈ a
      · exact Ev.congr (fun k => by rw [if_pos (decide_eq_true hx)]) j3
      · have hy := hmi.resolve_left hx
        refine Ev.congr (f := fun k => (examboardlaw50_has.f k b (rd_T23 m i).f0 (rd_T23 m i).f1 (rd_T23 m i).f2 (rd_T23 m i).f3).bind fun t371 => (examboardlaw50_IncidentMerge.j3 k a b m i (!t371))) (fun k => by rw [if_neg (by rw [decide_eq_false hx]; decide)]) ?_
        refine Ev.bind (has_ev b _ (by omega)) ?_
        exact Ev.congr (fun k => by rw [decide_eq_true hy]; rfl) j3
theorem IncidentMerge (a b : List S23) : ∃ k, examboardlaw50_IncidentMerge.f k a b = some true := by
  refine Ev.rounds ?_
  unfold examboardlaw50_IncidentMerge.f
  refine Ev.bind (merge_ev a b) (Ev.bind (merge_ev b a) ?_)
  by_cases h : (mergeV a b).2 = 0
  · have h' := (mergeV_comm_ok a b).1 h
    obtain ⟨c1, c2, c3⟩ := (mergeV_ok a b).1 h
    have e' : mergeV b a = (normL (a ++ b), 0) := by rw [mergeV_val h', normL_comm b a]
    rw [mergeV_val h, e']
    obtain ⟨l1, _⟩ := (chkV_zero a).1 c1
    obtain ⟨l2, _⟩ := (chkV_zero b).1 c2
    have wa : ∀ x ∈ a, x ∈ normL (a ++ b) := fun x hx => (normL_mem _ _).2 (List.mem_append_left _ hx)
    have wb : ∀ x ∈ b, x ∈ normL (a ++ b) := fun x hx => (normL_mem _ _).2 (List.mem_append_right _ hx)
    refine Ev.congr (f := fun k => examboardlaw50_IncidentMerge.j0 k a b (normL (a ++ b)) 0 (normL (a ++ b)) 0 false) (fun k => by rw [if_pos rfl]; rfl) ?_
    refine Ev.step (f := fun k => (examboardlaw50_within.f k a (normL (a ++ b))).bind fun t359 => (if t359 = true then ((examboardlaw50_within.f k b (normL (a ++ b))).bind fun t360 => (if t360 = true then ((examboardref50_Same.f k (normL (a ++ b)) (normL (a ++ b))).bind fun t361 => (examboardlaw50_IncidentMerge.j1 k a b (normL (a ++ b)) (!t361))) else (examboardlaw50_IncidentMerge.j1 k a b (normL (a ++ b)) true))) else (examboardlaw50_IncidentMerge.j1 k a b (normL (a ++ b)) true))) (fun k => by
      show examboardlaw50_IncidentMerge.j0 (k + 1) a b _ 0 _ 0 false = _
      rw [examboardlaw50_IncidentMerge.j0, if_neg (by decide)]) ?_
    refine Ev.bind (within_ev a _ (by omega) (by omega)) ?_
    refine Ev.congr (fun k => by rw [if_pos (decide_eq_true wa)]) ?_
    refine Ev.bind (within_ev b _ (by omega) (by omega)) ?_
    refine Ev.congr (fun k => by rw [if_pos (decide_eq_true wb)]) ?_
    refine Ev.bind (same_ev _ _ (by omega)) ?_
    refine Ev.congr (f := fun k => examboardlaw50_IncidentMerge.j1 k a b (normL (a ++ b)) false) (fun k => by rw [decide_eq_true rfl]; rfl) ?_
    refine Ev.step (fun k => by
      show examboardlaw50_IncidentMerge.j1 (k + 1) a b _ false = _
      rw [examboardlaw50_IncidentMerge.j1, if_neg (by decide)]) ?_
    exact mlaw_l0 a b _ l1 l2 c3 (normL_ss _) (fun x hx => List.mem_append.1 ((normL_mem _ _).1 hx)) (merge_again h) (normL (a ++ b)).length 0 (by omega) (by omega)
  · have h' : ¬ (mergeV b a).2 = 0 := fun e => h ((mergeV_comm_ok a b).2 e)
    refine Ev.congr (f := fun k => examboardlaw50_IncidentMerge.j0 k a b (mergeV a b).1 (mergeV a b).2 (mergeV b a).1 (mergeV b a).2 true) (fun k => by rw [if_neg h]) ?_
    refine Ev.step (f := fun _ => some true) (fun k => ?_) (Ev.now _)
    show examboardlaw50_IncidentMerge.j0 (k + 1) a b _ _ _ _ true = _
    rw [examboardlaw50_IncidentMerge.j0, if_pos rfl, beq_eq_false_iff_ne.2 h, beq_eq_false_iff_ne.2 h', if_pos (show (false == false) = true from rfl)]
    rfl
theorem IncidentGroups (a b c : List S23) : ∃ k, examboardlaw50_IncidentGroups.f k a b c = some true := by
  refine Ev.rounds ?_
  unfold examboardlaw50_IncidentGroups.f
  refine Ev.bind (merge_ev a b) (Ev.bind (merge_ev b c) ?_)
  have bad : ∀ x y : List S23, Ev (fun k => examboardlaw50_IncidentGroups.j0 k a c x y true) true := fun x y => by
    refine Ev.step (f := fun _ => some true) (fun k => ?_) (Ev.now _)
    show examboardlaw50_IncidentGroups.j0 (k + 1) a c x y true = _
    rw [examboardlaw50_IncidentGroups.j0, if_pos rfl]; rfl
  by_cases h : (mergeV a b).2 = 0
  · by_cases h' : (mergeV b c).2 = 0
    · obtain ⟨a1, b1, ab⟩ := (mergeV_ok a b).1 h
      obtain ⟨_, c1, bc⟩ := (mergeV_ok b c).1 h'
      rw [mergeV_val h, mergeV_val h']
      refine Ev.congr (f := fun k => examboardlaw50_IncidentGroups.j0 k a c (normL (a ++ b)) (normL (b ++ c)) false) (fun k => by rw [if_pos rfl]; rfl) ?_
      refine Ev.step (f := fun k => (incident_Merge.f k (normL (a ++ b)) c).bind fun bt385 => ((incident_Merge.f k a (normL (b ++ c))).bind fun bt389 => (if bt385.2 = bt389.2 then ((examboardref50_Same.f k bt385.1 bt389.1).bind fun t393 => (if t393 = true then ((awake.f).bind fun t394 => (some t394)) else (some false))) else (some false)))) (fun k => by
        show examboardlaw50_IncidentGroups.j0 (k + 1) a c _ _ false = _
        rw [examboardlaw50_IncidentGroups.j0, if_neg (by decide)]) ?_
      have e : mergeV (normL (a ++ b)) c = mergeV a (normL (b ++ c)) := by
        have e1 : normL (normL (a ++ b) ++ c) = normL (a ++ normL (b ++ c)) := normL_congr (fun x => by
          rw [List.mem_append, List.mem_append, normL_mem, normL_mem, List.mem_append, List.mem_append, or_assoc])
        unfold mergeV
        rw [if_pos (chk_norm a1 b1 ab), if_pos c1, if_pos a1, if_pos (chk_norm b1 c1 bc), e1]
      refine Ev.bind (merge_ev _ _) (Ev.bind (merge_ev _ _) ?_)
      rw [e]
      refine Ev.congr (f := fun k => (examboardref50_Same.f k (mergeV a (normL (b ++ c))).1 (mergeV a (normL (b ++ c))).1).bind fun t393 => (if t393 = true then ((awake.f).bind fun t394 => (some t394)) else (some false))) (fun k => by rw [if_pos rfl]) ?_
      refine Ev.bind (same_ev _ _ (by have := mergeV_len a (normL (b ++ c)); omega)) ?_
      exact Ev.congr (f := fun _ => some true) (fun k => by rw [if_pos (decide_eq_true rfl)]; rfl) (Ev.now _)
    · refine Ev.congr (fun k => by rw [if_pos h, bne_iff_ne.2 h']) (bad _ _)
  · exact Ev.congr (fun k => by rw [if_neg h]) (bad _ _)
end Go.Proofs.YtidehmfaebiebaaDoor.Pure
