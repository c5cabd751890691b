/- The plain law of IncidentChecks and IncidentSums: what the functions compute is true. No condition. -/
import Derived.Test.YtidehmfaebiebaaDoorPureIncD
import Derived.Test.YtidehmfaebiebaaDoorPIncx15
import Derived.Test.YtidehmfaebiebaaDoorPIncx25
namespace Go.Proofs.YtidehmfaebiebaaDoor.Pure
open Go.RowKit Go.Proofs.YtidehmfaebiebaaDoor.PInc Go.Proofs.YtidehmfaebiebaaDoorW.PrintWords Go.Proofs.YtidehmfaebiebaaDoorW.PrintLast Go.Proofs.YtidehmfaebiebaaDoorW.PrintMore
set_option linter.unusedVariables false

theorem awake_now : (awake.f.bind fun t => (some t : Option Bool)) = some true := rfl
theorem IncidentChecks (a b c d : Int) (l m : List S23) : ∃ k, examboardlaw50_IncidentChecks.f k a b c d l m = some true := by
  refine Ev.rounds ?_
  unfold examboardlaw50_IncidentChecks.f
  refine Ev.bind (merge_ev l m) (Ev.bind (rmerge_ev l m) ?_)
  refine Ev.congr (f := fun k => (examboardref50_Same.f k (mergeV l m).1 (mergeV l m).1).bind fun t203 => (if t203 = true then ((incident_Valid.f k a b c d).bind fun t204 => ((examboardref50_Valid.f k a b c d).bind fun t205 => (if t204 = t205 then ((awake.f).bind fun t206 => (some t206)) else (some false)))) else (some false))) (fun k => by rw [if_pos rfl]) ?_
  refine Ev.bind (same_ev _ _ (by have := mergeV_len l m; omega)) ?_
  refine Ev.congr (f := fun k => (incident_Valid.f k a b c d).bind fun t204 => ((examboardref50_Valid.f k a b c d).bind fun t205 => (if t204 = t205 then ((awake.f).bind fun t206 => (some t206)) else (some false)))) (fun k => by rw [if_pos (decide_eq_true rfl)]) ?_
  refine Ev.bind (Ev.step (f := fun _ => some (valV ⟨a, b, c, d⟩)) (fun k => valid_eq k ⟨a, b, c, d⟩) (Ev.now _)) ?_
  refine Ev.bind (Ev.step (f := fun _ => some (valV ⟨a, b, c, d⟩)) (fun k => rvalid_eq k ⟨a, b, c, d⟩) (Ev.now _)) ?_
  exact Ev.congr (f := fun _ => some true) (fun k => by rw [if_pos rfl]; rfl) (Ev.now _)
theorem countsV_len (l : List S23) : ((countsV l).1.length : Int) ≤ 1000 := by
  have h6 : ∀ (r : List S23) (c : List Int), (cntF r c).length = c.length := by
    intro r
    induction r with
    | nil => intro c; rfl
    | cons x r ih => intro c; rw [cntF, ih, List.length_set]
  unfold countsV
  split
  · simp [h6]
  · simp
theorem IncidentSums (l : List S23) (most : Int) : ∃ k, examboardlaw50_IncidentSums.f k l most = some true := by
  refine Ev.rounds ?_
  unfold examboardlaw50_IncidentSums.f
  refine Ev.bind (lost_ev l most) (Ev.bind (rlost_ev l most) ?_)
  refine Ev.congr (f := fun k => examboardlaw50_IncidentSums.j0 k l false) (fun k => by rw [if_pos rfl, bne_self_eq_false]) ?_
  refine Ev.step (f := fun k => (incident_Worst.f k l).bind fun bt247 => ((examboardref50_Worst.f k l).bind fun bt249 => (if bt247.2 = bt249.2 then (examboardlaw50_IncidentSums.j1 k l (bt247.1 != bt249.1)) else (examboardlaw50_IncidentSums.j1 k l true)))) (fun k => by
    show examboardlaw50_IncidentSums.j0 (k + 1) l false = _
    rw [examboardlaw50_IncidentSums.j0, if_neg (by decide)]) ?_
  refine Ev.bind (worst_ev l) (Ev.bind (rworst_ev l) ?_)
  refine Ev.congr (f := fun k => examboardlaw50_IncidentSums.j1 k l false) (fun k => by rw [if_pos rfl, bne_self_eq_false]) ?_
  refine Ev.step (f := fun k => (incident_Hold.f k l).bind fun bt251 => ((examboardref50_Hold.f k l).bind fun bt253 => (if bt251.2 = bt253.2 then (examboardlaw50_IncidentSums.j2 k l (bt251.1 != bt253.1)) else (examboardlaw50_IncidentSums.j2 k l true)))) (fun k => by
    show examboardlaw50_IncidentSums.j1 (k + 1) l false = _
    rw [examboardlaw50_IncidentSums.j1, if_neg (by decide)]) ?_
  refine Ev.bind (hold_ev l) (Ev.bind (rhold_ev l) ?_)
  refine Ev.congr (f := fun k => examboardlaw50_IncidentSums.j2 k l false) (fun k => by rw [if_pos rfl, bne_self_eq_false]) ?_
  refine Ev.step (f := fun k => (incident_Counts.f k l).bind fun bt255 => ((examboardref50_Counts.f k l).bind fun bt259 => (if bt255.2 = bt259.2 then ((examboardref13_SameInts.f k bt255.1 bt259.1).bind fun t263 => (if t263 = true then ((awake.f).bind fun t264 => (some t264)) else (some false))) else (some false)))) (fun k => by
    show examboardlaw50_IncidentSums.j2 (k + 1) l false = _
    rw [examboardlaw50_IncidentSums.j2, if_neg (by decide)]) ?_
  refine Ev.bind (counts_ev l) (Ev.bind (rcounts_ev l) ?_)
  refine Ev.congr (f := fun k => (examboardref13_SameInts.f k (countsV l).1 (countsV l).1).bind fun t263 => (if t263 = true then ((awake.f).bind fun t264 => (some t264)) else (some false))) (fun k => by rw [if_pos rfl]) ?_
  refine Ev.bind (ints_ev _ _ (countsV_len l)) ?_
  exact Ev.congr (f := fun _ => some true) (fun k => by rw [if_pos (decide_eq_true rfl)]; rfl) (Ev.now _)
end Go.Proofs.YtidehmfaebiebaaDoor.Pure
