/- The plain law of IncidentLines: what the function computes is true. Condition: the text is shorter than 4294967281 bytes. -/
import Derived.Test.YtidehmfaebiebaaDoorPureIncP
import Derived.Test.YtidehmfaebiebaaDoorPIncx44
namespace Go.Proofs.YtidehmfaebiebaaDoor.Pure
open Go.RowKit Go.Proofs.YtidehmfaebiebaaDoor.PInc Go.Proofs.YtidehmfaebiebaaDoorW.PrintWords Go.Proofs.YtidehmfaebiebaaDoorW.PrintLast Go.Proofs.YtidehmfaebiebaaDoorW.PrintMore
open Go.Proofs.YtidehmfaebiebaaDoor.Words
set_option linter.unusedVariables false

theorem lines_j0 (s : ByteArray) (hs : s.size < 4294967281) : Ev (fun k => examboardlaw50_IncidentLines.j0 k s) true := by
  refine Ev.step (f := fun k => (incident_Parse.f k s).bind fun bt404 => (if bt404.2.2.2.2 = 0 then ((incident_Print.f k bt404.1 bt404.2.1 bt404.2.2.1 bt404.2.2.2.1).bind fun bt410 => (if bt410.2 = 0 then (if bt410.1.toList = s.toList then ((incident_Valid.f k bt404.1 bt404.2.1 bt404.2.2.1 bt404.2.2.2.1).bind fun t412 => (if t412 = 0 then ((awake.f).bind fun t413 => (some t413)) else (some false))) else (some false)) else (some false))) else ((awake.f).bind fun t414 => (some t414)))) (fun k => by
    show examboardlaw50_IncidentLines.j0 (k + 1) s = _
    rw [examboardlaw50_IncidentLines.j0]) ?_
  refine Ev.bind (parse_ev s hs) ?_
  by_cases h : (parV (spl (tl s))).2.2.2.2 = 0
  · obtain ⟨x, hx, hv, ht⟩ := print_parse (tl s) h
    rw [hx]
    refine Ev.congr (f := fun k => (incident_Print.f k x.f0 x.f1 x.f2 x.f3).bind fun bt410 => (if bt410.2 = 0 then (if bt410.1.toList = s.toList then ((incident_Valid.f k x.f0 x.f1 x.f2 x.f3).bind fun t412 => (if t412 = 0 then ((awake.f).bind fun t413 => (some t413)) else (some false))) else (some false)) else (some false))) (fun k => by rw [if_pos rfl]) ?_
    refine Ev.bind (print_ev x) ?_
    have e : printV x = (mk (textL x), 0) := by unfold printV; rw [if_pos hv]
    rw [e]
    have et : (mk (textL x)).toList = s.toList := by rw [toList_tl, toList_tl, tl_mk]; exact ht
    refine Ev.congr (f := fun k => (incident_Valid.f k x.f0 x.f1 x.f2 x.f3).bind fun t412 => (if t412 = 0 then ((awake.f).bind fun t413 => (some t413)) else (some false))) (fun k => by rw [if_pos rfl, if_pos et]) ?_
    refine Ev.bind (valid_ev x) ?_
    exact Ev.congr (f := fun _ => some true) (fun k => by rw [if_pos hv]; rfl) (Ev.now _)
  · exact Ev.congr (f := fun _ => some true) (fun k => by rw [if_neg h]; rfl) (Ev.now _)
theorem IncidentLines (x : S23) (s : ByteArray) (hs : s.size < 4294967281) : ∃ k, examboardlaw50_IncidentLines.f k x.f0 x.f1 x.f2 x.f3 s = some true := by
  refine Ev.rounds ?_
  unfold examboardlaw50_IncidentLines.f
  refine Ev.bind (print_ev x) ?_
  by_cases hv : valV x = 0
  · have e : printV x = (mk (textL x), 0) := by unfold printV; rw [if_pos hv]
    rw [e]
    have hl := textL_len x hv
    refine Ev.congr (f := fun k => (incident_Parse.f k (mk (textL x))).bind fun bt398 => (if bt398.2.2.2.2 = 0 then (if (!(bt398.1 == x.f0) || (!(bt398.2.1 == x.f1) || (!(bt398.2.2.1 == x.f2) || (!(bt398.2.2.2.1 == x.f3))))) = true then (some false) else (examboardlaw50_IncidentLines.j0 k s)) else (some false))) (fun k => by rw [if_pos rfl]) ?_
    have hp := parse_ev (mk (textL x)) (by rw [mk_size]; omega)
    rw [tl_mk, parse_print x hv] at hp
    refine Ev.bind hp ?_
    exact Ev.congr (fun k => by rw [if_pos rfl, if_neg (by simp)]) (lines_j0 s hs)
  · exact Ev.congr (fun k => by
      have : (printV x).2 ≠ 0 := by unfold printV; rw [if_neg hv]; exact hv
      rw [if_neg this]) (lines_j0 s hs)
end Go.Proofs.YtidehmfaebiebaaDoor.Pure
