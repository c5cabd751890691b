/- What Union computes. Condition: as in PureTimA. -/
import Derived.Test.YtjopendipackpaaPTimx9
import Derived.Test.YtjopendipackpaaPureTimA
namespace Go.Proofs.Ytjopendipackpaa.PureTim
open Go.RowKit Go.Proofs.Ytjopendipackpaa.PTim Go.Proofs.YtjopendipackpaaW.PrintWords Go.Proofs.YtjopendipackpaaW.PrintLast Go.Proofs.YtjopendipackpaaW.PrintMore
set_option linter.unusedVariables false

theorem Union_ev (hS : Sorts) (a : List S33) (h : chk [a] = 0) : Ev (fun k => timing_Union.f k a) (un a, 0) := by
  have ha := chk_zero h a (by simp)
  refine Ev.congr (f := fun k => (timing_check.f k [a]).bind fun t => if t = 0 then ((timing_union.f k a).bind fun u => some (u, 0)) else some ([], t)) (fun k => rfl) ?_
  refine Ev.bind (check_ev [a] (by simp)) ?_
  rw [h]
  refine Ev.congr (f := fun k => (timing_union.f k a).bind fun u => some (u, 0)) (fun k => if_pos rfl) ?_
  exact Ev.bind (union_ev hS a (by omega)) (Ev.now _)
theorem Union_err (a : List S33) (h : chk [a] ≠ 0) : Ev (fun k => timing_Union.f k a) ([], chk [a]) := by
  refine Ev.congr (f := fun k => (timing_check.f k [a]).bind fun t => if t = 0 then ((timing_union.f k a).bind fun u => some (u, 0)) else some ([], t)) (fun k => rfl) ?_
  refine Ev.bind (check_ev [a] (by simp)) ?_
  exact Ev.congr (f := fun _ => some ([], chk [a])) (fun k => if_neg h) (Ev.now _)

end Go.Proofs.Ytjopendipackpaa.PureTim
