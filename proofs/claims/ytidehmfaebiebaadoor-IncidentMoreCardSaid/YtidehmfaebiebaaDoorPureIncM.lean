/- The plain law of IncidentMore: what the function computes is true. Condition: the list is shorter than 2^42 (the reach of memory gives it). -/
import Derived.Test.YtidehmfaebiebaaDoorPureIncD
import Derived.Test.YtidehmfaebiebaaDoorPIncx45
namespace Go.Proofs.YtidehmfaebiebaaDoor.Pure
open Go.RowKit Go.Proofs.YtidehmfaebiebaaDoor.PInc Go.Proofs.YtidehmfaebiebaaDoorW.PrintWords Go.Proofs.YtidehmfaebiebaaDoorW.PrintLast Go.Proofs.YtidehmfaebiebaaDoorW.PrintMore
set_option linter.unusedVariables false

theorem lostF_app (x : S23) : ∀ (l : List S23) (a : Int), lostF (l ++ [x]) a = (if x.f0 ≤ 3 then lostF l a + x.f2 else lostF l a)
  | [], a => rfl
  | y :: r, a => lostF_app x r _
theorem worstF_app (x : S23) : ∀ (l : List S23) (a : Int), worstF (l ++ [x]) a = mx (worstF l a) x.f3
  | [], a => rfl
  | y :: r, a => worstF_app x r _
theorem ptsF_app (x : S23) : ∀ (l : List S23) (a : Int), ptsF (l ++ [x]) a = ptsF l a + (if x.f3 = 3 ∨ x.f0 = 5 then 2 else 0) + (if x.f3 = 2 then 1 else 0)
  | [], a => rfl
  | y :: r, a => ptsF_app x r _
theorem cntF_app (x : S23) : ∀ (l : List S23) (c : List Int), cntF (l ++ [x]) c = (cntF l c).set (x.f0 - 1).toNat (rd (cntF l c) (x.f0 - 1) + 1)
  | [], c => rfl
  | y :: r, c => cntF_app x r _
theorem cntF_len : ∀ (l : List S23) (c : List Int), (cntF l c).length = c.length
  | [], c => rfl
  | y :: r, c => by rw [cntF, cntF_len r, List.length_set]
theorem lostF_pos : ∀ (l : List S23) (a : Int), (∀ x ∈ l, okI x) → a ≤ lostF l a
  | [], a, _ => Int.le_refl _
  | y :: r, a, h => by
    have hy := h y List.mem_cons_self
    unfold okI at hy
    have := lostF_pos r (if y.f0 ≤ 3 then a + y.f2 else a) (fun x hx => h x (List.mem_cons_of_mem _ hx))
    show a ≤ lostF r _
    refine Int.le_trans ?_ this
    split <;> omega
theorem rd_set (c : List Int) (i : Nat) (v : Int) (j : Int) (hi : i < c.length) : rd (c.set i v) j = if i = j.toNat then v else rd c j := by
  unfold rd
  simp only [List.getD]
  rw [List.getElem?_set]
  by_cases h : i = j.toNat
  · rw [if_pos h, if_pos h, if_pos (by omega)]; rfl
  · rw [if_neg h, if_neg h]
theorem cntF_le : ∀ (l : List S23) (c : List Int) (n : Int), (∀ x ∈ l, okI x) → c.length = 6 → (∀ j, 0 ≤ rd c j ∧ rd c j ≤ n) → ∀ j, 0 ≤ rd (cntF l c) j ∧ rd (cntF l c) j ≤ n + l.length
  | [], c, n, _, _, h, j => by have := h j; simpa [cntF] using this
  | y :: r, c, n, hok, h6, h, j => by
    have hy := hok y List.mem_cons_self
    unfold okI at hy
    have := cntF_le r (c.set (y.f0 - 1).toNat (rd c (y.f0 - 1) + 1)) (n + 1) (fun x hx => hok x (List.mem_cons_of_mem _ hx)) (by rw [List.length_set]; exact h6) (fun j => by
      rw [rd_set _ _ _ _ (by omega)]
      have h1 := h j
      have h2 := h (y.f0 - 1)
      split <;> omega) j
    rw [cntF, List.length_cons]
    push_cast
    omega
theorem more_l0 (p q : List Int) (x : S23) (hp : p.length = 6) (hq : q.length = 6) (hok : okI x) (hb : ∀ j, 0 ≤ rd p j ∧ rd p j ≤ 300) (he : q = p.set (x.f0 - 1).toNat (rd p (x.f0 - 1) + 1)) :
    ∀ (d : Nat) (i : Int), 0 ≤ i → 6 - i = (d : Int) → Ev (fun k => examboardlaw50_IncidentMore.l0 k p q i x.f0 x.f1 x.f2 x.f3) true := by
  unfold okI at hok
  intro d
  induction d with
  | zero =>
    intro i h0 hd
    refine Ev.step (f := fun _ => some true) (fun k => ?_) (Ev.now _)
    show examboardlaw50_IncidentMore.l0 (k + 1) p q i x.f0 x.f1 x.f2 x.f3 = _
    rw [examboardlaw50_IncidentMore.l0, if_neg (by omega)]; rfl
  | succ d ih =>
    intro i h0 hd
    have hin := ih (i + 1) (by omega) (by omega)
    have hw : wrap64 (i + 1) = i + 1 := wrap_id (by omega) (by omega)
    have hbi := hb i
    have hv : wrap64 (rd p i + 1) = rd p i + 1 := wrap_id (by omega) (by omega)
    refine Ev.step (fun k => ?_) hin
    show examboardlaw50_IncidentMore.l0 (k + 1) p q i x.f0 x.f1 x.f2 x.f3 = _
    rw [examboardlaw50_IncidentMore.l0, if_pos (by omega), if_pos h0, if_pos (by omega), hw]
    by_cases hx : x.f0 = i + 1
    · have e : rd q i = rd p i + 1 := by
        rw [he, rd_set _ _ _ _ (by omega), if_pos (by omega), show x.f0 - 1 = i by omega]
      rw [if_pos hx, if_pos (by omega), hv, if_pos e]
    · have e : rd q i = rd p i := by
        rw [he, rd_set _ _ _ _ (by omega), if_neg (by omega)]
      rw [if_neg hx, if_pos (by omega), if_pos e]
theorem IncidentMore (l : List S23) (x : S23) (most : Int) (hl : l.length < 4398046511103) : ∃ k, examboardlaw50_IncidentMore.f k l x.f0 x.f1 x.f2 x.f3 most = some true := by
  refine Ev.rounds ?_
  unfold examboardlaw50_IncidentMore.f
  simp only [Option.bind_some, List.nil_append]
  refine Ev.congr (f := fun k => (incident_Lost.f k l most).bind fun bt428 => ((incident_Lost.f k (l ++ [x]) most).bind fun bt430 => (if bt428.2 = 0 then (examboardlaw50_IncidentMore.j0 k l most (l ++ [x]) bt428.1 bt430.1 (bt430.2 != 0) x.f0 x.f1 x.f2 x.f3) else (examboardlaw50_IncidentMore.j0 k l most (l ++ [x]) bt428.1 bt430.1 true x.f0 x.f1 x.f2 x.f3)))) (fun k => by
    rw [if_pos (by simp only [List.length_nil]; omega), if_pos (by simp only [List.length_cons, List.length_nil]; omega)]) ?_
  have bad : ∀ y z, Ev (fun k => examboardlaw50_IncidentMore.j0 k l most (l ++ [x]) y z true x.f0 x.f1 x.f2 x.f3) true := fun y z => by
    refine Ev.step (f := fun _ => some true) (fun k => ?_) (Ev.now _)
    show examboardlaw50_IncidentMore.j0 (k + 1) l most (l ++ [x]) y z true x.f0 x.f1 x.f2 x.f3 = _
    rw [examboardlaw50_IncidentMore.j0, if_pos rfl]; rfl
  refine Ev.bind (lost_ev l most) (Ev.bind (lost_ev (l ++ [x]) most) ?_)
  have sn : ∀ m : List S23, (lostV m most).2 = chkV m := fun m => by unfold lostV; split <;> simp_all
  by_cases h : chkV l = 0
  · by_cases h' : chkV (l ++ [x]) = 0
    · obtain ⟨l1, o1⟩ := (chkV_zero l).1 h
      obtain ⟨l2, o2⟩ := (chkV_zero _).1 h'
      have ox := o2 x (List.mem_append_right _ List.mem_cons_self)
      have ox' := ox
      unfold okI at ox
      have e1 : lostV l most = (mn (lostF l 0) (mx most 0), 0) := by unfold lostV; rw [if_pos h]
      have e2 : lostV (l ++ [x]) most = (mn (lostF (l ++ [x]) 0) (mx most 0), 0) := by unfold lostV; rw [if_pos h']
      have w1 : worstV l = (worstF l 0, 0) := by unfold worstV; rw [if_pos h]
      have w2 : worstV (l ++ [x]) = (mx (worstF l 0) x.f3, 0) := by unfold worstV; rw [if_pos h', worstF_app]
      have g1 : holdV l = (decide (ptsF l 0 ≥ 2), 0) := by unfold holdV; rw [if_pos h, hold_pts l 0 (by omega)]
      have g2 : holdV (l ++ [x]) = (decide (ptsF (l ++ [x]) 0 ≥ 2), 0) := by unfold holdV; rw [if_pos h', hold_pts _ 0 (by omega)]
      have c1 : countsV l = (cntF l (List.replicate 6 0), 0) := by unfold countsV; rw [if_pos h]
      have c2 : countsV (l ++ [x]) = (cntF (l ++ [x]) (List.replicate 6 0), 0) := by unfold countsV; rw [if_pos h']
      have p1 := lostF_pos l 0 o1
      have hla := lostF_app x l 0
      have hpa := ptsF_app x l 0
      rw [e1, e2]
      generalize lostF l 0 = A at *
      generalize lostF (l ++ [x]) 0 = B at *
      have hAB : A ≤ B := by rw [hla]; split <;> omega
      have q1 : ¬ mn A (mx most 0) > mn B (mx most 0) := by unfold mn mx; split <;> split <;> split <;> omega
      have q2 : ¬ mn B (mx most 0) < 0 := by unfold mn mx; split <;> split <;> omega
      have q3 : ¬ mn B (mx most 0) > mx most 0 := by unfold mn; split <;> omega
      refine Ev.congr (f := fun k => examboardlaw50_IncidentMore.j0 k l most (l ++ [x]) (mn A (mx most 0)) (mn B (mx most 0)) false x.f0 x.f1 x.f2 x.f3) (fun k => by rw [if_pos rfl]; rfl) ?_
      generalize mn A (mx most 0) = a at *
      generalize mn B (mx most 0) = b at *
      refine Ev.step (f := fun k => (incident_Worst.f k l).bind fun bt433 => ((incident_Worst.f k (l ++ [x])).bind fun bt435 => (if bt433.2 = 0 then (if bt435.2 = 0 then (if a > b then (examboardlaw50_IncidentMore.j1 k l (l ++ [x]) true x.f0 x.f1 x.f2 x.f3) else (if bt433.1 > bt435.1 then (examboardlaw50_IncidentMore.j1 k l (l ++ [x]) true x.f0 x.f1 x.f2 x.f3) else (if bt435.1 < x.f3 then (examboardlaw50_IncidentMore.j1 k l (l ++ [x]) true x.f0 x.f1 x.f2 x.f3) else (if b < 0 then (examboardlaw50_IncidentMore.j1 k l (l ++ [x]) true x.f0 x.f1 x.f2 x.f3) else (examboardlaw50_IncidentMore.j1 k l (l ++ [x]) (decide (b > (mx most 0))) x.f0 x.f1 x.f2 x.f3))))) else (examboardlaw50_IncidentMore.j1 k l (l ++ [x]) true x.f0 x.f1 x.f2 x.f3)) else (examboardlaw50_IncidentMore.j1 k l (l ++ [x]) true x.f0 x.f1 x.f2 x.f3)))) (fun k => by
        show examboardlaw50_IncidentMore.j0 (k + 1) l most (l ++ [x]) a b false x.f0 x.f1 x.f2 x.f3 = _
        rw [examboardlaw50_IncidentMore.j0, if_neg (by decide)]) ?_
      refine Ev.bind (worst_ev l) (Ev.bind (worst_ev (l ++ [x])) ?_)
      rw [w1, w2]
      generalize worstF l 0 = W at *
      refine Ev.congr (f := fun k => examboardlaw50_IncidentMore.j1 k l (l ++ [x]) false x.f0 x.f1 x.f2 x.f3) (fun k => by
        rw [if_pos rfl, if_pos rfl, if_neg q1, if_neg (show ¬ W > mx W x.f3 by unfold mx; split <;> omega), if_neg (show ¬ mx W x.f3 < x.f3 by unfold mx; split <;> omega), if_neg q2, decide_eq_false q3]) ?_
      refine Ev.step (f := fun k => (incident_Hold.f k l).bind fun bt437 => ((incident_Hold.f k (l ++ [x])).bind fun bt439 => (if bt437.2 = 0 then (if bt439.2 = 0 then (if bt437.1 = true then (if bt439.1 = true then (if x.f0 = 5 then (examboardlaw50_IncidentMore.j2 k l (l ++ [x]) (!bt439.1) x.f0 x.f1 x.f2 x.f3) else (examboardlaw50_IncidentMore.j2 k l (l ++ [x]) false x.f0 x.f1 x.f2 x.f3)) else (examboardlaw50_IncidentMore.j2 k l (l ++ [x]) true x.f0 x.f1 x.f2 x.f3)) else (if x.f0 = 5 then (examboardlaw50_IncidentMore.j2 k l (l ++ [x]) (!bt439.1) x.f0 x.f1 x.f2 x.f3) else (examboardlaw50_IncidentMore.j2 k l (l ++ [x]) false x.f0 x.f1 x.f2 x.f3))) else (examboardlaw50_IncidentMore.j2 k l (l ++ [x]) true x.f0 x.f1 x.f2 x.f3)) else (examboardlaw50_IncidentMore.j2 k l (l ++ [x]) true x.f0 x.f1 x.f2 x.f3)))) (fun k => by
        show examboardlaw50_IncidentMore.j1 (k + 1) l (l ++ [x]) false x.f0 x.f1 x.f2 x.f3 = _
        rw [examboardlaw50_IncidentMore.j1, if_neg (by decide)]) ?_
      refine Ev.bind (hold_ev l) (Ev.bind (hold_ev (l ++ [x])) ?_)
      rw [g1, g2]
      refine Ev.congr (f := fun k => examboardlaw50_IncidentMore.j2 k l (l ++ [x]) false x.f0 x.f1 x.f2 x.f3) (fun k => by
        rw [if_pos rfl, if_pos rfl]
        have p0 := ptsF_mono l 0
        by_cases h5 : x.f0 = 5
        · have t2 : ptsF (l ++ [x]) 0 ≥ 2 := by rw [hpa, if_pos (.inr h5)]; split <;> omega
          rw [if_pos h5, decide_eq_true t2]
          cases decide (ptsF l 0 ≥ 2) <;> rfl
        · rw [if_neg h5]
          by_cases t1 : ptsF l 0 ≥ 2
          · have t2 : ptsF (l ++ [x]) 0 ≥ 2 := by rw [hpa]; split <;> split <;> omega
            rw [decide_eq_true t1, decide_eq_true t2]; rfl
          · rw [decide_eq_false t1]; rfl) ?_
      refine Ev.step (f := fun k => (incident_Counts.f k l).bind fun bt441 => ((incident_Counts.f k (l ++ [x])).bind fun bt445 => (if bt441.2 = 0 then (if bt445.2 = 0 then (if (bt441.1.length : Int) = 6 then (examboardlaw50_IncidentMore.j3 k bt441.1 bt445.1 ((bt445.1.length : Int) != 6) x.f0 x.f1 x.f2 x.f3) else (examboardlaw50_IncidentMore.j3 k bt441.1 bt445.1 true x.f0 x.f1 x.f2 x.f3)) else (examboardlaw50_IncidentMore.j3 k bt441.1 bt445.1 true x.f0 x.f1 x.f2 x.f3)) else (examboardlaw50_IncidentMore.j3 k bt441.1 bt445.1 true x.f0 x.f1 x.f2 x.f3)))) (fun k => by
        show examboardlaw50_IncidentMore.j2 (k + 1) l (l ++ [x]) false x.f0 x.f1 x.f2 x.f3 = _
        rw [examboardlaw50_IncidentMore.j2, if_neg (by decide)]) ?_
      refine Ev.bind (counts_ev l) (Ev.bind (counts_ev (l ++ [x])) ?_)
      rw [c1, c2]
      have n1 : (cntF l (List.replicate 6 0)).length = 6 := by rw [cntF_len]; rfl
      have n2 : (cntF (l ++ [x]) (List.replicate 6 0)).length = 6 := by rw [cntF_len]; rfl
      have z0 : ∀ j, 0 ≤ rd (List.replicate 6 (0 : Int)) j ∧ rd (List.replicate 6 (0 : Int)) j ≤ 0 := fun j => by
        unfold rd
        simp only [List.getD, List.getElem?_replicate]
        split <;> simp
      have hb := cntF_le l (List.replicate 6 0) 0 o1 rfl z0
      have hc := cntF_app x l (List.replicate 6 0)
      generalize cntF l (List.replicate 6 0) = P at *
      generalize cntF (l ++ [x]) (List.replicate 6 0) = Q at *
      refine Ev.congr (f := fun k => examboardlaw50_IncidentMore.j3 k P Q false x.f0 x.f1 x.f2 x.f3) (fun k => by
        rw [if_pos rfl, if_pos rfl, if_pos (show (P.length : Int) = 6 by omega), show (Q.length : Int) = 6 by omega]; rfl) ?_
      refine Ev.step (f := fun k => examboardlaw50_IncidentMore.l0 k P Q 0 x.f0 x.f1 x.f2 x.f3) (fun k => by
        show examboardlaw50_IncidentMore.j3 (k + 1) P Q false x.f0 x.f1 x.f2 x.f3 = _
        rw [examboardlaw50_IncidentMore.j3, if_neg (by decide)]) ?_
      exact more_l0 P Q x n1 n2 ox' (fun j => by have := hb j; omega) hc 6 0 (by omega) (by omega)
    · refine Ev.congr (fun k => by rw [if_pos (by rw [sn]; exact h), sn (l ++ [x]), bne_iff_ne.2 h']) (bad _ _)
  · exact Ev.congr (fun k => by rw [if_neg (by rw [sn]; exact h)]) (bad _ _)
end Go.Proofs.YtidehmfaebiebaaDoor.Pure
