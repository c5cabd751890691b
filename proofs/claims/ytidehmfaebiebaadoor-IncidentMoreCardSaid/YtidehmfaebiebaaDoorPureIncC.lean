/- What Lost, Worst, Hold and Counts compute, the program's and the reference's, in plain words. No condition but those that each theorem states. -/
import Derived.Test.YtidehmfaebiebaaDoorPureIncA
import Derived.Test.YtidehmfaebiebaaDoorPB
namespace Go.Proofs.YtidehmfaebiebaaDoor.Pure
open Go.RowKit Go.Proofs.YtidehmfaebiebaaDoor.PInc Go.Proofs.YtidehmfaebiebaaDoorW.PrintWords Go.Proofs.YtidehmfaebiebaaDoorW.PrintLast Go.Proofs.YtidehmfaebiebaaDoorW.PrintMore
set_option linter.unusedVariables false

/-- A loop over a list by its index, told by a step: what the rounds compute. -/
theorem loop_ev {α β : Type} (l : List S23) (L : Nat → β → Int → Option α) (stp : β → S23 → Option β) (fin : β → α) (bad : β → S23 → α) (Inv : β → Int → Prop)
    (hend : ∀ b i, (l.length : Int) ≤ i → Inv b i → Ev (fun k => L k b i) (fin b))
    (hgo : ∀ b i b', 0 ≤ i → i < (l.length : Int) → Inv b i → stp b (rd_T23 l i) = some b' → Inv b' (i + 1) ∧ ∀ r, Ev (fun k => L k b' (i + 1)) r → Ev (fun k => L k b i) r)
    (hbad : ∀ b i, 0 ≤ i → i < (l.length : Int) → Inv b i → stp b (rd_T23 l i) = none → Ev (fun k => L k b i) (bad b (rd_T23 l i)))
    (run : List S23 → β → α) (rnil : ∀ b, run [] b = fin b) (rcons : ∀ x r b, run (x :: r) b = match stp b x with | some b' => run r b' | none => bad b x) :
    ∀ (d : Nat) (b : β) (i : Int), 0 ≤ i → (l.length : Int) - i = (d : Int) → Inv b i → Ev (fun k => L k b i) (run (l.drop i.toNat) b) := by
  intro d
  induction d with
  | zero =>
    intro b i h0 hd hI
    rw [List.drop_eq_nil_of_le (by omega), rnil]
    exact hend b i (by omega) hI
  | succ d ih =>
    intro b i h0 hd hI
    rw [drop_S l i h0 (by omega), rcons]
    cases hs : stp b (rd_T23 l i) with
    | none => exact hbad b i h0 (by omega) hI hs
    | some b' =>
      obtain ⟨h1, h2⟩ := hgo b i b' h0 (by omega) hI hs
      exact h2 _ (ih b' (i + 1) (by omega) (by omega) h1)
def lostF : List S23 → Int → Int
  | [], a => a
  | x :: r, a => lostF r (if x.f0 ≤ 3 then a + x.f2 else a)
def worstF : List S23 → Int → Int
  | [], a => a
  | x :: r, a => worstF r (mx a x.f3)
theorem rd_mem (l : List S23) (i : Int) (h0 : 0 ≤ i) (h1 : i < (l.length : Int)) : rd_T23 l i ∈ l := by
  have h : i.toNat < l.length := by omega
  have e : rd_T23 l i = l[i.toNat] := by simp [rd_T23, List.getD, List.getElem?_eq_getElem h]
  rw [e]; exact List.getElem_mem h
theorem lost_l0 (l : List S23) (most : Int) (hl : (l.length : Int) ≤ 300) (hok : ∀ x ∈ l, okI x) : Ev (fun k => incident_Lost.l0 k most 0 l (l.length : Int) 0) (mn (lostF l 0) (mx most 0), 0) := by
  have key := loop_ev l (fun k a i => incident_Lost.l0 k most a l (l.length : Int) i) (fun a x => some (if x.f0 ≤ 3 then a + x.f2 else a)) (fun a => (mn a (mx most 0), 0)) (fun _ _ => (0, 0)) (fun a i => 0 ≤ a ∧ a ≤ 86400 * i)
    (fun b i h hI => Ev.step (f := fun _ => some (mn b (mx most 0), 0)) (fun k => by rw [incident_Lost.l0, if_neg (by omega)]) (Ev.now _))
    (fun b i b' h0 h1 hI hs => by
      obtain rfl := Option.some.inj hs
      have hx := hok _ (rd_mem l i h0 h1)
      unfold okI at hx
      have hw : wrap64 (i + 1) = i + 1 := wrap_id (by omega) (by omega)
      refine ⟨by split <;> omega, fun r hr => ?_⟩
      by_cases h3 : (rd_T23 l i).f0 ≤ 3
      · rw [if_pos h3] at hr
        refine Ev.step (fun k => ?_) hr
        show incident_Lost.l0 (k + 1) most b l (l.length : Int) i = _
        rw [incident_Lost.l0, if_pos (by omega), if_pos h0, if_pos h1, if_pos h3, hw, wrap_id (by omega) (by omega)]
      · rw [if_neg h3] at hr
        refine Ev.step (fun k => ?_) hr
        show incident_Lost.l0 (k + 1) most b l (l.length : Int) i = _
        rw [incident_Lost.l0, if_pos (by omega), if_pos h0, if_pos h1, if_neg h3, hw])
    (fun b i h0 h1 hI hs => by cases hs)
    (fun r a => (mn (lostF r a) (mx most 0), 0)) (fun b => rfl) (fun x r b => rfl) l.length 0 0 (by omega) (by omega) ⟨by omega, by omega⟩
  exact key
theorem rlost_l0 (l : List S23) (most : Int) (hl : (l.length : Int) ≤ 300) (hok : ∀ x ∈ l, okI x) : Ev (fun k => examboardref50_Lost.l0 k l most 0 0) (mn (lostF l 0) (mx most 0), 0) := by
  have key := loop_ev l (fun k a i => examboardref50_Lost.l0 k l most a i) (fun a x => some (if x.f0 ≤ 3 then a + x.f2 else a)) (fun a => (mn a (mx most 0), 0)) (fun _ _ => (0, 0)) (fun a i => 0 ≤ a ∧ a ≤ 86400 * i)
    (fun b i h hI => Ev.step (f := fun _ => some (mn b (mx most 0), 0)) (fun k => by rw [examboardref50_Lost.l0, if_neg (by omega)]) (Ev.now _))
    (fun b i b' h0 h1 hI hs => by
      obtain rfl := Option.some.inj hs
      have hx := hok _ (rd_mem l i h0 h1)
      unfold okI at hx
      have hw : wrap64 (i + 1) = i + 1 := wrap_id (by omega) (by omega)
      refine ⟨by split <;> omega, fun r hr => ?_⟩
      by_cases h3 : (rd_T23 l i).f0 ≤ 3
      · rw [if_pos h3] at hr
        refine Ev.step (fun k => ?_) hr
        show examboardref50_Lost.l0 (k + 1) l most b i = _
        rw [examboardref50_Lost.l0, if_pos (by omega), if_pos h0, if_pos h3, hw, wrap_id (by omega) (by omega)]
      · rw [if_neg h3] at hr
        refine Ev.step (fun k => ?_) hr
        show examboardref50_Lost.l0 (k + 1) l most b i = _
        rw [examboardref50_Lost.l0, if_pos (by omega), if_pos h0, if_neg h3, hw])
    (fun b i h0 h1 hI hs => by cases hs)
    (fun r a => (mn (lostF r a) (mx most 0), 0)) (fun b => rfl) (fun x r b => rfl) l.length 0 0 (by omega) (by omega) ⟨by omega, by omega⟩
  exact key
theorem worst_l0 (l : List S23) (hl : (l.length : Int) ≤ 300) : Ev (fun k => incident_Worst.l0 k 0 l (l.length : Int) 0) (worstF l 0, 0) := by
  have key := loop_ev l (fun k a i => incident_Worst.l0 k a l (l.length : Int) i) (fun a x => some (mx a x.f3)) (fun a => (a, 0)) (fun _ _ => (0, 0)) (fun _ _ => True)
    (fun b i h hI => Ev.step (f := fun _ => some (b, 0)) (fun k => by rw [incident_Worst.l0, if_neg (by omega)]) (Ev.now _))
    (fun b i b' h0 h1 hI hs => by
      obtain rfl := Option.some.inj hs
      have hw : wrap64 (i + 1) = i + 1 := wrap_id (by omega) (by omega)
      refine ⟨trivial, fun r hr => ?_⟩
      refine Ev.step (fun k => ?_) hr
      show incident_Worst.l0 (k + 1) b l (l.length : Int) i = _
      rw [incident_Worst.l0, if_pos (by omega), if_pos h0, if_pos h1, hw])
    (fun b i h0 h1 hI hs => by cases hs)
    (fun r a => (worstF r a, 0)) (fun b => rfl) (fun x r b => rfl) l.length 0 0 (by omega) (by omega) trivial
  exact key
theorem rworst_l0 (l : List S23) (hl : (l.length : Int) ≤ 300) : Ev (fun k => examboardref50_Worst.l0 k l 0 0) (worstF l 0, 0) := by
  have key := loop_ev l (fun k a i => examboardref50_Worst.l0 k l a i) (fun a x => some (mx a x.f3)) (fun a => (a, 0)) (fun _ _ => (0, 0)) (fun _ _ => True)
    (fun b i h hI => Ev.step (f := fun _ => some (b, 0)) (fun k => by rw [examboardref50_Worst.l0, if_neg (by omega)]) (Ev.now _))
    (fun b i b' h0 h1 hI hs => by
      obtain rfl := Option.some.inj hs
      have hw : wrap64 (i + 1) = i + 1 := wrap_id (by omega) (by omega)
      refine ⟨trivial, fun r hr => ?_⟩
      refine Ev.step (fun k => ?_) hr
      show examboardref50_Worst.l0 (k + 1) l b i = _
      rw [examboardref50_Worst.l0, if_pos (by omega), if_pos h0, hw])
    (fun b i h0 h1 hI hs => by cases hs)
    (fun r a => (worstF r a, 0)) (fun b => rfl) (fun x r b => rfl) l.length 0 0 (by omega) (by omega) trivial
  exact key
/-- How many kinds: the list of six counts behind one incident more. -/
def cntF : List S23 → List Int → List Int
  | [], c => c
  | x :: r, c => cntF r (c.set (x.f0 - 1).toNat (rd c (x.f0 - 1) + 1))
theorem counts_l0 (l : List S23) (hl : (l.length : Int) ≤ 300) (hok : ∀ x ∈ l, okI x) : Ev (fun k => incident_Counts.l0 k (List.replicate 6 0) l (l.length : Int) 0) (cntF l (List.replicate 6 0), 0) := by
  have key := loop_ev l (fun k c i => incident_Counts.l0 k c l (l.length : Int) i) (fun c x => some (c.set (x.f0 - 1).toNat (rd c (x.f0 - 1) + 1))) (fun c => (c, 0)) (fun _ _ => ([], 0)) (fun c i => c.length = 6 ∧ ∀ j, 0 ≤ rd c j ∧ rd c j ≤ i)
    (fun b i h hI => Ev.step (f := fun _ => some (b, 0)) (fun k => by rw [incident_Counts.l0, if_neg (by omega)]) (Ev.now _))
    (fun b i b' h0 h1 hI hs => by
      obtain rfl := Option.some.inj hs
      have hx := hok _ (rd_mem l i h0 h1)
      unfold okI at hx
      have hw : wrap64 (i + 1) = i + 1 := wrap_id (by omega) (by omega)
      have hk : wrap64 ((rd_T23 l i).f0 - 1) = (rd_T23 l i).f0 - 1 := wrap_id (by omega) (by omega)
      have hr0 := hI.2 ((rd_T23 l i).f0 - 1)
      have hv : wrap64 (rd b ((rd_T23 l i).f0 - 1) + 1) = rd b ((rd_T23 l i).f0 - 1) + 1 := wrap_id (by omega) (by omega)
      have hl6 := hI.1
      refine ⟨⟨by rw [List.length_set]; exact hl6, fun j => ?_⟩, fun r hr => ?_⟩
      · have hj := hI.2 j
        unfold rd at hj hr0 ⊢
        simp only [List.getD] at hj hr0 ⊢
        rw [List.getElem?_set]
        split
        · split
          · simp only [Option.getD_some]; omega
          · simp only [Option.getD_none]; omega
        · omega
      · refine Ev.step (fun k => ?_) hr
        show incident_Counts.l0 (k + 1) b l (l.length : Int) i = _
        rw [incident_Counts.l0, if_pos (by omega), if_pos h0, if_pos h1, hk, if_pos (by omega), if_pos (by omega), hv, hw])
    (fun b i h0 h1 hI hs => by cases hs)
    (fun r a => (cntF r a, 0)) (fun b => rfl) (fun x r b => rfl) l.length (List.replicate 6 0) 0 (by omega) (by omega) ⟨rfl, fun j => by
      unfold rd
      simp only [List.getD, List.getElem?_replicate]
      split <;> simp⟩
  exact key
theorem rcounts_l0 (l : List S23) (hl : (l.length : Int) ≤ 300) (hok : ∀ x ∈ l, okI x) : Ev (fun k => examboardref50_Counts.l0 k l (List.replicate 6 0) 0) (cntF l (List.replicate 6 0), 0) := by
  have key := loop_ev l (fun k c i => examboardref50_Counts.l0 k l c i) (fun c x => some (c.set (x.f0 - 1).toNat (rd c (x.f0 - 1) + 1))) (fun c => (c, 0)) (fun _ _ => ([], 0)) (fun c i => c.length = 6 ∧ ∀ j, 0 ≤ rd c j ∧ rd c j ≤ i)
    (fun b i h hI => Ev.step (f := fun _ => some (b, 0)) (fun k => by rw [examboardref50_Counts.l0, if_neg (by omega)]) (Ev.now _))
    (fun b i b' h0 h1 hI hs => by
      obtain rfl := Option.some.inj hs
      have hx := hok _ (rd_mem l i h0 h1)
      unfold okI at hx
      have hw : wrap64 (i + 1) = i + 1 := wrap_id (by omega) (by omega)
      have hk : wrap64 ((rd_T23 l i).f0 - 1) = (rd_T23 l i).f0 - 1 := wrap_id (by omega) (by omega)
      have hr0 := hI.2 ((rd_T23 l i).f0 - 1)
      have hv : wrap64 (rd b ((rd_T23 l i).f0 - 1) + 1) = rd b ((rd_T23 l i).f0 - 1) + 1 := wrap_id (by omega) (by omega)
      have hl6 := hI.1
      refine ⟨⟨by rw [List.length_set]; exact hl6, fun j => ?_⟩, fun r hr => ?_⟩
      · have hj := hI.2 j
        unfold rd at hj hr0 ⊢
        simp only [List.getD] at hj hr0 ⊢
        rw [List.getElem?_set]
        split
        · split
          · simp only [Option.getD_some]; omega
          · simp only [Option.getD_none]; omega
        · omega
      · refine Ev.step (fun k => ?_) hr
        show examboardref50_Counts.l0 (k + 1) l b i = _
        rw [examboardref50_Counts.l0, if_pos (by omega), if_pos h0, hk, if_pos (by omega), if_pos (by omega), hv, hw])
    (fun b i h0 h1 hI hs => by cases hs)
    (fun r a => (cntF r a, 0)) (fun b => rfl) (fun x r b => rfl) l.length (List.replicate 6 0) 0 (by omega) (by omega) ⟨rfl, fun j => by
      unfold rd
      simp only [List.getD, List.getElem?_replicate]
      split <;> simp⟩
  exact key
/-- Hold, by the program: a grave or an imposter at once, else two of gravity 2. -/
def holdF : List S23 → Int → Bool
  | [], n => decide (n ≥ 2)
  | x :: r, n => if x.f3 = 3 ∨ x.f0 = 5 then true else holdF r (if x.f3 = 2 then n + 1 else n)
/-- The reference's points. -/
def ptsF : List S23 → Int → Int
  | [], n => n
  | x :: r, n => ptsF r (n + (if x.f3 = 3 ∨ x.f0 = 5 then 2 else 0) + (if x.f3 = 2 then 1 else 0))
theorem ptsF_mono : ∀ (l : List S23) (n : Int), n ≤ ptsF l n
  | [], n => Int.le_refl _
  | x :: r, n => by
    have := ptsF_mono r (n + (if x.f3 = 3 ∨ x.f0 = 5 then 2 else 0) + (if x.f3 = 2 then 1 else 0))
    show n ≤ ptsF r _
    refine Int.le_trans ?_ this
    split <;> split <;> omega
theorem hold_pts : ∀ (l : List S23) (n : Int), 0 ≤ n → holdF l n = decide (ptsF l n ≥ 2)
  | [], n, _ => rfl
  | x :: r, n, h => by
    rw [holdF, ptsF]
    by_cases h1 : x.f3 = 3 ∨ x.f0 = 5
    · rw [if_pos h1, if_pos h1]
      have := ptsF_mono r (n + 2 + (if x.f3 = 2 then 1 else 0))
      refine (decide_eq_true ?_).symm
      refine Int.le_trans ?_ this
      split <;> omega
    · rw [if_neg h1, if_neg h1, hold_pts r _ (by split <;> omega)]
      congr 2
      by_cases h2 : x.f3 = 2
      · rw [if_pos h2, if_pos h2]; congr 1; omega
      · rw [if_neg h2, if_neg h2]; congr 1; omega
theorem hold_l0 (l : List S23) (hl : (l.length : Int) ≤ 300) : Ev (fun k => incident_Hold.l0 k 0 l (l.length : Int) 0) (holdF l 0, 0) := by
  have key := loop_ev l (fun k a i => incident_Hold.l0 k a l (l.length : Int) i) (fun a x => if x.f3 = 3 ∨ x.f0 = 5 then none else some (if x.f3 = 2 then a + 1 else a)) (fun a => (decide (a ≥ 2), 0)) (fun _ _ => (true, 0)) (fun a i => 0 ≤ a ∧ a ≤ i)
    (fun b i h hI => Ev.step (f := fun _ => some (decide (b ≥ 2), 0)) (fun k => by rw [incident_Hold.l0, if_neg (by omega)]) (Ev.now _))
    (fun b i b' h0 h1 hI hs => by
      have hw : wrap64 (i + 1) = i + 1 := wrap_id (by omega) (by omega)
      by_cases hg : (rd_T23 l i).f3 = 3 ∨ (rd_T23 l i).f0 = 5
      · rw [if_pos hg] at hs; cases hs
      · rw [if_neg hg] at hs
        obtain rfl := Option.some.inj hs
        have g3 : ¬ (rd_T23 l i).f3 = 3 := fun h => hg (.inl h)
        have g5 : ¬ (rd_T23 l i).f0 = 5 := fun h => hg (.inr h)
        refine ⟨by split <;> omega, fun r hr => ?_⟩
        by_cases h2 : (rd_T23 l i).f3 = 2
        · rw [if_pos h2] at hr
          refine Ev.step (f := fun k => incident_Hold.j1 k b l (l.length : Int) i false (rd_T23 l i).f0 (rd_T23 l i).f1 (rd_T23 l i).f2 (rd_T23 l i).f3) (fun k => ?_) (Ev.step (fun k => ?_) hr)
          · show incident_Hold.l0 (k + 1) b l (l.length : Int) i = _
            rw [incident_Hold.l0, if_pos (by omega), if_pos h0, if_pos h1, if_neg g3, beq_eq_false_iff_ne.2 g5]
          · show incident_Hold.j1 (k + 1) b l (l.length : Int) i false _ _ _ _ = _
            rw [incident_Hold.j1, if_neg (by decide), if_pos h2, hw, wrap_id (by omega) (by omega)]
        · rw [if_neg h2] at hr
          refine Ev.step (f := fun k => incident_Hold.j1 k b l (l.length : Int) i false (rd_T23 l i).f0 (rd_T23 l i).f1 (rd_T23 l i).f2 (rd_T23 l i).f3) (fun k => ?_) (Ev.step (fun k => ?_) hr)
          · show incident_Hold.l0 (k + 1) b l (l.length : Int) i = _
            rw [incident_Hold.l0, if_pos (by omega), if_pos h0, if_pos h1, if_neg g3, beq_eq_false_iff_ne.2 g5]
          · show incident_Hold.j1 (k + 1) b l (l.length : Int) i false _ _ _ _ = _
            rw [incident_Hold.j1, if_neg (by decide), if_neg h2, hw])
    (fun b i h0 h1 hI hs => by
      by_cases hg : (rd_T23 l i).f3 = 3 ∨ (rd_T23 l i).f0 = 5
      · refine Ev.step (f := fun k => incident_Hold.j1 k b l (l.length : Int) i true (rd_T23 l i).f0 (rd_T23 l i).f1 (rd_T23 l i).f2 (rd_T23 l i).f3) (fun k => ?_) (Ev.step (f := fun _ => some (true, 0)) (fun k => ?_) (Ev.now _))
        · show incident_Hold.l0 (k + 1) b l (l.length : Int) i = _
          rw [incident_Hold.l0, if_pos (by omega), if_pos h0, if_pos h1]
          by_cases g3 : (rd_T23 l i).f3 = 3
          · rw [if_pos g3]
          · rw [if_neg g3, beq_iff_eq.2 (hg.resolve_left g3)]
        · show incident_Hold.j1 (k + 1) b l (l.length : Int) i true _ _ _ _ = _
          rw [incident_Hold.j1, if_pos rfl]
      · rw [if_neg hg] at hs; cases hs)
    (fun r a => (holdF r a, 0)) (fun b => rfl) (fun x r b => by
      show (holdF (x :: r) b, (0 : Int)) = _
      rw [holdF]
      by_cases hg : x.f3 = 3 ∨ x.f0 = 5
      · rw [if_pos hg, if_pos hg]
      · rw [if_neg hg, if_neg hg]) l.length 0 0 (by omega) (by omega) ⟨by omega, by omega⟩
  exact key
theorem rhold_l0 (l : List S23) (hl : (l.length : Int) ≤ 300) : Ev (fun k => examboardref50_Hold.l0 k l 0 0) (decide (ptsF l 0 ≥ 2), 0) := by
  have key := loop_ev l (fun k a i => examboardref50_Hold.l0 k l a i) (fun a x => some (a + (if x.f3 = 3 ∨ x.f0 = 5 then 2 else 0) + (if x.f3 = 2 then 1 else 0))) (fun a => (decide (a ≥ 2), 0)) (fun _ _ => (true, 0)) (fun a i => 0 ≤ a ∧ a ≤ 3 * i)
    (fun b i h hI => Ev.step (f := fun _ => some (decide (b ≥ 2), 0)) (fun k => by rw [examboardref50_Hold.l0, if_neg (by omega)]) (Ev.now _))
    (fun b i b' h0 h1 hI hs => by
      have hw : wrap64 (i + 1) = i + 1 := wrap_id (by omega) (by omega)
      obtain rfl := Option.some.inj hs
      refine ⟨by split <;> split <;> omega, fun r hr => ?_⟩
      have step : ∀ q : Bool, (q = true ↔ ((rd_T23 l i).f3 = 3 ∨ (rd_T23 l i).f0 = 5)) → ∀ k, examboardref50_Hold.j1 (k + 1) l b i q = examboardref50_Hold.l0 k l (b + (if (rd_T23 l i).f3 = 3 ∨ (rd_T23 l i).f0 = 5 then 2 else 0) + (if (rd_T23 l i).f3 = 2 then 1 else 0)) (i + 1) := by
        intro q hq k
        rw [examboardref50_Hold.j1]
        by_cases hg : (rd_T23 l i).f3 = 3 ∨ (rd_T23 l i).f0 = 5
        · rw [if_pos (hq.2 hg), if_pos h0, if_pos h1, hw, if_pos hg, wrap_id (x := b + 2) (by omega) (by omega)]
          by_cases h2 : (rd_T23 l i).f3 = 2
          · rw [if_pos h2, if_pos h2, wrap_id (by omega) (by omega)]
          · rw [if_neg h2, if_neg h2, Int.add_zero]
        · rw [if_neg (fun h => hg (hq.1 h)), if_pos h0, if_pos h1, hw, if_neg hg, Int.add_zero]
          by_cases h2 : (rd_T23 l i).f3 = 2
          · rw [if_pos h2, if_pos h2, wrap_id (by omega) (by omega)]
          · rw [if_neg h2, if_neg h2, Int.add_zero]
      by_cases g3 : (rd_T23 l i).f3 = 3
      · refine Ev.step (f := fun k => examboardref50_Hold.j1 k l b i true) (fun k => ?_) (Ev.step (fun k => step true ⟨fun _ => .inl g3, fun _ => rfl⟩ k) hr)
        show examboardref50_Hold.l0 (k + 1) l b i = _
        rw [examboardref50_Hold.l0, if_pos (by omega), if_pos h0, if_pos g3]
      · refine Ev.step (f := fun k => examboardref50_Hold.j1 k l b i ((rd_T23 l i).f0 == 5)) (fun k => ?_) (Ev.step (fun k => step ((rd_T23 l i).f0 == 5) ⟨fun h => .inr (beq_iff_eq.1 h), fun h => beq_iff_eq.2 (h.resolve_left g3)⟩ k) hr)
        show examboardref50_Hold.l0 (k + 1) l b i = _
        rw [examboardref50_Hold.l0, if_pos (by omega), if_pos h0, if_neg g3])
    (fun b i h0 h1 hI hs => by cases hs)
    (fun r a => (decide (ptsF r a ≥ 2), 0)) (fun b => rfl) (fun x r b => rfl) l.length 0 0 (by omega) (by omega) ⟨by omega, by omega⟩
  exact key
/-! ### the functions whole -/
theorem after_check {α : Type} {l : List S23} {g : Nat → Int → Option α} {c : Nat → List S23 → Option Int} (hc : Ev (fun k => c k l) (chkV l)) {r : α} (h : Ev (fun k => g k (chkV l)) r) : Ev (fun k => (c k l).bind (g k)) r := Ev.bind hc h
def lostV (l : List S23) (most : Int) : Int × Int := if chkV l = 0 then (mn (lostF l 0) (mx most 0), 0) else (0, chkV l)
def worstV (l : List S23) : Int × Int := if chkV l = 0 then (worstF l 0, 0) else (0, chkV l)
def holdV (l : List S23) : Bool × Int := if chkV l = 0 then (holdF l 0, 0) else (false, chkV l)
def countsV (l : List S23) : List Int × Int := if chkV l = 0 then (cntF l (List.replicate 6 0), 0) else ([], chkV l)
theorem lost_ev (l : List S23) (most : Int) : Ev (fun k => incident_Lost.f k l most) (lostV l most) := by
  unfold incident_Lost.f lostV
  refine Ev.bind (check_ev l) ?_
  by_cases h : chkV l = 0
  · obtain ⟨h1, h2⟩ := (chkV_zero l).1 h
    rw [if_pos h]
    exact Ev.congr (fun k => by rw [if_pos h]) (lost_l0 l most h1 h2)
  · rw [if_neg h]
    exact Ev.congr (fun k => by rw [if_neg h]) (Ev.now _)
theorem rlost_ev (l : List S23) (most : Int) : Ev (fun k => examboardref50_Lost.f k l most) (lostV l most) := by
  unfold examboardref50_Lost.f lostV
  refine Ev.bind (list_ev l) ?_
  by_cases h : chkV l = 0
  · obtain ⟨h1, h2⟩ := (chkV_zero l).1 h
    rw [if_pos h]
    exact Ev.congr (fun k => by rw [if_pos h]) (rlost_l0 l most h1 h2)
  · rw [if_neg h]
    exact Ev.congr (fun k => by rw [if_neg h]) (Ev.now _)
theorem worst_ev (l : List S23) : Ev (fun k => incident_Worst.f k l) (worstV l) := by
  unfold incident_Worst.f worstV
  refine Ev.bind (check_ev l) ?_
  by_cases h : chkV l = 0
  · obtain ⟨h1, h2⟩ := (chkV_zero l).1 h
    rw [if_pos h]
    exact Ev.congr (fun k => by rw [if_pos h]) (worst_l0 l h1)
  · rw [if_neg h]
    exact Ev.congr (fun k => by rw [if_neg h]) (Ev.now _)
theorem rworst_ev (l : List S23) : Ev (fun k => examboardref50_Worst.f k l) (worstV l) := by
  unfold examboardref50_Worst.f worstV
  refine Ev.bind (list_ev l) ?_
  by_cases h : chkV l = 0
  · obtain ⟨h1, h2⟩ := (chkV_zero l).1 h
    rw [if_pos h]
    exact Ev.congr (fun k => by rw [if_pos h]) (rworst_l0 l h1)
  · rw [if_neg h]
    exact Ev.congr (fun k => by rw [if_neg h]) (Ev.now _)
theorem hold_ev (l : List S23) : Ev (fun k => incident_Hold.f k l) (holdV l) := by
  unfold incident_Hold.f holdV
  refine Ev.bind (check_ev l) ?_
  by_cases h : chkV l = 0
  · obtain ⟨h1, h2⟩ := (chkV_zero l).1 h
    rw [if_pos h]
    exact Ev.congr (fun k => by rw [if_pos h]) (hold_l0 l h1)
  · rw [if_neg h]
    exact Ev.congr (fun k => by rw [if_neg h]) (Ev.now _)
theorem rhold_ev (l : List S23) : Ev (fun k => examboardref50_Hold.f k l) (holdV l) := by
  unfold examboardref50_Hold.f holdV
  refine Ev.bind (list_ev l) ?_
  by_cases h : chkV l = 0
  · obtain ⟨h1, h2⟩ := (chkV_zero l).1 h
    rw [if_pos h, hold_pts l 0 (by omega)]
    exact Ev.congr (fun k => by rw [if_pos h]) (rhold_l0 l h1)
  · rw [if_neg h]
    exact Ev.congr (fun k => by rw [if_neg h]) (Ev.now _)
theorem counts_ev (l : List S23) : Ev (fun k => incident_Counts.f k l) (countsV l) := by
  unfold incident_Counts.f countsV
  refine Ev.bind (check_ev l) ?_
  by_cases h : chkV l = 0
  · obtain ⟨h1, h2⟩ := (chkV_zero l).1 h
    rw [if_pos h]
    exact Ev.congr (fun k => by rw [if_pos h, if_pos (by decide)]) (counts_l0 l h1 h2)
  · rw [if_neg h]
    exact Ev.congr (fun k => by rw [if_neg h]) (Ev.now _)
theorem rcounts_ev (l : List S23) : Ev (fun k => examboardref50_Counts.f k l) (countsV l) := by
  unfold examboardref50_Counts.f countsV
  refine Ev.bind (list_ev l) ?_
  by_cases h : chkV l = 0
  · obtain ⟨h1, h2⟩ := (chkV_zero l).1 h
    rw [if_pos h]
    exact Ev.congr (fun k => by rw [if_pos h, if_pos (by decide)]) (rcounts_l0 l h1 h2)
  · rw [if_neg h]
    exact Ev.congr (fun k => by rw [if_neg h]) (Ev.now _)
end Go.Proofs.YtidehmfaebiebaaDoor.Pure
