/- The plain law behind TimingParts: the length of two lists is that of the first and of what the second has beside it. No condition. -/
import Derived.Test.YtjopendipackpaaPTimx7
import Derived.Test.YtjopendipackpaaPureTimP
namespace Go.Proofs.Ytjopendipackpaa.PureTim
open Go.RowKit Go.Proofs.Ytjopendipackpaa.PTim Go.Proofs.YtjopendipackpaaW.PrintWords Go.Proofs.YtjopendipackpaaW.PrintLast Go.Proofs.YtjopendipackpaaW.PrintMore
set_option linter.unusedVariables false

/-! ### TimingParts -/
theorem parts_l0 (a b : List S33) (ha : a.length ≤ 1000) (r : Bool) (hr : Ev (fun k => examboardlaw47_TimingParts.l1 k a b a 0) r) : ∀ (d : Nat) (i : Int) (out : List S33), 0 ≤ i → (a.length : Int) - i = d → out.length ≤ 10000 - d → d ≤ 1000 → out ++ a.drop i.toNat = a →
    Ev (fun k => examboardlaw47_TimingParts.l0 k a b out i) r := by
  intro d
  induction d with
  | zero =>
    intro i out h0 hd hl hd2 he
    rw [List.drop_eq_nil_of_le (by omega), List.append_nil] at he
    subst he
    refine Ev.step (f := fun k => examboardlaw47_TimingParts.l1 k out b out 0) (fun k => ?_) hr
    rw [examboardlaw47_TimingParts.l0, if_neg (by omega)]
  | succ d ih =>
    intro i out h0 hd hl hd2 he
    have hlt : i < (a.length : Int) := by omega
    rw [rd_drop a i h0 hlt] at he
    refine Ev.step (f := fun k => examboardlaw47_TimingParts.l0 k a b (out ++ [rd_T33 a i]) (i + 1)) (fun k => ?_) (ih (i + 1) (out ++ [rd_T33 a i]) (by omega) (by omega) (by rw [List.length_append, List.length_singleton]; omega) (by omega) (by rw [List.append_assoc]; exact he))
    rw [examboardlaw47_TimingParts.l0, if_pos hlt, if_pos h0, if_pos (by omega), wrap_id (x := i + 1) (by omega) (by omega)]
theorem parts_l1 (a b : List S33) (hb : b.length ≤ 1000) (all : List S33) (r : Bool) (hr : ∀ k, examboardlaw47_TimingParts.l1 (k + 1) a b all (b.length : Int) = none ∨ True) (hend : Ev (fun k => examboardlaw47_TimingParts.l1 k a b all (b.length : Int)) r) : ∀ (d : Nat) (i : Int) (out : List S33), 0 ≤ i → (b.length : Int) - i = d → out.length ≤ 10000 - d → d ≤ 1000 → out ++ b.drop i.toNat = all →
    Ev (fun k => examboardlaw47_TimingParts.l1 k a b out i) r := by
  intro d
  induction d with
  | zero =>
    intro i out h0 hd hl hd2 he
    rw [List.drop_eq_nil_of_le (by omega), List.append_nil] at he
    subst he
    obtain rfl : i = (b.length : Int) := by omega
    exact hend
  | succ d ih =>
    intro i out h0 hd hl hd2 he
    have hlt : i < (b.length : Int) := by omega
    rw [rd_drop b i h0 hlt] at he
    refine Ev.step (f := fun k => examboardlaw47_TimingParts.l1 k a b (out ++ [rd_T33 b i]) (i + 1)) (fun k => ?_) (ih (i + 1) (out ++ [rd_T33 b i]) (by omega) (by omega) (by rw [List.length_append, List.length_singleton]; omega) (by omega) (by rw [List.append_assoc]; exact he))
    rw [examboardlaw47_TimingParts.l1, if_pos hlt, if_pos h0, if_pos (by omega), wrap_id (x := i + 1) (by omega) (by omega)]
theorem un_norm (hS : Sorts) {m : List S33} (h : Norm m) : un m = m := by
  obtain ⟨u1, u2, _⟩ := un_spec hS m (fun p hp => norm_lt h p hp)
  exact norm_unique _ _ u1 h u2
theorem parts_j3 (hS : Sorts) (a m : List S33) (ha : ∀ p ∈ a, (0 ≤ p.f0 ∧ p.f0 ≤ 1099511627776 ∧ 0 ≤ p.f1 ∧ p.f1 ≤ 1099511627776) ∧ p.f0 < p.f1) (hl : a.length ≤ 60) (hm : Norm m) (im : InT m) (hml : m.length ≤ 300) (hd : ∀ x, cov m x → ¬ cov a x) : Ev (fun k => examboardlaw47_TimingParts.j3 k a m false) true := by
  have c1 : chk [m, a] = 0 := chk_valid (fun l hl' => by
    rcases List.mem_cons.1 hl' with rfl | hl'
    · exact ⟨hml, fun p hp => ⟨im p hp, norm_lt hm p hp⟩⟩
    · rw [List.mem_singleton.1 hl']
      exact ⟨by omega, ha⟩)
  have c2 : chk [a, a] = 0 := chk_valid (fun l hl' => by
    have : l = a := by simpa using hl'
    rw [this]
    exact ⟨by omega, ha⟩)
  obtain ⟨m1, m2, m3⟩ := minusL_spec hS m a c1
  obtain ⟨s1, s2, s3⟩ := minusL_spec hS a a c2
  have e1 : minusL (un m) (un a) = m := norm_unique _ _ m1 hm (fun x => (m2 x).trans ⟨fun h => h.1, fun h => ⟨h, hd x h⟩⟩)
  have e2 : minusL (un a) (un a) = [] := norm_unique _ _ s1 trivial (fun x => (s2 x).trans ⟨fun h => absurd h.1 h.2, fun h => absurd h (cov_nil _)⟩)
  refine Ev.step (f := fun k => (timing_Minus.f k m a).bind fun bt170 => ((timing_Minus.f k a a).bind fun bt174 => (if bt170.2 = 0 then (if bt174.2 = 0 then ((examboardlaw47_pairs.f k bt170.1 m).bind fun t178 => (if t178 = true then (some ((bt174.1.length : Int) == 0)) else (some false))) else (some false)) else (some false)))) (fun k => by rw [examboardlaw47_TimingParts.j3, if_neg (by simp)]) ?_
  refine Ev.bind (minus_ev hS m a c1) (Ev.bind (minus_ev hS a a c2) ?_)
  rw [e1, e2]
  refine Ev.congr (f := fun k => (examboardlaw47_pairs.f k m m).bind fun t178 => (if t178 = true then (some (((([] : List S33), (0 : Int)).1.length : Int) == 0)) else (some false))) (fun k => by rw [if_pos rfl, if_pos rfl]) ?_
  refine Ev.bind (pairs_ev m (by omega)) ?_
  exact Ev.congr (f := fun _ => some true) (fun k => by rw [if_pos rfl]; rfl) (Ev.now _)
theorem parts_end (hS : Sorts) (a b : List S33) (ha : a.length ≤ 60) (hb : b.length ≤ 60) : Ev (fun k => examboardlaw47_TimingParts.l1 k a b (a ++ b) (b.length : Int)) true := by
  refine Ev.step (f := fun k => (timing_Total.f k a).bind fun bt160 => ((timing_Minus.f k b a).bind fun bt162 => ((timing_Total.f k (a ++ b)).bind fun bt166 => (if bt162.2 = 0 then ((timing_Total.f k bt162.1).bind fun bt168 => (if bt160.2 = 0 then (if bt166.2 = 0 then (if bt168.2 = 0 then (if bt166.1 = (wrap64 (bt160.1 + bt168.1)) then (if ((a ++ b).length : Int) > 0 then (examboardlaw47_TimingParts.j3 k a bt162.1 (decide (bt166.1 < 1))) else (examboardlaw47_TimingParts.j3 k a bt162.1 false)) else (examboardlaw47_TimingParts.j3 k a bt162.1 true)) else (examboardlaw47_TimingParts.j3 k a bt162.1 true)) else (examboardlaw47_TimingParts.j3 k a bt162.1 true)) else (examboardlaw47_TimingParts.j3 k a bt162.1 true))) else (if bt162.2 = bt166.2 then (if (bt162.1.length : Int) = 0 then (some (bt166.1 == 0)) else (some false)) else (some false)))))) (fun k => by rw [examboardlaw47_TimingParts.l1, if_neg (by omega)]) ?_
  by_cases h : chk [b, a] = 0
  · have vb := chk_zero h b (by simp)
    have va := chk_zero h a (by simp)
    have hall : chk [a ++ b] = 0 := chk_valid (fun l hl => by
      rw [List.mem_singleton.1 hl]
      refine ⟨by rw [List.length_append]; omega, fun p hp => ?_⟩
      rcases List.mem_append.1 hp with hp | hp
      · exact va.2 p hp
      · exact vb.2 p hp)
    have hca : chk [a] = 0 := chk_valid (fun l hl => by rw [List.mem_singleton.1 hl]; exact va)
    obtain ⟨m1, m2, m3⟩ := minusL_spec hS b a h
    obtain ⟨u1, u2, u3⟩ := un_spec hS a (fun p hp => (va.2 p hp).2)
    obtain ⟨v1, v2, v3⟩ := un_spec hS b (fun p hp => (vb.2 p hp).2)
    obtain ⟨w1, w2, w3⟩ := un_spec hS (a ++ b) (fun p hp => by
      rcases List.mem_append.1 hp with hp | hp
      · exact (va.2 p hp).2
      · exact (vb.2 p hp).2)
    have mlen := minus_len v1 u1
    have ia : InT (un a) := inT_of_cov (fun p hp => (va.2 p hp).1) u1 (fun y hy => (u2 y).1 hy)
    have im : InT (minusL (un b) (un a)) := inT_of_cov (fun p hp => (vb.2 p hp).1) m1 (fun y hy => ((m2 y).1 hy).1)
    generalize hm : minusL (un b) (un a) = m at *
    have hcm : chk [m] = 0 := chk_valid (fun l hl => by
      rw [List.mem_singleton.1 hl]
      exact ⟨by omega, fun p hp => ⟨im p hp, norm_lt m1 p hp⟩⟩)
    have hsum : len (un (a ++ b)) = len (un a) + len m := len_split w1 u1 m1 ia im (fun x => by
      rw [w2, cov_append, u2, m2]
      constructor
      · rintro (h1 | h1)
        · exact .inl h1
        · by_cases h2 : cov a x
          · exact .inl h2
          · exact .inr ⟨h1, h2⟩
      · rintro (h1 | h1)
        · exact .inl h1
        · exact .inr h1.1) (fun x h1 h2 => ((m2 x).1 h2).2 ((u2 x).1 h1))
    have b1 := len_bound ia
    have b2 := len_bound im
    have hmin := minus_ev hS b a h
    rw [hm] at hmin
    have hTm := Total_ev hS m hcm
    rw [un_norm hS m1] at hTm
    refine Ev.bind (Total_ev hS a hca) (Ev.bind hmin (Ev.bind (Total_ev hS (a ++ b) hall) ?_))
    refine Ev.congr (f := fun k => (timing_Total.f k m).bind fun bt168 => (if (len (un a), (0 : Int)).2 = 0 then (if (len (un (a ++ b)), (0 : Int)).2 = 0 then (if bt168.2 = 0 then (if (len (un (a ++ b)), (0 : Int)).1 = (wrap64 ((len (un a), (0 : Int)).1 + bt168.1)) then (if ((a ++ b).length : Int) > 0 then (examboardlaw47_TimingParts.j3 k a m (decide ((len (un (a ++ b)), (0 : Int)).1 < 1))) else (examboardlaw47_TimingParts.j3 k a m false)) else (examboardlaw47_TimingParts.j3 k a m true)) else (examboardlaw47_TimingParts.j3 k a m true)) else (examboardlaw47_TimingParts.j3 k a m true)) else (examboardlaw47_TimingParts.j3 k a m true))) (fun k => if_pos rfl) ?_
    refine Ev.bind hTm ?_
    have hj3 := parts_j3 hS a m va.2 ha m1 im (by omega) (fun x hx => ((m2 x).1 hx).2)
    refine Ev.congr (f := fun k => examboardlaw47_TimingParts.j3 k a m false) (fun k => ?_) hj3
    rw [if_pos rfl, if_pos rfl, if_pos rfl]
    show (if len (un (a ++ b)) = wrap64 (len (un a) + len m) then _ else _) = _
    rw [wrap_id (x := len (un a) + len m) (by omega) (by omega), if_pos hsum]
    by_cases hpos : ((a ++ b).length : Int) > 0
    · rw [if_pos hpos]
      have hne : un (a ++ b) ≠ [] := fun h0 => by
        obtain ⟨p, hp⟩ := List.exists_mem_of_length_pos (l := a ++ b) (by omega)
        have hlt : p.f0 < p.f1 := by
          rcases List.mem_append.1 hp with hp | hp
          · exact (va.2 p hp).2
          · exact (vb.2 p hp).2
        have := (w2 p.f0).2 ⟨p, hp, Int.le_refl _, hlt⟩
        rw [h0] at this
        exact cov_nil _ this
      have := (len_pos w1).2 hne
      rw [decide_eq_false (show ¬ (len (un (a ++ b)), (0 : Int)).1 < 1 by show ¬ len (un (a ++ b)) < 1; omega)]
    · rw [if_neg hpos]
  · have hsame : chk [a ++ b] = chk [b, a] := by
      unfold chk
      simp only [List.any_cons, List.any_nil, Bool.or_false, List.any_append, List.length_append]
      rw [decide_eq_false (show ¬ 300 < a.length + b.length by omega), decide_eq_false (show ¬ 300 < a.length by omega), decide_eq_false (show ¬ 300 < b.length by omega), Bool.or_comm (a.any bad), Bool.or_comm (a.any turned)]
      rfl
    have hall : chk [a ++ b] ≠ 0 := by rw [hsame]; exact h
    have fin : ∀ (p : Int × Int), Ev (fun k => (timing_Minus.f k b a).bind fun bt162 => ((timing_Total.f k (a ++ b)).bind fun bt166 => (if bt162.2 = 0 then ((timing_Total.f k bt162.1).bind fun bt168 => (if p.2 = 0 then (if bt166.2 = 0 then (if bt168.2 = 0 then (if bt166.1 = (wrap64 (p.1 + bt168.1)) then (if ((a ++ b).length : Int) > 0 then (examboardlaw47_TimingParts.j3 k a bt162.1 (decide (bt166.1 < 1))) else (examboardlaw47_TimingParts.j3 k a bt162.1 false)) else (examboardlaw47_TimingParts.j3 k a bt162.1 true)) else (examboardlaw47_TimingParts.j3 k a bt162.1 true)) else (examboardlaw47_TimingParts.j3 k a bt162.1 true)) else (examboardlaw47_TimingParts.j3 k a bt162.1 true))) else (if bt162.2 = bt166.2 then (if (bt162.1.length : Int) = 0 then (some (bt166.1 == 0)) else (some false)) else (some false))))) true := fun p => by
      refine Ev.bind (minus_err b a h) (Ev.bind (Total_err (a ++ b) hall) ?_)
      refine Ev.congr (f := fun _ => some true) (fun k => ?_) (Ev.now _)
      rw [if_neg h, if_pos hsame.symm]
      rfl
    by_cases hca : chk [a] = 0
    · exact Ev.bind (Total_ev hS a hca) (fin _)
    · exact Ev.bind (Total_err a hca) (fin _)
theorem TimingParts_ev (hS : Sorts) (a b : List S33) : ∃ k, examboardlaw47_TimingParts.f k a b = some true := by
  refine Ev.rounds (g := fun k => examboardlaw47_TimingParts.f k a b) ?_
  have yes : Ev (fun k => examboardlaw47_TimingParts.j0 k a b true) true := Ev.step (f := fun _ => some true) (fun k => by rw [examboardlaw47_TimingParts.j0, if_pos rfl]) (Ev.now _)
  by_cases ha : (a.length : Int) > 60
  · exact Ev.congr (f := fun k => examboardlaw47_TimingParts.j0 k a b true) (fun k => by unfold examboardlaw47_TimingParts.f; rw [if_pos ha]) yes
  · by_cases hb : (b.length : Int) > 60
    · exact Ev.congr (f := fun k => examboardlaw47_TimingParts.j0 k a b true) (fun k => by unfold examboardlaw47_TimingParts.f; rw [if_neg ha, decide_eq_true hb]) yes
    · refine Ev.congr (f := fun k => examboardlaw47_TimingParts.j0 k a b false) (fun k => by unfold examboardlaw47_TimingParts.f; rw [if_neg ha, decide_eq_false hb]) ?_
      refine Ev.step (f := fun k => examboardlaw47_TimingParts.l0 k a b [] 0) (fun k => by rw [examboardlaw47_TimingParts.j0, if_neg (by simp)]) ?_
      refine parts_l0 a b (by omega) true ?_ a.length 0 [] (Int.le_refl _) (by omega) (by simp) (by omega) (by simp)
      exact parts_l1 a b (by omega) (a ++ b) true (fun _ => .inr trivial) (parts_end hS a b (by omega) (by omega)) b.length 0 a (Int.le_refl _) (by omega) (by omega) (by omega) (by simp)
theorem TimingParts (a b : List S33) : ∃ k, examboardlaw47_TimingParts.f k a b = some true := TimingParts_ev sortP_sorts a b
end Go.Proofs.Ytjopendipackpaa.PureTim
