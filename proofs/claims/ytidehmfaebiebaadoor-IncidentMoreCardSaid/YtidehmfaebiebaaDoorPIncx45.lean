/- Contracts of the functions that the law reaches, written by a program of the session out of the translation (the kit's print program, with contracts given by hand where it has none). Conditions: those that each theorem states. -/
import Derived.Test.YtidehmfaebiebaaDoorPA
import Derived.Test.YtidehmfaebiebaaDoorPB
import Derived.Test.YtidehmfaebiebaaDoorGAwake
namespace Go.Proofs.YtidehmfaebiebaaDoor.PInc
open Go.RowKit Go.Proofs.YtidehmfaebiebaaDoorW.PrintWords Go.Proofs.YtidehmfaebiebaaDoorW.PrintLast Go.Proofs.YtidehmfaebiebaaDoorW.PrintMore
attribute [local go_sem] max2_int min2_int max_two min_two max_three min_three max_four min_four   -- for this text's walks alone
set_option linter.unusedVariables false
set_option linter.unusedSimpArgs false

/-! ### examboardlaw50_IncidentMore: function 9 -/
mutual
def examboardlaw50_IncidentMore.j0 : Nat → List (S23) → Int → List (S23) → Int → Int → Bool → Int → Int → Int → Int → Option (Bool)
  | 0, _, _, _, _, _, _, _, _, _, _ => none
  | k + 1, x0, x2, x7, x8, x10, x43, x416000, x416001, x416002, x416003 => if x43 = true then ((awake.f).bind fun t432 => (some t432)) else ((incident_Worst.f k x0).bind fun bt433 => ((incident_Worst.f k x7).bind fun bt435 => (if bt433.2 = 0 then (if bt435.2 = 0 then (if x8 > x10 then (examboardlaw50_IncidentMore.j1 k x0 x7 true x416000 x416001 x416002 x416003) else (if bt433.1 > bt435.1 then (examboardlaw50_IncidentMore.j1 k x0 x7 true x416000 x416001 x416002 x416003) else (if bt435.1 < x416003 then (examboardlaw50_IncidentMore.j1 k x0 x7 true x416000 x416001 x416002 x416003) else (if x10 < 0 then (examboardlaw50_IncidentMore.j1 k x0 x7 true x416000 x416001 x416002 x416003) else (examboardlaw50_IncidentMore.j1 k x0 x7 (decide (x10 > (mx x2 0))) x416000 x416001 x416002 x416003))))) else (examboardlaw50_IncidentMore.j1 k x0 x7 true x416000 x416001 x416002 x416003)) else (examboardlaw50_IncidentMore.j1 k x0 x7 true x416000 x416001 x416002 x416003))))
def examboardlaw50_IncidentMore.j1 : Nat → List (S23) → List (S23) → Bool → Int → Int → Int → Int → Option (Bool)
  | 0, _, _, _, _, _, _, _ => none
  | k + 1, x0, x7, x86, x416000, x416001, x416002, x416003 => if x86 = true then (some false) else ((incident_Hold.f k x0).bind fun bt437 => ((incident_Hold.f k x7).bind fun bt439 => (if bt437.2 = 0 then (if bt439.2 = 0 then (if bt437.1 = true then (if bt439.1 = true then (if x416000 = 5 then (examboardlaw50_IncidentMore.j2 k x0 x7 (!bt439.1) x416000 x416001 x416002 x416003) else (examboardlaw50_IncidentMore.j2 k x0 x7 false x416000 x416001 x416002 x416003)) else (examboardlaw50_IncidentMore.j2 k x0 x7 true x416000 x416001 x416002 x416003)) else (if x416000 = 5 then (examboardlaw50_IncidentMore.j2 k x0 x7 (!bt439.1) x416000 x416001 x416002 x416003) else (examboardlaw50_IncidentMore.j2 k x0 x7 false x416000 x416001 x416002 x416003))) else (examboardlaw50_IncidentMore.j2 k x0 x7 true x416000 x416001 x416002 x416003)) else (examboardlaw50_IncidentMore.j2 k x0 x7 true x416000 x416001 x416002 x416003))))
def examboardlaw50_IncidentMore.j2 : Nat → List (S23) → List (S23) → Bool → Int → Int → Int → Int → Option (Bool)
  | 0, _, _, _, _, _, _, _ => none
  | k + 1, x0, x7, x118, x416000, x416001, x416002, x416003 => if x118 = true then (some false) else ((incident_Counts.f k x0).bind fun bt441 => ((incident_Counts.f k x7).bind fun bt445 => (if bt441.2 = 0 then (if bt445.2 = 0 then (if (bt441.1.length : Int) = 6 then (examboardlaw50_IncidentMore.j3 k bt441.1 bt445.1 ((bt445.1.length : Int) != 6) x416000 x416001 x416002 x416003) else (examboardlaw50_IncidentMore.j3 k bt441.1 bt445.1 true x416000 x416001 x416002 x416003)) else (examboardlaw50_IncidentMore.j3 k bt441.1 bt445.1 true x416000 x416001 x416002 x416003)) else (examboardlaw50_IncidentMore.j3 k bt441.1 bt445.1 true x416000 x416001 x416002 x416003))))
def examboardlaw50_IncidentMore.j3 : Nat → List Int → List Int → Bool → Int → Int → Int → Int → Option (Bool)
  | 0, _, _, _, _, _, _, _ => none
  | k + 1, x16, x17, x144, x416000, x416001, x416002, x416003 => if x144 = true then (some false) else (examboardlaw50_IncidentMore.l0 k x16 x17 0 x416000 x416001 x416002 x416003)
def examboardlaw50_IncidentMore.l0 : Nat → List Int → List Int → Int → Int → Int → Int → Int → Option (Bool)
  | 0, _, _, _, _, _, _, _ => none
  | k + 1, x16, x17, x18, x416000, x416001, x416002, x416003 => if x18 < 6 then (if 0 ≤ x18 then (if x18 < (x16.length : Int) then (if x416000 = (wrap64 (x18 + 1)) then (if x18 < (x17.length : Int) then (if (rd x17 x18) = (wrap64 ((rd x16 x18) + 1)) then (examboardlaw50_IncidentMore.l0 k x16 x17 (wrap64 (x18 + 1)) x416000 x416001 x416002 x416003) else (some false)) else (none)) else (if x18 < (x17.length : Int) then (if (rd x17 x18) = (rd x16 x18) then (examboardlaw50_IncidentMore.l0 k x16 x17 (wrap64 (x18 + 1)) x416000 x416001 x416002 x416003) else (some false)) else (none))) else (none)) else (none)) else ((awake.f).bind fun t449 => (some t449))
end
def examboardlaw50_IncidentMore.f (k : Nat) (l0 : List (S23)) (a1_0 : Int) (a1_1 : Int) (a1_2 : Int) (a1_3 : Int) (a2 : Int) : Option (Bool) := (some (([] : List (S23)) : List (S23))).bind fun y416 => (if y416.length + l0.length < 4398046511104 then ((some (y416 ++ l0 : List (S23))).bind fun y419 => ((some (([(⟨a1_0, a1_1, a1_2, a1_3⟩ : S23)] : List (S23)) : List (S23))).bind fun y422 => (if y419.length + y422.length < 4398046511104 then ((some (y419 ++ y422 : List (S23))).bind fun y425 => ((incident_Lost.f k l0 a2).bind fun bt428 => ((incident_Lost.f k y425 a2).bind fun bt430 => (if bt428.2 = 0 then (examboardlaw50_IncidentMore.j0 k l0 a2 y425 bt428.1 bt430.1 (bt430.2 != 0) a1_0 a1_1 a1_2 a1_3) else (examboardlaw50_IncidentMore.j0 k l0 a2 y425 bt428.1 bt430.1 true a1_0 a1_1 a1_2 a1_3))))) else (none)))) else (none))
theorem mj1 {k : Nat} {x y : List S23} {a b c d : Int} {r : Bool} (H : examboardlaw50_IncidentMore.j1 k x y true a b c d = some r) : r = false := by
  cases k with
  | zero => rw [examboardlaw50_IncidentMore.j1] at H; cases H
  | succ k => rw [examboardlaw50_IncidentMore.j1, if_pos rfl] at H; exact (Option.some.inj H).symm
theorem mj2 {k : Nat} {x y : List S23} {a b c d : Int} {r : Bool} (H : examboardlaw50_IncidentMore.j2 k x y true a b c d = some r) : r = false := by
  cases k with
  | zero => rw [examboardlaw50_IncidentMore.j2] at H; cases H
  | succ k => rw [examboardlaw50_IncidentMore.j2, if_pos rfl] at H; exact (Option.some.inj H).symm
theorem mj3 {k : Nat} {x y : List Int} {a b c d : Int} {r : Bool} (H : examboardlaw50_IncidentMore.j3 k x y true a b c d = some r) : r = false := by
  cases k with
  | zero => rw [examboardlaw50_IncidentMore.j3] at H; cases H
  | succ k => rw [examboardlaw50_IncidentMore.j3, if_pos rfl] at H; exact (Option.some.inj H).symm
set_option maxHeartbeats 8000000 in
set_option maxRecDepth 100000 in
theorem examboardlaw50_IncidentMore.calls (k : Nat) (A0 : Option Addr) (c0 : Nat) (l0 : List (S23)) (a1_0 : Int) (a1_1 : Int) (a1_2 : Int) (a1_3 : Int) (a2 : Int) (r : Bool) (w : World) (hr0 : Kd.C k23 w A0 l0.length l0) (hc0 : l0.length ≤ c0) (h : examboardlaw50_IncidentMore.f k l0 a1_0 a1_1 a1_2 a1_3 a2 = some r) (hG : GW w) (hr : r = true) :
    Calls Tryd.prog 9 #[.slice A0 l0.length c0, .agg #[.int .i64 a1_0, .int .i64 a1_1, .int .i64 a1_2, .int .i64 a1_3], .int .i64 a2] w fun e w' => e = .returned (.bool r) ∧ Below w.heap.size w w' := by
  have hu23 := Tryd.underlying23
  have HR0 := Aside0.mk hr0
  have HC0 := Aside0.mk hc0
  clear hr0 hc0
  have HB := Aside0.mk (Below.refl w.heap.size w)
  have H : ((some (([] : List (S23)) : List (S23))).bind fun y416 => (if y416.length + l0.length < 4398046511104 then ((some (y416 ++ l0 : List (S23))).bind fun y419 => ((some (([(⟨a1_0, a1_1, a1_2, a1_3⟩ : S23)] : List (S23)) : List (S23))).bind fun y422 => (if y419.length + y422.length < 4398046511104 then ((some (y419 ++ y422 : List (S23))).bind fun y425 => ((incident_Lost.f k l0 a2).bind fun bt428 => ((incident_Lost.f k y425 a2).bind fun bt430 => (if bt428.2 = 0 then (examboardlaw50_IncidentMore.j0 k l0 a2 y425 bt428.1 bt430.1 (bt430.2 != 0) a1_0 a1_1 a1_2 a1_3) else (examboardlaw50_IncidentMore.j0 k l0 a2 y425 bt428.1 bt430.1 true a1_0 a1_1 a1_2 a1_3))))) else (none)))) else (none))) = some r := h
  clear h
  obtain ⟨y416, hy416⟩ : ∃ y_ : List (S23), y_ = (([] : List (S23))) := ⟨_, rfl⟩
  replace H : (if y416.length + l0.length < 4398046511104 then ((some (y416 ++ l0 : List (S23))).bind fun y419 => ((some (([(⟨a1_0, a1_1, a1_2, a1_3⟩ : S23)] : List (S23)) : List (S23))).bind fun y422 => (if y419.length + y422.length < 4398046511104 then ((some (y419 ++ y422 : List (S23))).bind fun y425 => ((incident_Lost.f k l0 a2).bind fun bt428 => ((incident_Lost.f k y425 a2).bind fun bt430 => (if bt428.2 = 0 then (examboardlaw50_IncidentMore.j0 k l0 a2 y425 bt428.1 bt430.1 (bt430.2 != 0) a1_0 a1_1 a1_2 a1_3) else (examboardlaw50_IncidentMore.j0 k l0 a2 y425 bt428.1 bt430.1 true a1_0 a1_1 a1_2 a1_3))))) else (none)))) else (none)) = some r := by first | (rw [hy416]; with_reducible exact H) | (have H2_ := (Option.bind_some _ _).symm.trans H; rw [hy416]; with_reducible exact H2_) | (have H2_ := (Option.bind_some _ _).symm.trans H; with_reducible exact H2_) | with_reducible exact H | (rw [hy416]; exact H) | exact H
  have Ny416 := Aside0.mk hy416
  clear hy416
  by_cases c4 : y416.length + l0.length < 4398046511104
  · rw [if_pos c4] at H
    have LMc4 := Aside0.mk c4
    clear c4
    obtain ⟨y419, hy419⟩ : ∃ y_ : List (S23), y_ = (y416 ++ l0) := ⟨_, rfl⟩
    replace H : ((some (([(⟨a1_0, a1_1, a1_2, a1_3⟩ : S23)] : List (S23)) : List (S23))).bind fun y422 => (if y419.length + y422.length < 4398046511104 then ((some (y419 ++ y422 : List (S23))).bind fun y425 => ((incident_Lost.f k l0 a2).bind fun bt428 => ((incident_Lost.f k y425 a2).bind fun bt430 => (if bt428.2 = 0 then (examboardlaw50_IncidentMore.j0 k l0 a2 y425 bt428.1 bt430.1 (bt430.2 != 0) a1_0 a1_1 a1_2 a1_3) else (examboardlaw50_IncidentMore.j0 k l0 a2 y425 bt428.1 bt430.1 true a1_0 a1_1 a1_2 a1_3))))) else (none))) = some r := by first | (rw [hy419]; with_reducible exact H) | (have H2_ := (Option.bind_some _ _).symm.trans H; rw [hy419]; with_reducible exact H2_) | (have H2_ := (Option.bind_some _ _).symm.trans H; with_reducible exact H2_) | with_reducible exact H | (rw [hy419]; exact H) | exact H
    have Ny419 := Aside0.mk hy419
    clear hy419
    obtain ⟨y422, hy422⟩ : ∃ y_ : List (S23), y_ = (([(⟨a1_0, a1_1, a1_2, a1_3⟩ : S23)] : List (S23))) := ⟨_, rfl⟩
    replace H : (if y419.length + y422.length < 4398046511104 then ((some (y419 ++ y422 : List (S23))).bind fun y425 => ((incident_Lost.f k l0 a2).bind fun bt428 => ((incident_Lost.f k y425 a2).bind fun bt430 => (if bt428.2 = 0 then (examboardlaw50_IncidentMore.j0 k l0 a2 y425 bt428.1 bt430.1 (bt430.2 != 0) a1_0 a1_1 a1_2 a1_3) else (examboardlaw50_IncidentMore.j0 k l0 a2 y425 bt428.1 bt430.1 true a1_0 a1_1 a1_2 a1_3))))) else (none)) = some r := by first | (rw [hy422]; with_reducible exact H) | (have H2_ := (Option.bind_some _ _).symm.trans H; rw [hy422]; with_reducible exact H2_) | (have H2_ := (Option.bind_some _ _).symm.trans H; with_reducible exact H2_) | with_reducible exact H | (rw [hy422]; exact H) | exact H
    have Ny422 := Aside0.mk hy422
    clear hy422
    by_cases c5 : y419.length + y422.length < 4398046511104
    · rw [if_pos c5] at H
      have LMc5 := Aside0.mk c5
      clear c5
      obtain ⟨y425, hy425⟩ : ∃ y_ : List (S23), y_ = (y419 ++ y422) := ⟨_, rfl⟩
      replace H : ((incident_Lost.f k l0 a2).bind fun bt428 => ((incident_Lost.f k y425 a2).bind fun bt430 => (if bt428.2 = 0 then (examboardlaw50_IncidentMore.j0 k l0 a2 y425 bt428.1 bt430.1 (bt430.2 != 0) a1_0 a1_1 a1_2 a1_3) else (examboardlaw50_IncidentMore.j0 k l0 a2 y425 bt428.1 bt430.1 true a1_0 a1_1 a1_2 a1_3)))) = some r := by first | (rw [hy425]; with_reducible exact H) | (have H2_ := (Option.bind_some _ _).symm.trans H; rw [hy425]; with_reducible exact H2_) | (have H2_ := (Option.bind_some _ _).symm.trans H; with_reducible exact H2_) | with_reducible exact H | (rw [hy425]; exact H) | exact H
      have Ny425 := Aside0.mk hy425
      clear hy425
      replace H := Option.bind_eq_some_iff.mp H
      obtain ⟨⟨t428, t429⟩, A60, H⟩ := H
      replace H : ((incident_Lost.f k y425 a2).bind fun bt430 => (if t429 = 0 then (examboardlaw50_IncidentMore.j0 k l0 a2 y425 t428 bt430.1 (bt430.2 != 0) a1_0 a1_1 a1_2 a1_3) else (examboardlaw50_IncidentMore.j0 k l0 a2 y425 t428 bt430.1 true a1_0 a1_1 a1_2 a1_3))) = some r := H
      have A6 := Aside0.mk A60
      clear A60
      replace H := Option.bind_eq_some_iff.mp H
      obtain ⟨⟨t430, t431⟩, A70, H⟩ := H
      replace H : (if t429 = 0 then (examboardlaw50_IncidentMore.j0 k l0 a2 y425 t428 t430 (t431 != 0) a1_0 a1_1 a1_2 a1_3) else (examboardlaw50_IncidentMore.j0 k l0 a2 y425 t428 t430 true a1_0 a1_1 a1_2 a1_3)) = some r := H
      have A7 := Aside0.mk A70
      clear A70
      have HC8 := Aside0.mk H
      clear H
      go_enter Tryd.func9, Tryd.ntmps9
      try go_wp2_with (first | ((with_reducible refine gate_dst (N := 4) rfl ?_); (try (refine gate_guard (by rfl) ?_; dsimp only)); refine box_event ?hg (N := 4) ?hd (cs := #[.int .i64 a1_0, .int .i64 a1_1, .int .i64 a1_2, .int .i64 a1_3]) (t := 23) ?hr ?_; (case hd => rfl); (case hg => rfl); (case hr => first | (go_simp; done) | (go_simp; rfl)); intro gb415 hg w9 hbox hb; have n0_ := Aside0.mk (below_step (by repeat (first | (with_reducible first | exact HB.out | apply below_alloc | apply pw_below_drewN | apply below_drew1) | exact HB.out)) hb); have n1_ := Aside0.mk (hbox); have n2_ := Aside0.mk ((by rw [hg]; exact (below_size (by repeat (first | (with_reducible first | exact HB.out | apply below_alloc | apply pw_below_drewN | apply below_drew1) | exact HB.out))) : w.heap.size ≤ gb415)); have n3_ := Aside0.mk ((by rw [hg]; exact (below_size (by repeat (first | (with_reducible first | exact HB.out | apply below_alloc | apply pw_below_drewN | apply below_drew1) | exact HB.out))) : w.heap.size ≤ gb415)); clear HB; have HB := n0_; have BK415 := n1_; have GW415 := n2_; have GE415 := n3_; clear n0_ n1_ n2_ n3_; clear hb hbox hg))
      have n0_ := Aside0.mk (blk_drew BK415.out)
      have n1_ := Aside0.mk (below_drew1 HB.out)
      clear BK415
      clear HB
      have BK415 := n0_
      have HB := n1_
      clear n0_ n1_
      refine start_ (n := 7) (S := fun w' => w'.cell? ⟨gb415, 0, none⟩ = some (.int .i64 a1_0) ∧ w'.cell? ⟨gb415, 1, none⟩ = some (.int .i64 a1_1) ∧ w'.cell? ⟨gb415, 2, none⟩ = some (.int .i64 a1_2) ∧ w'.cell? ⟨gb415, 3, none⟩ = some (.int .i64 a1_3)) (ds := []) #[false, false, false, false, false, false, false] (by kernel_rfl) rfl rfl ⟨(blk_cell BK415.out 0).trans rfl, (blk_cell BK415.out 1).trans rfl, (blk_cell BK415.out 2).trans rfl, (blk_cell BK415.out 3).trans rfl⟩ (fun hHeld => ?_)
      generalize w9.drew = w10 at BK415 HB hHeld ⊢
      refine pure_ (i := 1) (N := some 21) (v := ?_) (a' := ?_) #[false, true, false, false, false, false, false] rfl rfl (by kernel_rfl) (fun _ _ _ h => h) (Or.inl ⟨by rfl, ?_⟩) ?_ ?_
      rotate_left
      · intro w'
        go_simp
        with_reducible rfl
      rotate_left
      · simp only [Act.put, List.setIfInBounds_toArray, List.set_cons_zero, List.set_cons_succ, i64_w, i32_w]
        rfl
      refine take_ (i := 3) (N := some 23) (v := ?_) (a' := ?_) #[false, true, false, true, false, false, false] rfl rfl (by kernel_rfl) (fun _ _ _ h => h) (Or.inl ⟨by rfl, ?_⟩) hHeld ?_ ?_
      rotate_left
      · rintro w' ⟨s0, s1, s2, s3⟩
        go_simp
        with_reducible rfl
      rotate_left
      · simp only [Act.put, List.setIfInBounds_toArray, List.set_cons_zero, List.set_cons_succ, i64_w, i32_w]
        rfl
      refine join_ (σ := Value × Value × Value) 2 #[true, true, true, true, true, false, false] (fun s_ => [(20, s_.1), (22, s_.2.1), (24, s_.2.2)]) (fun s_ w' => (w'.cell? ⟨gb415, 0, none⟩ = some (.int .i64 a1_0) ∧ w'.cell? ⟨gb415, 1, none⟩ = some (.int .i64 a1_1) ∧ w'.cell? ⟨gb415, 2, none⟩ = some (.int .i64 a1_2) ∧ w'.cell? ⟨gb415, 3, none⟩ = some (.int .i64 a1_3)) ∧ (Kd.R k23 23 w' w.heap.size (fun k_ => some k_ ≠ (s_.2.2 : Value).ownBlock ∧ k_ ≠ gb415) s_.2.1 y419) ∧ (Kd.R k23 23 w' w.heap.size (fun k_ => some k_ ≠ (s_.2.1 : Value).ownBlock ∧ k_ ≠ gb415) s_.2.2 y422) ∧ (w'.heap[gb415]? = some (.cells #[.int .i64 a1_0, .int .i64 a1_1, .int .i64 a1_2, .int .i64 a1_3] 23 (0, 0))) ∧ (Below w.heap.size w w')) ?_ ?_
      rotate_left
      · intro hCont
        refine two_ (i := 0) (j := 4) (Ni := some 20) (Nj := some 24) #[true, true, false, true, false, false, false] #[false, true, false, true, true, false, false] rfl rfl rfl rfl (by kernel_rfl) (by decide) (by decide) (fun K hK => ?_) (fun K hK => ?_)
        · skip
          refine Kd.R_lit_step k23 _ 23 ?hg (N := 20) ?hd (xs := ([] : List (S23))) (inner := []) (ok := fun _ => True) (okp := fun _ => True) ?hr ?hp (fun _ hk => hk) trivial (Below.refl _ _) (Nat.le_refl _) (by simp) ?_; (case hd => rfl); (case hg => rfl); (case hr => first | (go_simp; done) | (go_simp; rfl)); (case hp => exact (Reps.none _ _))
          intro v417 w11 ho12 hb hg_ hnew_
          clear hg_ hnew_
          (first | rw [← Ny416.out] at ho12 | (simp only [Int.reduceToNat] at ho12; rw [← Ny416.out] at ho12))
          have n0_ := Aside0.mk (Kd.R_lower (Kd.R_newB ho12 (g := gb415) (o := .cells #[.int .i64 a1_0, .int .i64 a1_1, .int .i64 a1_2, .int .i64 a1_3] 23 (0, 0)) (by (with_reducible repeat (first | refine blk_drewN ?_ _ | refine blk_drew ?_ | refine blk_alloc ?_ _)); exact BK415.out)) (below_size (by repeat (first | (with_reducible first | exact HB.out | apply below_alloc | apply pw_below_drewN | apply below_drew1 | refine below_set ?_ GE415.out) | exact HB.out))))
          have n1_ := Aside0.mk (blk_below (g := gb415) (o := .cells #[.int .i64 a1_0, .int .i64 a1_1, .int .i64 a1_2, .int .i64 a1_3] 23 (0, 0)) (by (with_reducible repeat (first | refine blk_drewN ?_ _ | refine blk_drew ?_ | refine blk_alloc ?_ _)); exact BK415.out) hb)
          have n2_ := Aside0.mk (below_step (by repeat (first | (with_reducible first | exact HB.out | apply below_alloc | apply pw_below_drewN | apply below_drew1 | refine below_set ?_ GE415.out) | exact HB.out)) hb)
          clear BK415
          clear HB
          have HO418 := n0_
          have BK415 := n1_
          have HB := n2_
          clear n0_ n1_ n2_
          clear hb ho12
          refine hK.out _ _ ⟨(blk_cell BK415.out 0).trans rfl, (blk_cell BK415.out 1).trans rfl, (blk_cell BK415.out 2).trans rfl, (blk_cell BK415.out 3).trans rfl⟩ (fun hHeld => ?_)
          clear hK K
          refine norm_ (a' := ?_) ?_ ?_
          rotate_left
          · show Act.put _ (some 20) _ = _
            simp only [Act.put, List.setIfInBounds_toArray, List.set_cons_zero, List.set_cons_succ, i64_w, i32_w]
            rfl
          refine two_ (i := 2) (j := 4) (Ni := some 22) (Nj := some 24) #[true, true, true, true, false, false, false] #[true, true, false, true, true, false, false] rfl rfl rfl rfl (by kernel_rfl) (by decide) (by decide) (fun K hK => ?_) (fun K hK => ?_)
          · skip
            refine Kd.R_append_rows_step k23 (w0 := w) w.heap.size (by rfl) (.tmp 20) (.tmp 21) 24 23 (.agg #[(.int .i64 0), (.int .i64 0), (.int .i64 0), (.int .i64 0)]) 32 rfl Tryd.underlying24 info23 rfl (by decide) (by omega) v417 y416 l0 _ _ _ (fun k_ => k_ ≠ gb415) (fun _ => False) rfl rfl ?aO ?aR (fun _ _ h => h) (fun _ h => h.elim) ?aF ?aB ?aS ?aL ?_
            (case aR => repeat (first | exact (Kd.C_below HR0.out HB.out) | (with_reducible refine Kd.C_alloc ?_ _) | (with_reducible refine Kd.C_drewN ?_ _) | (with_reducible refine Kd.C_drew ?_)))
            (case aB => exact (by repeat (first | (with_reducible first | exact HB.out | apply below_alloc | apply pw_below_drewN | apply below_drew1 | refine below_set ?_ GE415.out) | exact HB.out)))
            (case aF => exact (fun k_ hk => Kd.freshB (g := gb415) (o := .cells #[.int .i64 a1_0, .int .i64 a1_1, .int .i64 a1_2, .int .i64 a1_3] 23 (0, 0)) (by (with_reducible repeat (first | refine blk_drewN ?_ _ | refine blk_drew ?_ | refine blk_alloc ?_ _)); exact BK415.out) k_ hk))
            (case aO => exact (by (with_reducible repeat (first | apply Kd.R_alloc | apply Kd.R_drewN | apply Kd.R_drew)); exact Kd.R_mono HO418.out (fun _ hk => hk.2)))
            (case aS => exact (below_size (by repeat (first | (with_reducible first | exact HB.out | apply below_alloc | apply pw_below_drewN | apply below_drew1 | refine below_set ?_ GE415.out) | exact HB.out))))
            (case aL => have := LMc4.out; omega)
            intro v420 w13 ho hb hg hat
            rw [← Ny419.out] at ho
            have n0_ := Aside0.mk (blk_grown (g := gb415) (o := .cells #[.int .i64 a1_0, .int .i64 a1_1, .int .i64 a1_2, .int .i64 a1_3] 23 (0, 0)) (by (with_reducible repeat (first | refine blk_drewN ?_ _ | refine blk_drew ?_ | refine blk_alloc ?_ _)); exact BK415.out) hg (Kd.R_away HO418.out (fun _ hk => hk.2)))
            have n1_ := Aside0.mk (hb)
            have n2_ := Aside0.mk (ho)
            clear BK415
            clear HB
            clear HO418
            have BK415 := n0_
            have HB := n1_
            have HO421 := n2_
            clear n0_ n1_ n2_
            clear ho hb hg hat
            refine hK.out _ _ ⟨(blk_cell BK415.out 0).trans rfl, (blk_cell BK415.out 1).trans rfl, (blk_cell BK415.out 2).trans rfl, (blk_cell BK415.out 3).trans rfl⟩ (fun hHeld => ?_)
            clear hK K
            refine norm_ (a' := ?_) ?_ ?_
            rotate_left
            · show Act.put _ (some 22) _ = _
              simp only [Act.put, List.setIfInBounds_toArray, List.set_cons_zero, List.set_cons_succ, i64_w, i32_w]
              rfl
            refine one_ (i := 4) (N := some 24) #[true, true, true, true, true, false, false] rfl rfl (by kernel_rfl) (by decide) (fun K hK => ?_)
            refine Kd.R_lit_step k23 _ 23 ?hg (N := 24) ?hd (xs := ([(⟨a1_0, a1_1, a1_2, a1_3⟩ : S23)] : List (S23))) (inner := [.int .i64 a1_0, .int .i64 a1_1, .int .i64 a1_2, .int .i64 a1_3]) (ok := fun _ => True) (okp := fun _ => True) ?hr ?hp (fun _ hk => hk) trivial (Below.refl _ _) (Nat.le_refl _) (by simp) ?_; (case hd => rfl); (case hg => rfl); (case hr => first | (go_simp; done) | (go_simp; rfl)); (case hp => exact (Reps.c4 (show Kd.M k23 _ _ _ (⟨a1_0, a1_1, a1_2, a1_3⟩ : S23) [.int .i64 a1_0, .int .i64 a1_1, .int .i64 a1_2, .int .i64 a1_3] from (k23_mkM _ _ _ (⟨a1_0, a1_1, a1_2, a1_3⟩ : S23) )) (Reps.none _ _)))
            intro v423 w14 ho15 hb hg_ hnew_
            clear hg_ hnew_
            (first | rw [← Ny422.out] at ho15 | (simp only [Int.reduceToNat] at ho15; rw [← Ny422.out] at ho15))
            have n0_ := Aside0.mk (Kd.R_elder' (by (with_reducible repeat (first | apply Kd.R_alloc | apply Kd.R_drewN | apply Kd.R_drew)); exact HO421.out) (Kd.R_base ho15) hb)
            have n1_ := Aside0.mk (Kd.R_lower (Kd.R_newB (Kd.R_new' ho15 (Kd.R_lt (by (with_reducible repeat (first | apply Kd.R_alloc | apply Kd.R_drewN | apply Kd.R_drew)); exact HO421.out))) (g := gb415) (o := .cells #[.int .i64 a1_0, .int .i64 a1_1, .int .i64 a1_2, .int .i64 a1_3] 23 (0, 0)) (by (with_reducible repeat (first | refine blk_drewN ?_ _ | refine blk_drew ?_ | refine blk_alloc ?_ _)); exact BK415.out)) (below_size (by repeat (first | (with_reducible first | exact HB.out | apply below_alloc | apply pw_below_drewN | apply below_drew1 | refine below_set ?_ GE415.out) | exact HB.out))))
            have n2_ := Aside0.mk (blk_below (g := gb415) (o := .cells #[.int .i64 a1_0, .int .i64 a1_1, .int .i64 a1_2, .int .i64 a1_3] 23 (0, 0)) (by (with_reducible repeat (first | refine blk_drewN ?_ _ | refine blk_drew ?_ | refine blk_alloc ?_ _)); exact BK415.out) hb)
            have n3_ := Aside0.mk (below_step (by repeat (first | (with_reducible first | exact HB.out | apply below_alloc | apply pw_below_drewN | apply below_drew1 | refine below_set ?_ GE415.out) | exact HB.out)) hb)
            clear HO421
            clear BK415
            clear HB
            have HO421 := n0_
            have HO424 := n1_
            have BK415 := n2_
            have HB := n3_
            clear n0_ n1_ n2_ n3_
            clear hb ho15
            refine hK.out _ _ ⟨(blk_cell BK415.out 0).trans rfl, (blk_cell BK415.out 1).trans rfl, (blk_cell BK415.out 2).trans rfl, (blk_cell BK415.out 3).trans rfl⟩ (fun hHeld => ?_)
            clear hK K
            refine norm_ (a' := ?_) ?_ ?_
            rotate_left
            · show Act.put _ (some 24) _ = _
              simp only [Act.put, List.setIfInBounds_toArray, List.set_cons_zero, List.set_cons_succ, i64_w, i32_w]
              rfl
            exact norm_ (by simp only [putAll, Act.put, List.setIfInBounds_toArray, List.set_cons_zero, List.set_cons_succ]) (hCont (v417, v420, v423) _ ⟨hHeld, (by (with_reducible repeat (first | apply Kd.R_alloc | apply Kd.R_drewN | apply Kd.R_drew)); exact Kd.R_mono HO421.out (fun _ hk => ⟨hk.2, hk.1⟩)), (by (with_reducible repeat (first | apply Kd.R_alloc | apply Kd.R_drewN | apply Kd.R_drew)); exact Kd.R_mono HO424.out (fun _ hk => ⟨hk.1.2, hk.2⟩)), (by (with_reducible repeat (first | refine blk_drewN ?_ _ | refine blk_drew ?_ | refine blk_alloc ?_ _)); exact BK415.out), (by repeat (first | (with_reducible first | exact HB.out | apply below_alloc | apply pw_below_drewN | apply below_drew1 | refine below_set ?_ GE415.out) | exact HB.out))⟩)
          · skip
            refine Kd.R_lit_step k23 _ 23 ?hg (N := 24) ?hd (xs := ([(⟨a1_0, a1_1, a1_2, a1_3⟩ : S23)] : List (S23))) (inner := [.int .i64 a1_0, .int .i64 a1_1, .int .i64 a1_2, .int .i64 a1_3]) (ok := fun _ => True) (okp := fun _ => True) ?hr ?hp (fun _ hk => hk) trivial (Below.refl _ _) (Nat.le_refl _) (by simp) ?_; (case hd => rfl); (case hg => rfl); (case hr => first | (go_simp; done) | (go_simp; rfl)); (case hp => exact (Reps.c4 (show Kd.M k23 _ _ _ (⟨a1_0, a1_1, a1_2, a1_3⟩ : S23) [.int .i64 a1_0, .int .i64 a1_1, .int .i64 a1_2, .int .i64 a1_3] from (k23_mkM _ _ _ (⟨a1_0, a1_1, a1_2, a1_3⟩ : S23) )) (Reps.none _ _)))
            intro v423 w13 ho14 hb hg_ hnew_
            clear hg_ hnew_
            (first | rw [← Ny422.out] at ho14 | (simp only [Int.reduceToNat] at ho14; rw [← Ny422.out] at ho14))
            have n0_ := Aside0.mk (Kd.R_elder' (by (with_reducible repeat (first | apply Kd.R_alloc | apply Kd.R_drewN | apply Kd.R_drew)); exact HO418.out) (Kd.R_base ho14) hb)
            have n1_ := Aside0.mk (Kd.R_lower (Kd.R_newB (Kd.R_new' ho14 (Kd.R_lt (by (with_reducible repeat (first | apply Kd.R_alloc | apply Kd.R_drewN | apply Kd.R_drew)); exact HO418.out))) (g := gb415) (o := .cells #[.int .i64 a1_0, .int .i64 a1_1, .int .i64 a1_2, .int .i64 a1_3] 23 (0, 0)) (by (with_reducible repeat (first | refine blk_drewN ?_ _ | refine blk_drew ?_ | refine blk_alloc ?_ _)); exact BK415.out)) (below_size (by repeat (first | (with_reducible first | exact HB.out | apply below_alloc | apply pw_below_drewN | apply below_drew1 | refine below_set ?_ GE415.out) | exact HB.out))))
            have n2_ := Aside0.mk (blk_below (g := gb415) (o := .cells #[.int .i64 a1_0, .int .i64 a1_1, .int .i64 a1_2, .int .i64 a1_3] 23 (0, 0)) (by (with_reducible repeat (first | refine blk_drewN ?_ _ | refine blk_drew ?_ | refine blk_alloc ?_ _)); exact BK415.out) hb)
            have n3_ := Aside0.mk (below_step (by repeat (first | (with_reducible first | exact HB.out | apply below_alloc | apply pw_below_drewN | apply below_drew1 | refine below_set ?_ GE415.out) | exact HB.out)) hb)
            clear HO418
            clear BK415
            clear HB
            have HO418 := n0_
            have HO424 := n1_
            have BK415 := n2_
            have HB := n3_
            clear n0_ n1_ n2_ n3_
            clear hb ho14
            refine hK.out _ _ ⟨(blk_cell BK415.out 0).trans rfl, (blk_cell BK415.out 1).trans rfl, (blk_cell BK415.out 2).trans rfl, (blk_cell BK415.out 3).trans rfl⟩ (fun hHeld => ?_)
            clear hK K
            refine norm_ (a' := ?_) ?_ ?_
            rotate_left
            · show Act.put _ (some 24) _ = _
              simp only [Act.put, List.setIfInBounds_toArray, List.set_cons_zero, List.set_cons_succ, i64_w, i32_w]
              rfl
            refine one_ (i := 2) (N := some 22) #[true, true, true, true, true, false, false] rfl rfl (by kernel_rfl) (by decide) (fun K hK => ?_)
            refine Kd.R_append_rows_step k23 (w0 := w) w.heap.size (by rfl) (.tmp 20) (.tmp 21) 24 23 (.agg #[(.int .i64 0), (.int .i64 0), (.int .i64 0), (.int .i64 0)]) 32 rfl Tryd.underlying24 info23 rfl (by decide) (by omega) v417 y416 l0 _ _ _ (fun k_ => some k_ ≠ (v423 : Value).ownBlock ∧ k_ ≠ gb415) (fun _ => False) rfl rfl ?aO ?aR (fun _ _ h => h) (fun _ h => h.elim) ?aF ?aB ?aS ?aL ?_
            (case aR => repeat (first | exact (Kd.C_below HR0.out HB.out) | (with_reducible refine Kd.C_alloc ?_ _) | (with_reducible refine Kd.C_drewN ?_ _) | (with_reducible refine Kd.C_drew ?_)))
            (case aB => exact (by repeat (first | (with_reducible first | exact HB.out | apply below_alloc | apply pw_below_drewN | apply below_drew1 | refine below_set ?_ GE415.out) | exact HB.out)))
            (case aF => exact (fun k_ hk => ⟨Kd.fresh' (Kd.R_lt (by (with_reducible repeat (first | apply Kd.R_alloc | apply Kd.R_drewN | apply Kd.R_drew)); exact HO424.out)) k_ hk, Kd.freshB (g := gb415) (o := .cells #[.int .i64 a1_0, .int .i64 a1_1, .int .i64 a1_2, .int .i64 a1_3] 23 (0, 0)) (by (with_reducible repeat (first | refine blk_drewN ?_ _ | refine blk_drew ?_ | refine blk_alloc ?_ _)); exact BK415.out) k_ hk⟩))
            (case aO => exact (by (with_reducible repeat (first | apply Kd.R_alloc | apply Kd.R_drewN | apply Kd.R_drew)); exact Kd.R_mono HO418.out (fun _ hk => ⟨hk.2, hk.1.2⟩)))
            (case aS => exact (below_size (by repeat (first | (with_reducible first | exact HB.out | apply below_alloc | apply pw_below_drewN | apply below_drew1 | refine below_set ?_ GE415.out) | exact HB.out))))
            (case aL => have := LMc4.out; omega)
            intro v420 w15 ho hb hg hat
            rw [← Ny419.out] at ho
            have n0_ := Aside0.mk (blk_grown (g := gb415) (o := .cells #[.int .i64 a1_0, .int .i64 a1_1, .int .i64 a1_2, .int .i64 a1_3] 23 (0, 0)) (by (with_reducible repeat (first | refine blk_drewN ?_ _ | refine blk_drew ?_ | refine blk_alloc ?_ _)); exact BK415.out) hg (Kd.R_away HO418.out (fun _ hk => hk.1.2)))
            have n1_ := Aside0.mk (Kd.R_after (ok := (fun k_ => k_ ≠ gb415)) (by (with_reducible repeat (first | apply Kd.R_alloc | apply Kd.R_drewN | apply Kd.R_drew)); exact Kd.R_mono HO424.out (fun _ hk => ⟨hk.2, hk.1.2⟩)) hg hat)
            have n2_ := Aside0.mk (hb)
            have n3_ := Aside0.mk (ho)
            clear BK415
            clear HO424
            clear HB
            clear HO418
            have BK415 := n0_
            have HO424 := n1_
            have HB := n2_
            have HO421 := n3_
            clear n0_ n1_ n2_ n3_
            clear ho hb hg hat
            refine hK.out _ _ ⟨(blk_cell BK415.out 0).trans rfl, (blk_cell BK415.out 1).trans rfl, (blk_cell BK415.out 2).trans rfl, (blk_cell BK415.out 3).trans rfl⟩ (fun hHeld => ?_)
            clear hK K
            refine norm_ (a' := ?_) ?_ ?_
            rotate_left
            · show Act.put _ (some 22) _ = _
              simp only [Act.put, List.setIfInBounds_toArray, List.set_cons_zero, List.set_cons_succ, i64_w, i32_w]
              rfl
            exact norm_ (by simp only [putAll, Act.put, List.setIfInBounds_toArray, List.set_cons_zero, List.set_cons_succ]) (hCont (v417, v420, v423) _ ⟨hHeld, (by (with_reducible repeat (first | apply Kd.R_alloc | apply Kd.R_drewN | apply Kd.R_drew)); exact HO421.out), (by (with_reducible repeat (first | apply Kd.R_alloc | apply Kd.R_drewN | apply Kd.R_drew)); exact Kd.R_mono HO424.out (fun _ hk => ⟨hk.2, hk.1⟩)), (by (with_reducible repeat (first | refine blk_drewN ?_ _ | refine blk_drew ?_ | refine blk_alloc ?_ _)); exact BK415.out), (by repeat (first | (with_reducible first | exact HB.out | apply below_alloc | apply pw_below_drewN | apply below_drew1 | refine below_set ?_ GE415.out) | exact HB.out))⟩)
        · skip
          refine Kd.R_lit_step k23 _ 23 ?hg (N := 24) ?hd (xs := ([(⟨a1_0, a1_1, a1_2, a1_3⟩ : S23)] : List (S23))) (inner := [.int .i64 a1_0, .int .i64 a1_1, .int .i64 a1_2, .int .i64 a1_3]) (ok := fun _ => True) (okp := fun _ => True) ?hr ?hp (fun _ hk => hk) trivial (Below.refl _ _) (Nat.le_refl _) (by simp) ?_; (case hd => rfl); (case hg => rfl); (case hr => first | (go_simp; done) | (go_simp; rfl)); (case hp => exact (Reps.c4 (show Kd.M k23 _ _ _ (⟨a1_0, a1_1, a1_2, a1_3⟩ : S23) [.int .i64 a1_0, .int .i64 a1_1, .int .i64 a1_2, .int .i64 a1_3] from (k23_mkM _ _ _ (⟨a1_0, a1_1, a1_2, a1_3⟩ : S23) )) (Reps.none _ _)))
          intro v423 w11 ho12 hb hg_ hnew_
          clear hg_ hnew_
          (first | rw [← Ny422.out] at ho12 | (simp only [Int.reduceToNat] at ho12; rw [← Ny422.out] at ho12))
          have n0_ := Aside0.mk (Kd.R_lower (Kd.R_newB ho12 (g := gb415) (o := .cells #[.int .i64 a1_0, .int .i64 a1_1, .int .i64 a1_2, .int .i64 a1_3] 23 (0, 0)) (by (with_reducible repeat (first | refine blk_drewN ?_ _ | refine blk_drew ?_ | refine blk_alloc ?_ _)); exact BK415.out)) (below_size (by repeat (first | (with_reducible first | exact HB.out | apply below_alloc | apply pw_below_drewN | apply below_drew1 | refine below_set ?_ GE415.out) | exact HB.out))))
          have n1_ := Aside0.mk (blk_below (g := gb415) (o := .cells #[.int .i64 a1_0, .int .i64 a1_1, .int .i64 a1_2, .int .i64 a1_3] 23 (0, 0)) (by (with_reducible repeat (first | refine blk_drewN ?_ _ | refine blk_drew ?_ | refine blk_alloc ?_ _)); exact BK415.out) hb)
          have n2_ := Aside0.mk (below_step (by repeat (first | (with_reducible first | exact HB.out | apply below_alloc | apply pw_below_drewN | apply below_drew1 | refine below_set ?_ GE415.out) | exact HB.out)) hb)
          clear BK415
          clear HB
          have HO424 := n0_
          have BK415 := n1_
          have HB := n2_
          clear n0_ n1_ n2_
          clear hb ho12
          refine hK.out _ _ ⟨(blk_cell BK415.out 0).trans rfl, (blk_cell BK415.out 1).trans rfl, (blk_cell BK415.out 2).trans rfl, (blk_cell BK415.out 3).trans rfl⟩ (fun hHeld => ?_)
          clear hK K
          refine norm_ (a' := ?_) ?_ ?_
          rotate_left
          · show Act.put _ (some 24) _ = _
            simp only [Act.put, List.setIfInBounds_toArray, List.set_cons_zero, List.set_cons_succ, i64_w, i32_w]
            rfl
          refine one_ (i := 0) (N := some 20) #[true, true, false, true, true, false, false] rfl rfl (by kernel_rfl) (by decide) (fun K hK => ?_)
          refine Kd.R_lit_step k23 _ 23 ?hg (N := 20) ?hd (xs := ([] : List (S23))) (inner := []) (ok := fun _ => True) (okp := fun _ => True) ?hr ?hp (fun _ hk => hk) trivial (Below.refl _ _) (Nat.le_refl _) (by simp) ?_; (case hd => rfl); (case hg => rfl); (case hr => first | (go_simp; done) | (go_simp; rfl)); (case hp => exact (Reps.none _ _))
          intro v417 w13 ho14 hb hg_ hnew_
          clear hg_ hnew_
          (first | rw [← Ny416.out] at ho14 | (simp only [Int.reduceToNat] at ho14; rw [← Ny416.out] at ho14))
          have n0_ := Aside0.mk (Kd.R_elder' (by (with_reducible repeat (first | apply Kd.R_alloc | apply Kd.R_drewN | apply Kd.R_drew)); exact HO424.out) (Kd.R_base ho14) hb)
          have n1_ := Aside0.mk (Kd.R_lower (Kd.R_newB (Kd.R_new' ho14 (Kd.R_lt (by (with_reducible repeat (first | apply Kd.R_alloc | apply Kd.R_drewN | apply Kd.R_drew)); exact HO424.out))) (g := gb415) (o := .cells #[.int .i64 a1_0, .int .i64 a1_1, .int .i64 a1_2, .int .i64 a1_3] 23 (0, 0)) (by (with_reducible repeat (first | refine blk_drewN ?_ _ | refine blk_drew ?_ | refine blk_alloc ?_ _)); exact BK415.out)) (below_size (by repeat (first | (with_reducible first | exact HB.out | apply below_alloc | apply pw_below_drewN | apply below_drew1 | refine below_set ?_ GE415.out) | exact HB.out))))
          have n2_ := Aside0.mk (blk_below (g := gb415) (o := .cells #[.int .i64 a1_0, .int .i64 a1_1, .int .i64 a1_2, .int .i64 a1_3] 23 (0, 0)) (by (with_reducible repeat (first | refine blk_drewN ?_ _ | refine blk_drew ?_ | refine blk_alloc ?_ _)); exact BK415.out) hb)
          have n3_ := Aside0.mk (below_step (by repeat (first | (with_reducible first | exact HB.out | apply below_alloc | apply pw_below_drewN | apply below_drew1 | refine below_set ?_ GE415.out) | exact HB.out)) hb)
          clear HO424
          clear BK415
          clear HB
          have HO424 := n0_
          have HO418 := n1_
          have BK415 := n2_
          have HB := n3_
          clear n0_ n1_ n2_ n3_
          clear hb ho14
          refine hK.out _ _ ⟨(blk_cell BK415.out 0).trans rfl, (blk_cell BK415.out 1).trans rfl, (blk_cell BK415.out 2).trans rfl, (blk_cell BK415.out 3).trans rfl⟩ (fun hHeld => ?_)
          clear hK K
          refine norm_ (a' := ?_) ?_ ?_
          rotate_left
          · show Act.put _ (some 20) _ = _
            simp only [Act.put, List.setIfInBounds_toArray, List.set_cons_zero, List.set_cons_succ, i64_w, i32_w]
            rfl
          refine one_ (i := 2) (N := some 22) #[true, true, true, true, true, false, false] rfl rfl (by kernel_rfl) (by decide) (fun K hK => ?_)
          refine Kd.R_append_rows_step k23 (w0 := w) w.heap.size (by rfl) (.tmp 20) (.tmp 21) 24 23 (.agg #[(.int .i64 0), (.int .i64 0), (.int .i64 0), (.int .i64 0)]) 32 rfl Tryd.underlying24 info23 rfl (by decide) (by omega) v417 y416 l0 _ _ _ (fun k_ => some k_ ≠ (v423 : Value).ownBlock ∧ k_ ≠ gb415) (fun _ => False) rfl rfl ?aO ?aR (fun _ _ h => h) (fun _ h => h.elim) ?aF ?aB ?aS ?aL ?_
          (case aR => repeat (first | exact (Kd.C_below HR0.out HB.out) | (with_reducible refine Kd.C_alloc ?_ _) | (with_reducible refine Kd.C_drewN ?_ _) | (with_reducible refine Kd.C_drew ?_)))
          (case aB => exact (by repeat (first | (with_reducible first | exact HB.out | apply below_alloc | apply pw_below_drewN | apply below_drew1 | refine below_set ?_ GE415.out) | exact HB.out)))
          (case aF => exact (fun k_ hk => ⟨Kd.fresh' (Kd.R_lt (by (with_reducible repeat (first | apply Kd.R_alloc | apply Kd.R_drewN | apply Kd.R_drew)); exact HO424.out)) k_ hk, Kd.freshB (g := gb415) (o := .cells #[.int .i64 a1_0, .int .i64 a1_1, .int .i64 a1_2, .int .i64 a1_3] 23 (0, 0)) (by (with_reducible repeat (first | refine blk_drewN ?_ _ | refine blk_drew ?_ | refine blk_alloc ?_ _)); exact BK415.out) k_ hk⟩))
          (case aO => exact (by (with_reducible repeat (first | apply Kd.R_alloc | apply Kd.R_drewN | apply Kd.R_drew)); exact Kd.R_mono HO418.out (fun _ hk => ⟨hk.1.2, hk.2⟩)))
          (case aS => exact (below_size (by repeat (first | (with_reducible first | exact HB.out | apply below_alloc | apply pw_below_drewN | apply below_drew1 | refine below_set ?_ GE415.out) | exact HB.out))))
          (case aL => have := LMc4.out; omega)
          intro v420 w15 ho hb hg hat
          rw [← Ny419.out] at ho
          have n0_ := Aside0.mk (blk_grown (g := gb415) (o := .cells #[.int .i64 a1_0, .int .i64 a1_1, .int .i64 a1_2, .int .i64 a1_3] 23 (0, 0)) (by (with_reducible repeat (first | refine blk_drewN ?_ _ | refine blk_drew ?_ | refine blk_alloc ?_ _)); exact BK415.out) hg (Kd.R_away HO418.out (fun _ hk => hk.2)))
          have n1_ := Aside0.mk (Kd.R_after (ok := (fun k_ => k_ ≠ gb415)) (by (with_reducible repeat (first | apply Kd.R_alloc | apply Kd.R_drewN | apply Kd.R_drew)); exact Kd.R_mono HO424.out (fun _ hk => ⟨hk.1.2, hk.2⟩)) hg hat)
          have n2_ := Aside0.mk (hb)
          have n3_ := Aside0.mk (ho)
          clear BK415
          clear HO424
          clear HB
          clear HO418
          have BK415 := n0_
          have HO424 := n1_
          have HB := n2_
          have HO421 := n3_
          clear n0_ n1_ n2_ n3_
          clear ho hb hg hat
          refine hK.out _ _ ⟨(blk_cell BK415.out 0).trans rfl, (blk_cell BK415.out 1).trans rfl, (blk_cell BK415.out 2).trans rfl, (blk_cell BK415.out 3).trans rfl⟩ (fun hHeld => ?_)
          clear hK K
          refine norm_ (a' := ?_) ?_ ?_
          rotate_left
          · show Act.put _ (some 22) _ = _
            simp only [Act.put, List.setIfInBounds_toArray, List.set_cons_zero, List.set_cons_succ, i64_w, i32_w]
            rfl
          exact norm_ (by simp only [putAll, Act.put, List.setIfInBounds_toArray, List.set_cons_zero, List.set_cons_succ]) (hCont (v417, v420, v423) _ ⟨hHeld, (by (with_reducible repeat (first | apply Kd.R_alloc | apply Kd.R_drewN | apply Kd.R_drew)); exact HO421.out), (by (with_reducible repeat (first | apply Kd.R_alloc | apply Kd.R_drewN | apply Kd.R_drew)); exact Kd.R_mono HO424.out (fun _ hk => ⟨hk.2, hk.1⟩)), (by (with_reducible repeat (first | refine blk_drewN ?_ _ | refine blk_drew ?_ | refine blk_alloc ?_ _)); exact BK415.out), (by repeat (first | (with_reducible first | exact HB.out | apply below_alloc | apply pw_below_drewN | apply below_drew1 | refine below_set ?_ GE415.out) | exact HB.out))⟩)
      rintro ⟨v417, v420, v423⟩ w16 ⟨hS_, h0_, h1_, h2_, h3_⟩
      have n0_ : Aside0 (Kd.R k23 23 w16 w.heap.size (fun k_ => some k_ ≠ (v423 : Value).ownBlock ∧ k_ ≠ gb415) v420 y419) := ⟨h0_⟩
      have n1_ : Aside0 (Kd.R k23 23 w16 w.heap.size (fun k_ => some k_ ≠ (v420 : Value).ownBlock ∧ k_ ≠ gb415) v423 y422) := ⟨h1_⟩
      have n2_ : Aside0 (w16.heap[gb415]? = some (.cells #[.int .i64 a1_0, .int .i64 a1_1, .int .i64 a1_2, .int .i64 a1_3] 23 (0, 0))) := ⟨h2_⟩
      have n3_ : Aside0 (Below w.heap.size w w16) := ⟨h3_⟩
      clear BK415
      clear HB
      clear h0_ h1_ h2_ h3_
      have HO421 := n0_
      have HO424 := n1_
      have BK415 := n2_
      have HB := n3_
      clear n0_ n1_ n2_ n3_
      have hHeld : w16.cell? ⟨gb415, 0, none⟩ = some (.int .i64 a1_0) ∧ w16.cell? ⟨gb415, 1, none⟩ = some (.int .i64 a1_1) ∧ w16.cell? ⟨gb415, 2, none⟩ = some (.int .i64 a1_2) ∧ w16.cell? ⟨gb415, 3, none⟩ = some (.int .i64 a1_3) := hS_
      obtain ⟨Ao18, co18, eo18⟩ := Kd.R_slice HO424.out
      (first | subst eo18 | (injection eo18 with f1_ f2_ f3_; have f4_ := f1_.symm; have f5_ := f3_.symm; clear f1_ f2_ f3_; subst f4_; subst f5_))
      refine norm_ (a' := ?_) ?_ ?_
      rotate_left
      · simp only [putAll, Act.put, List.setIfInBounds_toArray, List.set_cons_zero, List.set_cons_succ]
        rfl
      refine one_ (i := 5) (N := some 25) #[true, true, true, true, true, true, false] rfl rfl (by kernel_rfl) (by decide) (fun K hK => ?_)
      refine Kd.R_append_rows_step k23 (w0 := w) w.heap.size (by rfl) (.tmp 22) (.tmp 24) 24 23 (.agg #[(.int .i64 0), (.int .i64 0), (.int .i64 0), (.int .i64 0)]) 32 rfl Tryd.underlying24 info23 rfl (by decide) (by omega) v420 y419 y422 _ _ _ (fun k_ => some k_ ≠ (.slice Ao18 y422.length co18 : Value).ownBlock ∧ k_ ≠ gb415) (fun _ => False) rfl rfl ?aO ?aR (fun _ _ h => h) (fun _ h => h.elim) ?aF ?aB ?aS ?aL ?_
      (case aR => repeat (first | exact (Kd.R_reads' HO424.out).2.2 | (with_reducible refine Kd.C_alloc ?_ _) | (with_reducible refine Kd.C_drewN ?_ _) | (with_reducible refine Kd.C_drew ?_)))
      (case aB => exact (by repeat (first | (with_reducible first | exact HB.out | apply below_alloc | apply pw_below_drewN | apply below_drew1 | refine below_set ?_ GE415.out) | exact HB.out)))
      (case aF => exact (fun k_ hk => ⟨Kd.fresh' (Kd.R_lt (by (with_reducible repeat (first | apply Kd.R_alloc | apply Kd.R_drewN | apply Kd.R_drew)); exact HO424.out)) k_ hk, Kd.freshB (g := gb415) (o := .cells #[.int .i64 a1_0, .int .i64 a1_1, .int .i64 a1_2, .int .i64 a1_3] 23 (0, 0)) (by (with_reducible repeat (first | refine blk_drewN ?_ _ | refine blk_drew ?_ | refine blk_alloc ?_ _)); exact BK415.out) k_ hk⟩))
      (case aO => exact (by (with_reducible repeat (first | apply Kd.R_alloc | apply Kd.R_drewN | apply Kd.R_drew)); exact HO421.out))
      (case aS => exact (below_size (by repeat (first | (with_reducible first | exact HB.out | apply below_alloc | apply pw_below_drewN | apply below_drew1 | refine below_set ?_ GE415.out) | exact HB.out))))
      (case aL => have := LMc5.out; omega)
      intro v426 w17 ho hb hg hat
      rw [← Ny425.out] at ho
      have n0_ := Aside0.mk (blk_grown (g := gb415) (o := .cells #[.int .i64 a1_0, .int .i64 a1_1, .int .i64 a1_2, .int .i64 a1_3] 23 (0, 0)) (by (with_reducible repeat (first | refine blk_drewN ?_ _ | refine blk_drew ?_ | refine blk_alloc ?_ _)); exact BK415.out) hg (Kd.R_away HO421.out (fun _ hk => hk.2)))
      have n1_ := Aside0.mk (Kd.R_after (ok := (fun k_ => k_ ≠ gb415)) (by (with_reducible repeat (first | apply Kd.R_alloc | apply Kd.R_drewN | apply Kd.R_drew)); exact Kd.R_mono HO424.out (fun _ hk => ⟨hk.2, hk.1⟩)) hg hat)
      have n2_ := Aside0.mk (hb)
      have n3_ := Aside0.mk (ho)
      clear BK415
      clear HO424
      clear HB
      clear HO421
      have BK415 := n0_
      have HO424 := n1_
      have HB := n2_
      have HO427 := n3_
      clear n0_ n1_ n2_ n3_
      clear ho hb hg hat
      refine hK.out _ _ ⟨(blk_cell BK415.out 0).trans rfl, (blk_cell BK415.out 1).trans rfl, (blk_cell BK415.out 2).trans rfl, (blk_cell BK415.out 3).trans rfl⟩ (fun hHeld => ?_)
      clear hK K
      refine norm_ (a' := ?_) ?_ ?_
      rotate_left
      · show Act.put _ (some 25) _ = _
        simp only [Act.put, List.setIfInBounds_toArray, List.set_cons_zero, List.set_cons_succ, i64_w, i32_w]
        rfl
      refine pure_ (i := 6) (N := some 7) (v := ?_) (a' := ?_) #[true, true, true, true, true, true, true] rfl rfl (by kernel_rfl) (fun _ _ _ h => h) (Or.inl ⟨by rfl, ?_⟩) ?_ ?_
      rotate_left
      · intro w'
        go_simp
        with_reducible rfl
      rotate_left
      · simp only [Act.put, List.setIfInBounds_toArray, List.set_cons_zero, List.set_cons_succ, i64_w, i32_w]
        rfl
      refine done_ (by kernel_rfl) ?_
      go_upto_region 4 with (first | ((with_reducible refine gate_callee (f := 16) rfl ?_); refine goesL_ (some 29) rfl rfl Tryd.func16 (by kernel_rfl) rfl #[.slice A0 l0.length c0, .int .i64 a2] rfl (by (try simp only [List.map_toArray, List.map_cons, List.map_nil]); first | done | rfl | (simp only [List.length_drop, List.length_take]; rfl)) ?_; (with_reducible refine (incident_Lost.calls k _ _ l0 a2 t428 t429 _ ?side1 ?side2 A6.out).mono ?_); (case side1 => repeat (first | exact (Kd.C_below HR0.out HB.out) | (with_reducible refine Kd.C_alloc ?_ _) | (with_reducible refine Kd.C_drewN ?_ _) | (with_reducible refine Kd.C_drew ?_))); (case side2 => exact HC0.out); rintro e w19 ⟨rfl, hb⟩; refine ⟨_, rfl, ?_⟩; have n0_ := Aside0.mk (Kd.R_below (by (with_reducible repeat (first | apply Kd.R_alloc | apply Kd.R_drewN | apply Kd.R_drew)); exact HO424.out) hb); have n1_ := Aside0.mk (Kd.R_below (by (with_reducible repeat (first | apply Kd.R_alloc | apply Kd.R_drewN | apply Kd.R_drew)); exact HO427.out) hb); have n2_ := Aside0.mk (blk_below (g := gb415) (o := .cells #[.int .i64 a1_0, .int .i64 a1_1, .int .i64 a1_2, .int .i64 a1_3] 23 (0, 0)) (by (with_reducible repeat (first | refine blk_drewN ?_ _ | refine blk_drew ?_ | refine blk_alloc ?_ _)); exact BK415.out) hb); have n3_ := Aside0.mk (below_step (by repeat (first | (with_reducible first | exact HB.out | apply below_alloc | apply pw_below_drewN | apply below_drew1 | refine below_set ?_ GE415.out) | exact HB.out)) hb); clear HO424; clear HO427; clear BK415; clear HB; have HO424 := n0_; have HO427 := n1_; have BK415 := n2_; have HB := n3_; clear n0_ n1_ n2_ n3_; (try clear hb); (try clear hb2); (try clear hk); (try clear hi); obtain ⟨Ao20, co20, eo20⟩ := Kd.R_slice HO427.out; subst eo20) | ((with_reducible refine gate_callee (f := 16) rfl ?_); refine goesL_ (some 35) rfl rfl Tryd.func16 (by kernel_rfl) rfl #[.slice Ao20 y425.length co20, .int .i64 a2] rfl (by (try simp only [List.map_toArray, List.map_cons, List.map_nil]); first | done | rfl | (simp only [List.length_drop, List.length_take]; rfl)) ?_; (with_reducible refine (incident_Lost.calls k _ _ y425 a2 t430 t431 _ ?side1 ?side2 A7.out).mono ?_); (case side1 => repeat (first | exact (Kd.R_reads' HO427.out).2.2 | (with_reducible refine Kd.C_alloc ?_ _) | (with_reducible refine Kd.C_drewN ?_ _) | (with_reducible refine Kd.C_drew ?_))); (case side2 => exact (Kd.R_reads' HO427.out).2.1); rintro e w21 ⟨rfl, hb⟩; refine ⟨_, rfl, ?_⟩; have n0_ := Aside0.mk (Kd.R_below (by (with_reducible repeat (first | apply Kd.R_alloc | apply Kd.R_drewN | apply Kd.R_drew)); exact HO424.out) hb); have n1_ := Aside0.mk (Kd.R_below (by (with_reducible repeat (first | apply Kd.R_alloc | apply Kd.R_drewN | apply Kd.R_drew)); exact HO427.out) hb); have n2_ := Aside0.mk (blk_below (g := gb415) (o := .cells #[.int .i64 a1_0, .int .i64 a1_1, .int .i64 a1_2, .int .i64 a1_3] 23 (0, 0)) (by (with_reducible repeat (first | refine blk_drewN ?_ _ | refine blk_drew ?_ | refine blk_alloc ?_ _)); exact BK415.out) hb); have n3_ := Aside0.mk (below_step (by repeat (first | (with_reducible first | exact HB.out | apply below_alloc | apply pw_below_drewN | apply below_drew1 | refine below_set ?_ GE415.out) | exact HB.out)) hb); clear HO424; clear HO427; clear BK415; clear HB; have HO424 := n0_; have HO427 := n1_; have BK415 := n2_; have HB := n3_; clear n0_ n1_ n2_ n3_; (try clear hb); (try clear hb2); (try clear hk); (try clear hi)))
      (try simp only [Act.put, List.setIfInBounds_toArray, List.set_cons_zero, List.set_cons_succ])
      go_cut [43] (fun v43 wc => ∃ (kq : Nat) (x43_7 : Bool), v43 = .bool x43_7 ∧ Aside0 (examboardlaw50_IncidentMore.j0 kq l0 a2 y425 t428 t430 x43_7 a1_0 a1_1 a1_2 a1_3 = some r) ∧ Aside0 (kq ≤ k) ∧ Aside0 (Kd.R k23 23 wc w.heap.size (fun k_ => k_ ≠ gb415) (.slice Ao20 y425.length co20) y425) ∧ Aside0 (wc.heap[gb415]? = some (.cells #[.int .i64 a1_0, .int .i64 a1_1, .int .i64 a1_2, .int .i64 a1_3] 23 (0, 0))) ∧ Aside0 (Below w.heap.size w wc))
      case first =>
        have H := HC8.out
        clear HC8
        by_cases c22 : t429 = 0
        · rw [if_pos c22] at H
          have c22b0 : (t429 == 0) = true := beq_iff_eq.mpr c22
          have c22b1 : (t429 != 0) = false := bne_eq_false_iff_eq.mpr c22
          clear c22
          (first | rw [c22b0] | (simp only [i64_w, i32_w]; rw [c22b0]) | skip)
          have H' := Aside0.mk H
          clear H
          go_wp2
          go_meet
          case rel => exact ⟨_, ((t431 != 0)), (by first | rfl | (simp; done) | (simp [*]; done)), H', ⟨by first | omega | exact Nat.le_refl _⟩, ⟨by (with_reducible repeat (first | apply Kd.R_alloc | apply Kd.R_drewN | apply Kd.R_drew)); exact Kd.R_mono HO427.out (fun _ hk => hk.2)⟩, ⟨by (with_reducible repeat (first | refine blk_drewN ?_ _ | refine blk_drew ?_ | refine blk_alloc ?_ _)); exact BK415.out⟩, ⟨by repeat (first | (with_reducible first | exact HB.out | apply below_alloc | apply pw_below_drewN | apply below_drew1 | refine below_set ?_ GE415.out) | exact HB.out)⟩⟩
        · rw [if_neg c22] at H
          have c22b0 : (t429 == 0) = false := beq_eq_false_iff_ne.mpr c22
          have c22b1 : (t429 != 0) = true := bne_iff_ne.mpr c22
          (first | rw [c22b0] | (simp only [i64_w, i32_w]; rw [c22b0]) | skip)
          have H' := Aside0.mk H
          clear H
          go_wp2
          go_meet
          case rel => exact ⟨_, (true), (by first | rfl | (simp; done) | (simp [*]; done)), H', ⟨by first | omega | exact Nat.le_refl _⟩, ⟨by (with_reducible repeat (first | apply Kd.R_alloc | apply Kd.R_drewN | apply Kd.R_drew)); exact Kd.R_mono HO427.out (fun _ hk => hk.2)⟩, ⟨by (with_reducible repeat (first | refine blk_drewN ?_ _ | refine blk_drew ?_ | refine blk_alloc ?_ _)); exact BK415.out⟩, ⟨by repeat (first | (with_reducible first | exact HB.out | apply below_alloc | apply pw_below_drewN | apply below_drew1 | refine below_set ?_ GE415.out) | exact HB.out)⟩⟩
      case rest =>
        clear HC8
        try clear c1
        try clear c2
        try clear p2
        try clear c4
        try clear c5
        try clear c9
        try clear c16
        try clear c22
        try clear c22b0
        try clear c22b1
        obtain ⟨kq, x43_7, rfl, HA, HJ7, HO_7, BK415, HB⟩ := hcut
        cases kq with
        | zero => exact absurd HA.out (by simp [examboardlaw50_IncidentMore.j0])
        | succ kj7 =>
          have H := HA.out
          clear HA
          simp only [examboardlaw50_IncidentMore.j0] at H
          by_cases c23 : x43_7 = true
          · subst c23
            have H1 : ((awake.f).bind fun t432 => (some t432)) = some r := by rw [if_pos rfl] at H; exact H
            clear H
            have H := H1
            clear H1
            replace H := Option.bind_eq_some_iff.mp H
            obtain ⟨t432, A240, H⟩ := H
            replace H : (some t432) = some r := H
            have A24 := Aside0.mk A240
            clear A240
            obtain rfl := Option.some.inj H
            go_wp2_with (first | ((with_reducible refine gate_callee (f := 15) rfl ?_); refine goesL_ (some 44) rfl rfl Tryd.func15 (by kernel_rfl) rfl #[] rfl (by (try simp only [List.map_toArray, List.map_cons, List.map_nil]); first | done | rfl | (simp only [List.length_drop, List.length_take]; rfl)) ?_; (with_reducible refine (awake.calls  t432 _ A24.out (hG.below (by repeat (first | (with_reducible first | exact HB.out | apply below_alloc | apply pw_below_drewN | apply below_drew1 | refine below_set ?_ GE415.out) | exact HB.out)))).mono ?_); rintro e w25 ⟨rfl, hb⟩; refine ⟨_, rfl, ?_⟩; have n0_ := Aside0.mk (Kd.R_below (by (with_reducible repeat (first | apply Kd.R_alloc | apply Kd.R_drewN | apply Kd.R_drew)); exact HO_7.out) hb); have n1_ := Aside0.mk (blk_below (g := gb415) (o := .cells #[.int .i64 a1_0, .int .i64 a1_1, .int .i64 a1_2, .int .i64 a1_3] 23 (0, 0)) (by (with_reducible repeat (first | refine blk_drewN ?_ _ | refine blk_drew ?_ | refine blk_alloc ?_ _)); exact BK415.out) hb); have n2_ := Aside0.mk (below_step (by repeat (first | (with_reducible first | exact HB.out | apply below_alloc | apply pw_below_drewN | apply below_drew1 | refine below_set ?_ GE415.out) | exact HB.out)) hb); clear HO_7; clear BK415; clear HB; have HO_7 := n0_; have BK415 := n1_; have HB := n2_; clear n0_ n1_ n2_; (try clear hb); (try clear hb2); (try clear hk); (try clear hi)))
            go_ret
            exact ⟨by first | rfl | (simp [errW_none, errW_some] <;> rfl) | (simp [*, errW_none, errW_some] <;> rfl), by repeat (first | (with_reducible first | exact HB.out | apply below_alloc | apply pw_below_drewN | apply below_drew1 | refine below_set ?_ GE415.out) | exact HB.out)⟩
          · replace c23 := Bool.eq_false_iff.mpr c23
            subst c23
            have H1 : ((incident_Worst.f kj7 l0).bind fun bt433 => ((incident_Worst.f kj7 y425).bind fun bt435 => (if bt433.2 = 0 then (if bt435.2 = 0 then (if t428 > t430 then (examboardlaw50_IncidentMore.j1 kj7 l0 y425 true a1_0 a1_1 a1_2 a1_3) else (if bt433.1 > bt435.1 then (examboardlaw50_IncidentMore.j1 kj7 l0 y425 true a1_0 a1_1 a1_2 a1_3) else (if bt435.1 < a1_3 then (examboardlaw50_IncidentMore.j1 kj7 l0 y425 true a1_0 a1_1 a1_2 a1_3) else (if t430 < 0 then (examboardlaw50_IncidentMore.j1 kj7 l0 y425 true a1_0 a1_1 a1_2 a1_3) else (examboardlaw50_IncidentMore.j1 kj7 l0 y425 (decide (t430 > (mx a2 0))) a1_0 a1_1 a1_2 a1_3))))) else (examboardlaw50_IncidentMore.j1 kj7 l0 y425 true a1_0 a1_1 a1_2 a1_3)) else (examboardlaw50_IncidentMore.j1 kj7 l0 y425 true a1_0 a1_1 a1_2 a1_3)))) = some r := by rw [if_neg (show ¬ (false = true) by decide)] at H; exact H
            clear H
            have H := H1
            clear H1
            replace H := Option.bind_eq_some_iff.mp H
            obtain ⟨⟨t433, t434⟩, A260, H⟩ := H
            replace H : ((incident_Worst.f kj7 y425).bind fun bt435 => (if t434 = 0 then (if bt435.2 = 0 then (if t428 > t430 then (examboardlaw50_IncidentMore.j1 kj7 l0 y425 true a1_0 a1_1 a1_2 a1_3) else (if t433 > bt435.1 then (examboardlaw50_IncidentMore.j1 kj7 l0 y425 true a1_0 a1_1 a1_2 a1_3) else (if bt435.1 < a1_3 then (examboardlaw50_IncidentMore.j1 kj7 l0 y425 true a1_0 a1_1 a1_2 a1_3) else (if t430 < 0 then (examboardlaw50_IncidentMore.j1 kj7 l0 y425 true a1_0 a1_1 a1_2 a1_3) else (examboardlaw50_IncidentMore.j1 kj7 l0 y425 (decide (t430 > (mx a2 0))) a1_0 a1_1 a1_2 a1_3))))) else (examboardlaw50_IncidentMore.j1 kj7 l0 y425 true a1_0 a1_1 a1_2 a1_3)) else (examboardlaw50_IncidentMore.j1 kj7 l0 y425 true a1_0 a1_1 a1_2 a1_3))) = some r := H
            have A26 := Aside0.mk A260
            clear A260
            replace H := Option.bind_eq_some_iff.mp H
            obtain ⟨⟨t435, t436⟩, A270, H⟩ := H
            replace H : (if t434 = 0 then (if t436 = 0 then (if t428 > t430 then (examboardlaw50_IncidentMore.j1 kj7 l0 y425 true a1_0 a1_1 a1_2 a1_3) else (if t433 > t435 then (examboardlaw50_IncidentMore.j1 kj7 l0 y425 true a1_0 a1_1 a1_2 a1_3) else (if t435 < a1_3 then (examboardlaw50_IncidentMore.j1 kj7 l0 y425 true a1_0 a1_1 a1_2 a1_3) else (if t430 < 0 then (examboardlaw50_IncidentMore.j1 kj7 l0 y425 true a1_0 a1_1 a1_2 a1_3) else (examboardlaw50_IncidentMore.j1 kj7 l0 y425 (decide (t430 > (mx a2 0))) a1_0 a1_1 a1_2 a1_3))))) else (examboardlaw50_IncidentMore.j1 kj7 l0 y425 true a1_0 a1_1 a1_2 a1_3)) else (examboardlaw50_IncidentMore.j1 kj7 l0 y425 true a1_0 a1_1 a1_2 a1_3)) = some r := H
            have A27 := Aside0.mk A270
            clear A270
            have HC28 := Aside0.mk H
            clear H
            go_upto_region 8 with (first | ((with_reducible refine gate_callee (f := 18) rfl ?_); refine goesL_ (some 47) rfl rfl Tryd.func18 (by kernel_rfl) rfl #[.slice A0 l0.length c0] rfl (by (try simp only [List.map_toArray, List.map_cons, List.map_nil]); first | done | rfl | (simp only [List.length_drop, List.length_take]; rfl)) ?_; (with_reducible refine (incident_Worst.calls kj7 _ _ l0 t433 t434 _ ?side1 ?side2 A26.out).mono ?_); (case side1 => repeat (first | exact (Kd.C_below HR0.out HB.out) | (with_reducible refine Kd.C_alloc ?_ _) | (with_reducible refine Kd.C_drewN ?_ _) | (with_reducible refine Kd.C_drew ?_))); (case side2 => exact HC0.out); rintro e w29 ⟨rfl, hb⟩; refine ⟨_, rfl, ?_⟩; have n0_ := Aside0.mk (Kd.R_below (by (with_reducible repeat (first | apply Kd.R_alloc | apply Kd.R_drewN | apply Kd.R_drew)); exact HO_7.out) hb); have n1_ := Aside0.mk (blk_below (g := gb415) (o := .cells #[.int .i64 a1_0, .int .i64 a1_1, .int .i64 a1_2, .int .i64 a1_3] 23 (0, 0)) (by (with_reducible repeat (first | refine blk_drewN ?_ _ | refine blk_drew ?_ | refine blk_alloc ?_ _)); exact BK415.out) hb); have n2_ := Aside0.mk (below_step (by repeat (first | (with_reducible first | exact HB.out | apply below_alloc | apply pw_below_drewN | apply below_drew1 | refine below_set ?_ GE415.out) | exact HB.out)) hb); clear HO_7; clear BK415; clear HB; have HO_7 := n0_; have BK415 := n1_; have HB := n2_; clear n0_ n1_ n2_; (try clear hb); (try clear hb2); (try clear hk); (try clear hi)) | ((with_reducible refine gate_callee (f := 18) rfl ?_); refine goesL_ (some 52) rfl rfl Tryd.func18 (by kernel_rfl) rfl #[.slice Ao20 y425.length co20] rfl (by (try simp only [List.map_toArray, List.map_cons, List.map_nil]); first | done | rfl | (simp only [List.length_drop, List.length_take]; rfl)) ?_; (with_reducible refine (incident_Worst.calls kj7 _ _ y425 t435 t436 _ ?side1 ?side2 A27.out).mono ?_); (case side1 => repeat (first | exact (Kd.R_reads' HO_7.out).2.2 | (with_reducible refine Kd.C_alloc ?_ _) | (with_reducible refine Kd.C_drewN ?_ _) | (with_reducible refine Kd.C_drew ?_))); (case side2 => exact (Kd.R_reads' HO_7.out).2.1); rintro e w30 ⟨rfl, hb⟩; refine ⟨_, rfl, ?_⟩; have n0_ := Aside0.mk (Kd.R_below (by (with_reducible repeat (first | apply Kd.R_alloc | apply Kd.R_drewN | apply Kd.R_drew)); exact HO_7.out) hb); have n1_ := Aside0.mk (blk_below (g := gb415) (o := .cells #[.int .i64 a1_0, .int .i64 a1_1, .int .i64 a1_2, .int .i64 a1_3] 23 (0, 0)) (by (with_reducible repeat (first | refine blk_drewN ?_ _ | refine blk_drew ?_ | refine blk_alloc ?_ _)); exact BK415.out) hb); have n2_ := Aside0.mk (below_step (by repeat (first | (with_reducible first | exact HB.out | apply below_alloc | apply pw_below_drewN | apply below_drew1 | refine below_set ?_ GE415.out) | exact HB.out)) hb); clear HO_7; clear BK415; clear HB; have HO_7 := n0_; have BK415 := n1_; have HB := n2_; clear n0_ n1_ n2_; (try clear hb); (try clear hb2); (try clear hk); (try clear hi)))
            (try simp only [Act.put, List.setIfInBounds_toArray, List.set_cons_zero, List.set_cons_succ])
            go_cut [86] (fun v86 wc => ∃ (kq : Nat) (x86_27 : Bool), v86 = .bool x86_27 ∧ Aside0 (examboardlaw50_IncidentMore.j1 kq l0 y425 x86_27 a1_0 a1_1 a1_2 a1_3 = some r) ∧ Aside0 (kq ≤ kj7) ∧ Aside0 (Kd.R k23 23 wc w.heap.size (fun k_ => k_ ≠ gb415) (.slice Ao20 y425.length co20) y425) ∧ Aside0 (wc.heap[gb415]? = some (.cells #[.int .i64 a1_0, .int .i64 a1_1, .int .i64 a1_2, .int .i64 a1_3] 23 (0, 0))) ∧ Aside0 (Below w.heap.size w wc))
            case first =>
              have H := HC28.out
              clear HC28
              by_cases c31 : t434 = 0
              · rw [if_pos c31] at H
                have c31b0 : (t434 == 0) = true := beq_iff_eq.mpr c31
                have c31b1 : (t434 != 0) = false := bne_eq_false_iff_eq.mpr c31
                clear c31
                (first | rw [c31b0] | (simp only [i64_w, i32_w]; rw [c31b0]) | skip)
                by_cases c32 : t436 = 0
                · rw [if_pos c32] at H
                  have c32b0 : (t436 == 0) = true := beq_iff_eq.mpr c32
                  have c32b1 : (t436 != 0) = false := bne_eq_false_iff_eq.mpr c32
                  clear c32
                  by_cases c33 : t428 > t430
                  · rw [if_pos c33] at H
                    have c33b0 : decide (t430 < t428) = true := decide_eq_true c33
                    clear c33
                    have H' := Aside0.mk H
                    clear H
                    go_wp2
                    go_meet
                    case rel => exact ⟨_, (true), (by first | rfl | (simp; done) | (simp [*]; done)), H', ⟨by have := HJ7.out; first | omega | exact Nat.le_refl _⟩, ⟨by (with_reducible repeat (first | apply Kd.R_alloc | apply Kd.R_drewN | apply Kd.R_drew)); exact HO_7.out⟩, ⟨by (with_reducible repeat (first | refine blk_drewN ?_ _ | refine blk_drew ?_ | refine blk_alloc ?_ _)); exact BK415.out⟩, ⟨by repeat (first | (with_reducible first | exact HB.out | apply below_alloc | apply pw_below_drewN | apply below_drew1 | refine below_set ?_ GE415.out) | exact HB.out)⟩⟩
                  · rw [if_neg c33] at H
                    have c33b0 : decide (t430 < t428) = false := decide_eq_false c33
                    clear c33
                    by_cases c34 : t433 > t435
                    · rw [if_pos c34] at H
                      have c34b0 : decide (t435 < t433) = true := decide_eq_true c34
                      clear c34
                      have H' := Aside0.mk H
                      clear H
                      go_wp2
                      go_meet
                      case rel => exact ⟨_, (true), (by first | rfl | (simp; done) | (simp [*]; done)), H', ⟨by have := HJ7.out; first | omega | exact Nat.le_refl _⟩, ⟨by (with_reducible repeat (first | apply Kd.R_alloc | apply Kd.R_drewN | apply Kd.R_drew)); exact HO_7.out⟩, ⟨by (with_reducible repeat (first | refine blk_drewN ?_ _ | refine blk_drew ?_ | refine blk_alloc ?_ _)); exact BK415.out⟩, ⟨by repeat (first | (with_reducible first | exact HB.out | apply below_alloc | apply pw_below_drewN | apply below_drew1 | refine below_set ?_ GE415.out) | exact HB.out)⟩⟩
                    · rw [if_neg c34] at H
                      have c34b0 : decide (t435 < t433) = false := decide_eq_false c34
                      clear c34
                      by_cases c35 : t435 < a1_3
                      · rw [if_pos c35] at H
                        have c35b0 : decide (t435 < a1_3) = true := decide_eq_true c35
                        clear c35
                        have H' := Aside0.mk H
                        clear H
                        have hcz36_0 : w30.cell? ⟨gb415, 0, none⟩ = some (.int .i64 a1_0) := (blk_cell BK415.out 0).trans rfl
                        have hcz36_1 : w30.cell? ⟨gb415, 1, none⟩ = some (.int .i64 a1_1) := (blk_cell BK415.out 1).trans rfl
                        have hcz36_2 : w30.cell? ⟨gb415, 2, none⟩ = some (.int .i64 a1_2) := (blk_cell BK415.out 2).trans rfl
                        have hcz36_3 : w30.cell? ⟨gb415, 3, none⟩ = some (.int .i64 a1_3) := (blk_cell BK415.out 3).trans rfl
                        have hfz36_0 := blk_frozen BK415.out 0
                        have hfz36_1 := blk_frozen BK415.out 1
                        have hfz36_2 := blk_frozen BK415.out 2
                        have hfz36_3 := blk_frozen BK415.out 3
                        go_wp2
                        go_meet
                        case rel => exact ⟨_, (true), (by first | rfl | (simp; done) | (simp [*]; done)), H', ⟨by have := HJ7.out; first | omega | exact Nat.le_refl _⟩, ⟨by (with_reducible repeat (first | apply Kd.R_alloc | apply Kd.R_drewN | apply Kd.R_drew)); exact HO_7.out⟩, ⟨by (with_reducible repeat (first | refine blk_drewN ?_ _ | refine blk_drew ?_ | refine blk_alloc ?_ _)); exact BK415.out⟩, ⟨by repeat (first | (with_reducible first | exact HB.out | apply below_alloc | apply pw_below_drewN | apply below_drew1 | refine below_set ?_ GE415.out) | exact HB.out)⟩⟩
                      · rw [if_neg c35] at H
                        have c35b0 : decide (t435 < a1_3) = false := decide_eq_false c35
                        clear c35
                        by_cases c37 : t430 < 0
                        · rw [if_pos c37] at H
                          have c37b0 : decide (t430 < 0) = true := decide_eq_true c37
                          clear c37
                          have H' := Aside0.mk H
                          clear H
                          have hcz38_0 : w30.cell? ⟨gb415, 0, none⟩ = some (.int .i64 a1_0) := (blk_cell BK415.out 0).trans rfl
                          have hcz38_1 : w30.cell? ⟨gb415, 1, none⟩ = some (.int .i64 a1_1) := (blk_cell BK415.out 1).trans rfl
                          have hcz38_2 : w30.cell? ⟨gb415, 2, none⟩ = some (.int .i64 a1_2) := (blk_cell BK415.out 2).trans rfl
                          have hcz38_3 : w30.cell? ⟨gb415, 3, none⟩ = some (.int .i64 a1_3) := (blk_cell BK415.out 3).trans rfl
                          have hfz38_0 := blk_frozen BK415.out 0
                          have hfz38_1 := blk_frozen BK415.out 1
                          have hfz38_2 := blk_frozen BK415.out 2
                          have hfz38_3 := blk_frozen BK415.out 3
                          go_wp2
                          go_meet
                          case rel => exact ⟨_, (true), (by first | rfl | (simp; done) | (simp [*]; done)), H', ⟨by have := HJ7.out; first | omega | exact Nat.le_refl _⟩, ⟨by (with_reducible repeat (first | apply Kd.R_alloc | apply Kd.R_drewN | apply Kd.R_drew)); exact HO_7.out⟩, ⟨by (with_reducible repeat (first | refine blk_drewN ?_ _ | refine blk_drew ?_ | refine blk_alloc ?_ _)); exact BK415.out⟩, ⟨by repeat (first | (with_reducible first | exact HB.out | apply below_alloc | apply pw_below_drewN | apply below_drew1 | refine below_set ?_ GE415.out) | exact HB.out)⟩⟩
                        · rw [if_neg c37] at H
                          have c37b0 : decide (t430 < 0) = false := decide_eq_false c37
                          clear c37
                          obtain ⟨ji39, hji39⟩ : ∃ j_ : Int, (mx a2 0) = j_ := ⟨_, rfl⟩
                          replace H : (examboardlaw50_IncidentMore.j1 kj7 l0 y425 (decide (t430 > (ji39))) a1_0 a1_1 a1_2 a1_3) = some r := by first | (rw [hji39] at H; exact H) | (simp only [hji39] at H ⊢; exact H)
                          have hji39_ : (if a2 < 0 then 0 else a2) = ji39 := hji39
                          have H' := Aside0.mk H
                          clear H
                          have hcz40_0 : w30.cell? ⟨gb415, 0, none⟩ = some (.int .i64 a1_0) := (blk_cell BK415.out 0).trans rfl
                          have hcz40_1 : w30.cell? ⟨gb415, 1, none⟩ = some (.int .i64 a1_1) := (blk_cell BK415.out 1).trans rfl
                          have hcz40_2 : w30.cell? ⟨gb415, 2, none⟩ = some (.int .i64 a1_2) := (blk_cell BK415.out 2).trans rfl
                          have hcz40_3 : w30.cell? ⟨gb415, 3, none⟩ = some (.int .i64 a1_3) := (blk_cell BK415.out 3).trans rfl
                          have hfz40_0 := blk_frozen BK415.out 0
                          have hfz40_1 := blk_frozen BK415.out 1
                          have hfz40_2 := blk_frozen BK415.out 2
                          have hfz40_3 := blk_frozen BK415.out 3
                          go_wp2
                          go_meet
                          case rel => exact ⟨_, (decide (t430 > (ji39))), (by first | rfl | (simp; done) | (simp only [← hji39] <;> (first | rfl | simp)) | (simp [*]; done)), H', ⟨by have := HJ7.out; first | omega | exact Nat.le_refl _⟩, ⟨by (with_reducible repeat (first | apply Kd.R_alloc | apply Kd.R_drewN | apply Kd.R_drew)); exact HO_7.out⟩, ⟨by (with_reducible repeat (first | refine blk_drewN ?_ _ | refine blk_drew ?_ | refine blk_alloc ?_ _)); exact BK415.out⟩, ⟨by repeat (first | (with_reducible first | exact HB.out | apply below_alloc | apply pw_below_drewN | apply below_drew1 | refine below_set ?_ GE415.out) | exact HB.out)⟩⟩
                · rw [if_neg c32] at H
                  first | exact absurd (hr.symm.trans (mj1 H)) (by decide) | exact absurd (hr.symm.trans (mj2 H)) (by decide) | exact absurd (hr.symm.trans (mj3 H)) (by decide)
              · rw [if_neg c31] at H
                first | exact absurd (hr.symm.trans (mj1 H)) (by decide) | exact absurd (hr.symm.trans (mj2 H)) (by decide) | exact absurd (hr.symm.trans (mj3 H)) (by decide)
            case rest =>
              clear HC28
              try clear c1
              try clear c2
              try clear p2
              try clear c3
              try clear c4
              try clear c5
              try clear c9
              try clear c15
              try clear c16
              try clear c18
              try clear c22
              try clear c22b0
              try clear c22b1
              try clear c23
              try clear c31
              try clear c31b0
              try clear c31b1
              try clear c32
              try clear c32b0
              try clear c32b1
              try clear c33
              try clear c33b0
              try clear c34
              try clear c34b0
              try clear c35
              try clear c35b0
              try clear c37
              try clear c37b0
              try clear hcz36_0
              try clear hcz36_1
              try clear hcz36_2
              try clear hcz36_3
              try clear hcz38_0
              try clear hcz38_1
              try clear hcz38_2
              try clear hcz38_3
              try clear hcz40_0
              try clear hcz40_1
              try clear hcz40_2
              try clear hcz40_3
              try clear hfz36_0
              try clear hfz36_1
              try clear hfz36_2
              try clear hfz36_3
              try clear hfz38_0
              try clear hfz38_1
              try clear hfz38_2
              try clear hfz38_3
              try clear hfz40_0
              try clear hfz40_1
              try clear hfz40_2
              try clear hfz40_3
              try clear p2
              obtain ⟨kq, x86_27, rfl, HA, HJ27, HO_7, BK415, HB⟩ := hcut
              cases kq with
              | zero => exact absurd HA.out (by simp [examboardlaw50_IncidentMore.j1])
              | succ kj27 =>
                have H := HA.out
                clear HA
                simp only [examboardlaw50_IncidentMore.j1] at H
                by_cases c41 : x86_27 = true
                · subst c41
                  have H1 : (some false) = some r := by rw [if_pos rfl] at H; exact H
                  exact absurd (hr.symm.trans (Option.some.inj H1).symm) (by decide)
                · replace c41 := Bool.eq_false_iff.mpr c41
                  subst c41
                  have H1 : ((incident_Hold.f kj27 l0).bind fun bt437 => ((incident_Hold.f kj27 y425).bind fun bt439 => (if bt437.2 = 0 then (if bt439.2 = 0 then (if bt437.1 = true then (if bt439.1 = true then (if a1_0 = 5 then (examboardlaw50_IncidentMore.j2 kj27 l0 y425 (!bt439.1) a1_0 a1_1 a1_2 a1_3) else (examboardlaw50_IncidentMore.j2 kj27 l0 y425 false a1_0 a1_1 a1_2 a1_3)) else (examboardlaw50_IncidentMore.j2 kj27 l0 y425 true a1_0 a1_1 a1_2 a1_3)) else (if a1_0 = 5 then (examboardlaw50_IncidentMore.j2 kj27 l0 y425 (!bt439.1) a1_0 a1_1 a1_2 a1_3) else (examboardlaw50_IncidentMore.j2 kj27 l0 y425 false a1_0 a1_1 a1_2 a1_3))) else (examboardlaw50_IncidentMore.j2 kj27 l0 y425 true a1_0 a1_1 a1_2 a1_3)) else (examboardlaw50_IncidentMore.j2 kj27 l0 y425 true a1_0 a1_1 a1_2 a1_3)))) = some r := by rw [if_neg (show ¬ (false = true) by decide)] at H; exact H
                  clear H
                  have H := H1
                  clear H1
                  replace H := Option.bind_eq_some_iff.mp H
                  obtain ⟨⟨t437, t438⟩, A420, H⟩ := H
                  replace H : ((incident_Hold.f kj27 y425).bind fun bt439 => (if t438 = 0 then (if bt439.2 = 0 then (if t437 = true then (if bt439.1 = true then (if a1_0 = 5 then (examboardlaw50_IncidentMore.j2 kj27 l0 y425 (!bt439.1) a1_0 a1_1 a1_2 a1_3) else (examboardlaw50_IncidentMore.j2 kj27 l0 y425 false a1_0 a1_1 a1_2 a1_3)) else (examboardlaw50_IncidentMore.j2 kj27 l0 y425 true a1_0 a1_1 a1_2 a1_3)) else (if a1_0 = 5 then (examboardlaw50_IncidentMore.j2 kj27 l0 y425 (!bt439.1) a1_0 a1_1 a1_2 a1_3) else (examboardlaw50_IncidentMore.j2 kj27 l0 y425 false a1_0 a1_1 a1_2 a1_3))) else (examboardlaw50_IncidentMore.j2 kj27 l0 y425 true a1_0 a1_1 a1_2 a1_3)) else (examboardlaw50_IncidentMore.j2 kj27 l0 y425 true a1_0 a1_1 a1_2 a1_3))) = some r := H
                  have A42 := Aside0.mk A420
                  clear A420
                  replace H := Option.bind_eq_some_iff.mp H
                  obtain ⟨⟨t439, t440⟩, A430, H⟩ := H
                  replace H : (if t438 = 0 then (if t440 = 0 then (if t437 = true then (if t439 = true then (if a1_0 = 5 then (examboardlaw50_IncidentMore.j2 kj27 l0 y425 (!t439) a1_0 a1_1 a1_2 a1_3) else (examboardlaw50_IncidentMore.j2 kj27 l0 y425 false a1_0 a1_1 a1_2 a1_3)) else (examboardlaw50_IncidentMore.j2 kj27 l0 y425 true a1_0 a1_1 a1_2 a1_3)) else (if a1_0 = 5 then (examboardlaw50_IncidentMore.j2 kj27 l0 y425 (!t439) a1_0 a1_1 a1_2 a1_3) else (examboardlaw50_IncidentMore.j2 kj27 l0 y425 false a1_0 a1_1 a1_2 a1_3))) else (examboardlaw50_IncidentMore.j2 kj27 l0 y425 true a1_0 a1_1 a1_2 a1_3)) else (examboardlaw50_IncidentMore.j2 kj27 l0 y425 true a1_0 a1_1 a1_2 a1_3)) = some r := H
                  have A43 := Aside0.mk A430
                  clear A430
                  have HC44 := Aside0.mk H
                  clear H
                  go_upto_region 12 with (first | ((with_reducible refine gate_callee (f := 20) rfl ?_); refine goesL_ (some 89) rfl rfl Tryd.func20 (by kernel_rfl) rfl #[.slice A0 l0.length c0] rfl (by (try simp only [List.map_toArray, List.map_cons, List.map_nil]); first | done | rfl | (simp only [List.length_drop, List.length_take]; rfl)) ?_; (with_reducible refine (incident_Hold.calls kj27 _ _ l0 t437 t438 _ ?side1 ?side2 A42.out).mono ?_); (case side1 => repeat (first | exact (Kd.C_below HR0.out HB.out) | (with_reducible refine Kd.C_alloc ?_ _) | (with_reducible refine Kd.C_drewN ?_ _) | (with_reducible refine Kd.C_drew ?_))); (case side2 => exact HC0.out); rintro e w45 ⟨rfl, hb⟩; refine ⟨_, rfl, ?_⟩; have n0_ := Aside0.mk (Kd.R_below (by (with_reducible repeat (first | apply Kd.R_alloc | apply Kd.R_drewN | apply Kd.R_drew)); exact HO_7.out) hb); have n1_ := Aside0.mk (blk_below (g := gb415) (o := .cells #[.int .i64 a1_0, .int .i64 a1_1, .int .i64 a1_2, .int .i64 a1_3] 23 (0, 0)) (by (with_reducible repeat (first | refine blk_drewN ?_ _ | refine blk_drew ?_ | refine blk_alloc ?_ _)); exact BK415.out) hb); have n2_ := Aside0.mk (below_step (by repeat (first | (with_reducible first | exact HB.out | apply below_alloc | apply pw_below_drewN | apply below_drew1 | refine below_set ?_ GE415.out) | exact HB.out)) hb); clear HO_7; clear BK415; clear HB; have HO_7 := n0_; have BK415 := n1_; have HB := n2_; clear n0_ n1_ n2_; (try clear hb); (try clear hb2); (try clear hk); (try clear hi)) | ((with_reducible refine gate_callee (f := 20) rfl ?_); refine goesL_ (some 94) rfl rfl Tryd.func20 (by kernel_rfl) rfl #[.slice Ao20 y425.length co20] rfl (by (try simp only [List.map_toArray, List.map_cons, List.map_nil]); first | done | rfl | (simp only [List.length_drop, List.length_take]; rfl)) ?_; (with_reducible refine (incident_Hold.calls kj27 _ _ y425 t439 t440 _ ?side1 ?side2 A43.out).mono ?_); (case side1 => repeat (first | exact (Kd.R_reads' HO_7.out).2.2 | (with_reducible refine Kd.C_alloc ?_ _) | (with_reducible refine Kd.C_drewN ?_ _) | (with_reducible refine Kd.C_drew ?_))); (case side2 => exact (Kd.R_reads' HO_7.out).2.1); rintro e w46 ⟨rfl, hb⟩; refine ⟨_, rfl, ?_⟩; have n0_ := Aside0.mk (Kd.R_below (by (with_reducible repeat (first | apply Kd.R_alloc | apply Kd.R_drewN | apply Kd.R_drew)); exact HO_7.out) hb); have n1_ := Aside0.mk (blk_below (g := gb415) (o := .cells #[.int .i64 a1_0, .int .i64 a1_1, .int .i64 a1_2, .int .i64 a1_3] 23 (0, 0)) (by (with_reducible repeat (first | refine blk_drewN ?_ _ | refine blk_drew ?_ | refine blk_alloc ?_ _)); exact BK415.out) hb); have n2_ := Aside0.mk (below_step (by repeat (first | (with_reducible first | exact HB.out | apply below_alloc | apply pw_below_drewN | apply below_drew1 | refine below_set ?_ GE415.out) | exact HB.out)) hb); clear HO_7; clear BK415; clear HB; have HO_7 := n0_; have BK415 := n1_; have HB := n2_; clear n0_ n1_ n2_; (try clear hb); (try clear hb2); (try clear hk); (try clear hi)))
                  (try simp only [Act.put, List.setIfInBounds_toArray, List.set_cons_zero, List.set_cons_succ])
                  go_cut [118] (fun v118 wc => ∃ (kq : Nat) (x118_43 : Bool), v118 = .bool x118_43 ∧ Aside0 (examboardlaw50_IncidentMore.j2 kq l0 y425 x118_43 a1_0 a1_1 a1_2 a1_3 = some r) ∧ Aside0 (kq ≤ kj27) ∧ Aside0 (Kd.R k23 23 wc w.heap.size (fun k_ => k_ ≠ gb415) (.slice Ao20 y425.length co20) y425) ∧ Aside0 (wc.heap[gb415]? = some (.cells #[.int .i64 a1_0, .int .i64 a1_1, .int .i64 a1_2, .int .i64 a1_3] 23 (0, 0))) ∧ Aside0 (Below w.heap.size w wc))
                  case first =>
                    have H := HC44.out
                    clear HC44
                    by_cases c47 : t438 = 0
                    · rw [if_pos c47] at H
                      have c47b0 : (t438 == 0) = true := beq_iff_eq.mpr c47
                      have c47b1 : (t438 != 0) = false := bne_eq_false_iff_eq.mpr c47
                      clear c47
                      (first | rw [c47b0] | (simp only [i64_w, i32_w]; rw [c47b0]) | skip)
                      by_cases c48 : t440 = 0
                      · rw [if_pos c48] at H
                        have c48b0 : (t440 == 0) = true := beq_iff_eq.mpr c48
                        have c48b1 : (t440 != 0) = false := bne_eq_false_iff_eq.mpr c48
                        clear c48
                        by_cases c49 : t437 = true
                        · subst c49
                          have H1 : (if t439 = true then (if a1_0 = 5 then (examboardlaw50_IncidentMore.j2 kj27 l0 y425 (!t439) a1_0 a1_1 a1_2 a1_3) else (examboardlaw50_IncidentMore.j2 kj27 l0 y425 false a1_0 a1_1 a1_2 a1_3)) else (examboardlaw50_IncidentMore.j2 kj27 l0 y425 true a1_0 a1_1 a1_2 a1_3)) = some r := by rw [if_pos rfl] at H; exact H
                          clear H
                          have H := H1
                          clear H1
                          by_cases c50 : t439 = true
                          · subst c50
                            have H1 : (if a1_0 = 5 then (examboardlaw50_IncidentMore.j2 kj27 l0 y425 (!true) a1_0 a1_1 a1_2 a1_3) else (examboardlaw50_IncidentMore.j2 kj27 l0 y425 false a1_0 a1_1 a1_2 a1_3)) = some r := by rw [if_pos rfl] at H; exact H
                            clear H
                            have H := H1
                            clear H1
                            by_cases c51 : a1_0 = 5
                            · rw [if_pos c51] at H
                              have c51b0 : (a1_0 == 5) = true := beq_iff_eq.mpr c51
                              have c51b1 : (a1_0 != 5) = false := bne_eq_false_iff_eq.mpr c51
                              clear c51
                              have H' := Aside0.mk H
                              clear H
                              have hcz52_0 : w46.cell? ⟨gb415, 0, none⟩ = some (.int .i64 a1_0) := (blk_cell BK415.out 0).trans rfl
                              have hcz52_1 : w46.cell? ⟨gb415, 1, none⟩ = some (.int .i64 a1_1) := (blk_cell BK415.out 1).trans rfl
                              have hcz52_2 : w46.cell? ⟨gb415, 2, none⟩ = some (.int .i64 a1_2) := (blk_cell BK415.out 2).trans rfl
                              have hcz52_3 : w46.cell? ⟨gb415, 3, none⟩ = some (.int .i64 a1_3) := (blk_cell BK415.out 3).trans rfl
                              have hfz52_0 := blk_frozen BK415.out 0
                              have hfz52_1 := blk_frozen BK415.out 1
                              have hfz52_2 := blk_frozen BK415.out 2
                              have hfz52_3 := blk_frozen BK415.out 3
                              go_wp2
                              go_meet
                              case rel => exact ⟨_, (!true), (by first | rfl | (simp; done) | (simp [*]; done)), H', ⟨by have := HJ7.out; have := HJ27.out; first | omega | exact Nat.le_refl _⟩, ⟨by (with_reducible repeat (first | apply Kd.R_alloc | apply Kd.R_drewN | apply Kd.R_drew)); exact HO_7.out⟩, ⟨by (with_reducible repeat (first | refine blk_drewN ?_ _ | refine blk_drew ?_ | refine blk_alloc ?_ _)); exact BK415.out⟩, ⟨by repeat (first | (with_reducible first | exact HB.out | apply below_alloc | apply pw_below_drewN | apply below_drew1 | refine below_set ?_ GE415.out) | exact HB.out)⟩⟩
                            · rw [if_neg c51] at H
                              have c51b0 : (a1_0 == 5) = false := beq_eq_false_iff_ne.mpr c51
                              have c51b1 : (a1_0 != 5) = true := bne_iff_ne.mpr c51
                              have H' := Aside0.mk H
                              clear H
                              have hcz53_0 : w46.cell? ⟨gb415, 0, none⟩ = some (.int .i64 a1_0) := (blk_cell BK415.out 0).trans rfl
                              have hcz53_1 : w46.cell? ⟨gb415, 1, none⟩ = some (.int .i64 a1_1) := (blk_cell BK415.out 1).trans rfl
                              have hcz53_2 : w46.cell? ⟨gb415, 2, none⟩ = some (.int .i64 a1_2) := (blk_cell BK415.out 2).trans rfl
                              have hcz53_3 : w46.cell? ⟨gb415, 3, none⟩ = some (.int .i64 a1_3) := (blk_cell BK415.out 3).trans rfl
                              have hfz53_0 := blk_frozen BK415.out 0
                              have hfz53_1 := blk_frozen BK415.out 1
                              have hfz53_2 := blk_frozen BK415.out 2
                              have hfz53_3 := blk_frozen BK415.out 3
                              go_wp2
                              go_meet
                              case rel => exact ⟨_, (false), (by first | rfl | (simp; done) | (simp [*]; done)), H', ⟨by have := HJ7.out; have := HJ27.out; first | omega | exact Nat.le_refl _⟩, ⟨by (with_reducible repeat (first | apply Kd.R_alloc | apply Kd.R_drewN | apply Kd.R_drew)); exact HO_7.out⟩, ⟨by (with_reducible repeat (first | refine blk_drewN ?_ _ | refine blk_drew ?_ | refine blk_alloc ?_ _)); exact BK415.out⟩, ⟨by repeat (first | (with_reducible first | exact HB.out | apply below_alloc | apply pw_below_drewN | apply below_drew1 | refine below_set ?_ GE415.out) | exact HB.out)⟩⟩
                          · replace c50 := Bool.eq_false_iff.mpr c50
                            subst c50
                            have H1 : (examboardlaw50_IncidentMore.j2 kj27 l0 y425 true a1_0 a1_1 a1_2 a1_3) = some r := by rw [if_neg (show ¬ (false = true) by decide)] at H; exact H
                            clear H
                            have H := H1
                            clear H1
                            have H' := Aside0.mk H
                            clear H
                            go_wp2
                            go_meet
                            case rel => exact ⟨_, (true), (by first | rfl | (simp; done) | (simp [*]; done)), H', ⟨by have := HJ7.out; have := HJ27.out; first | omega | exact Nat.le_refl _⟩, ⟨by (with_reducible repeat (first | apply Kd.R_alloc | apply Kd.R_drewN | apply Kd.R_drew)); exact HO_7.out⟩, ⟨by (with_reducible repeat (first | refine blk_drewN ?_ _ | refine blk_drew ?_ | refine blk_alloc ?_ _)); exact BK415.out⟩, ⟨by repeat (first | (with_reducible first | exact HB.out | apply below_alloc | apply pw_below_drewN | apply below_drew1 | refine below_set ?_ GE415.out) | exact HB.out)⟩⟩
                        · replace c49 := Bool.eq_false_iff.mpr c49
                          subst c49
                          have H1 : (if a1_0 = 5 then (examboardlaw50_IncidentMore.j2 kj27 l0 y425 (!t439) a1_0 a1_1 a1_2 a1_3) else (examboardlaw50_IncidentMore.j2 kj27 l0 y425 false a1_0 a1_1 a1_2 a1_3)) = some r := by rw [if_neg (show ¬ (false = true) by decide)] at H; exact H
                          clear H
                          have H := H1
                          clear H1
                          by_cases c54 : a1_0 = 5
                          · rw [if_pos c54] at H
                            have c54b0 : (a1_0 == 5) = true := beq_iff_eq.mpr c54
                            have c54b1 : (a1_0 != 5) = false := bne_eq_false_iff_eq.mpr c54
                            clear c54
                            have H' := Aside0.mk H
                            clear H
                            have hcz55_0 : w46.cell? ⟨gb415, 0, none⟩ = some (.int .i64 a1_0) := (blk_cell BK415.out 0).trans rfl
                            have hcz55_1 : w46.cell? ⟨gb415, 1, none⟩ = some (.int .i64 a1_1) := (blk_cell BK415.out 1).trans rfl
                            have hcz55_2 : w46.cell? ⟨gb415, 2, none⟩ = some (.int .i64 a1_2) := (blk_cell BK415.out 2).trans rfl
                            have hcz55_3 : w46.cell? ⟨gb415, 3, none⟩ = some (.int .i64 a1_3) := (blk_cell BK415.out 3).trans rfl
                            have hfz55_0 := blk_frozen BK415.out 0
                            have hfz55_1 := blk_frozen BK415.out 1
                            have hfz55_2 := blk_frozen BK415.out 2
                            have hfz55_3 := blk_frozen BK415.out 3
                            go_wp2
                            go_meet
                            case rel => exact ⟨_, (!t439), (by first | rfl | (simp; done) | (simp [*]; done)), H', ⟨by have := HJ7.out; have := HJ27.out; first | omega | exact Nat.le_refl _⟩, ⟨by (with_reducible repeat (first | apply Kd.R_alloc | apply Kd.R_drewN | apply Kd.R_drew)); exact HO_7.out⟩, ⟨by (with_reducible repeat (first | refine blk_drewN ?_ _ | refine blk_drew ?_ | refine blk_alloc ?_ _)); exact BK415.out⟩, ⟨by repeat (first | (with_reducible first | exact HB.out | apply below_alloc | apply pw_below_drewN | apply below_drew1 | refine below_set ?_ GE415.out) | exact HB.out)⟩⟩
                          · rw [if_neg c54] at H
                            have c54b0 : (a1_0 == 5) = false := beq_eq_false_iff_ne.mpr c54
                            have c54b1 : (a1_0 != 5) = true := bne_iff_ne.mpr c54
                            have H' := Aside0.mk H
                            clear H
                            have hcz56_0 : w46.cell? ⟨gb415, 0, none⟩ = some (.int .i64 a1_0) := (blk_cell BK415.out 0).trans rfl
                            have hcz56_1 : w46.cell? ⟨gb415, 1, none⟩ = some (.int .i64 a1_1) := (blk_cell BK415.out 1).trans rfl
                            have hcz56_2 : w46.cell? ⟨gb415, 2, none⟩ = some (.int .i64 a1_2) := (blk_cell BK415.out 2).trans rfl
                            have hcz56_3 : w46.cell? ⟨gb415, 3, none⟩ = some (.int .i64 a1_3) := (blk_cell BK415.out 3).trans rfl
                            have hfz56_0 := blk_frozen BK415.out 0
                            have hfz56_1 := blk_frozen BK415.out 1
                            have hfz56_2 := blk_frozen BK415.out 2
                            have hfz56_3 := blk_frozen BK415.out 3
                            go_wp2
                            go_meet
                            case rel => exact ⟨_, (false), (by first | rfl | (simp; done) | (simp [*]; done)), H', ⟨by have := HJ7.out; have := HJ27.out; first | omega | exact Nat.le_refl _⟩, ⟨by (with_reducible repeat (first | apply Kd.R_alloc | apply Kd.R_drewN | apply Kd.R_drew)); exact HO_7.out⟩, ⟨by (with_reducible repeat (first | refine blk_drewN ?_ _ | refine blk_drew ?_ | refine blk_alloc ?_ _)); exact BK415.out⟩, ⟨by repeat (first | (with_reducible first | exact HB.out | apply below_alloc | apply pw_below_drewN | apply below_drew1 | refine below_set ?_ GE415.out) | exact HB.out)⟩⟩
                      · rw [if_neg c48] at H
                        first | exact absurd (hr.symm.trans (mj1 H)) (by decide) | exact absurd (hr.symm.trans (mj2 H)) (by decide) | exact absurd (hr.symm.trans (mj3 H)) (by decide)
                    · rw [if_neg c47] at H
                      first | exact absurd (hr.symm.trans (mj1 H)) (by decide) | exact absurd (hr.symm.trans (mj2 H)) (by decide) | exact absurd (hr.symm.trans (mj3 H)) (by decide)
                  case rest =>
                    clear HC44
                    try clear c1
                    try clear c2
                    try clear p2
                    try clear c3
                    try clear c4
                    try clear c5
                    try clear c9
                    try clear c15
                    try clear c16
                    try clear c18
                    try clear c20
                    try clear c22
                    try clear c22b0
                    try clear c22b1
                    try clear c23
                    try clear c31
                    try clear c31b0
                    try clear c31b1
                    try clear c32
                    try clear c32b0
                    try clear c32b1
                    try clear c33
                    try clear c33b0
                    try clear c34
                    try clear c34b0
                    try clear c35
                    try clear c35b0
                    try clear c37
                    try clear c37b0
                    try clear c41
                    try clear c47
                    try clear c47b0
                    try clear c47b1
                    try clear c48
                    try clear c48b0
                    try clear c48b1
                    try clear c49
                    try clear c50
                    try clear c51
                    try clear c51b0
                    try clear c51b1
                    try clear c54
                    try clear c54b0
                    try clear c54b1
                    try clear hcz36_0
                    try clear hcz36_1
                    try clear hcz36_2
                    try clear hcz36_3
                    try clear hcz38_0
                    try clear hcz38_1
                    try clear hcz38_2
                    try clear hcz38_3
                    try clear hcz40_0
                    try clear hcz40_1
                    try clear hcz40_2
                    try clear hcz40_3
                    try clear hcz52_0
                    try clear hcz52_1
                    try clear hcz52_2
                    try clear hcz52_3
                    try clear hcz53_0
                    try clear hcz53_1
                    try clear hcz53_2
                    try clear hcz53_3
                    try clear hcz55_0
                    try clear hcz55_1
                    try clear hcz55_2
                    try clear hcz55_3
                    try clear hcz56_0
                    try clear hcz56_1
                    try clear hcz56_2
                    try clear hcz56_3
                    try clear hfz36_0
                    try clear hfz36_1
                    try clear hfz36_2
                    try clear hfz36_3
                    try clear hfz38_0
                    try clear hfz38_1
                    try clear hfz38_2
                    try clear hfz38_3
                    try clear hfz40_0
                    try clear hfz40_1
                    try clear hfz40_2
                    try clear hfz40_3
                    try clear hfz52_0
                    try clear hfz52_1
                    try clear hfz52_2
                    try clear hfz52_3
                    try clear hfz53_0
                    try clear hfz53_1
                    try clear hfz53_2
                    try clear hfz53_3
                    try clear hfz55_0
                    try clear hfz55_1
                    try clear hfz55_2
                    try clear hfz55_3
                    try clear hfz56_0
                    try clear hfz56_1
                    try clear hfz56_2
                    try clear hfz56_3
                    try clear p2
                    obtain ⟨kq, x118_43, rfl, HA, HJ43, HO_7, BK415, HB⟩ := hcut
                    cases kq with
                    | zero => exact absurd HA.out (by simp [examboardlaw50_IncidentMore.j2])
                    | succ kj43 =>
                      have H := HA.out
                      clear HA
                      simp only [examboardlaw50_IncidentMore.j2] at H
                      by_cases c57 : x118_43 = true
                      · subst c57
                        have H1 : (some false) = some r := by rw [if_pos rfl] at H; exact H
                        exact absurd (hr.symm.trans (Option.some.inj H1).symm) (by decide)
                      · replace c57 := Bool.eq_false_iff.mpr c57
                        subst c57
                        have H1 : ((incident_Counts.f kj43 l0).bind fun bt441 => ((incident_Counts.f kj43 y425).bind fun bt445 => (if bt441.2 = 0 then (if bt445.2 = 0 then (if (bt441.1.length : Int) = 6 then (examboardlaw50_IncidentMore.j3 kj43 bt441.1 bt445.1 ((bt445.1.length : Int) != 6) a1_0 a1_1 a1_2 a1_3) else (examboardlaw50_IncidentMore.j3 kj43 bt441.1 bt445.1 true a1_0 a1_1 a1_2 a1_3)) else (examboardlaw50_IncidentMore.j3 kj43 bt441.1 bt445.1 true a1_0 a1_1 a1_2 a1_3)) else (examboardlaw50_IncidentMore.j3 kj43 bt441.1 bt445.1 true a1_0 a1_1 a1_2 a1_3)))) = some r := by rw [if_neg (show ¬ (false = true) by decide)] at H; exact H
                        clear H
                        have H := H1
                        clear H1
                        replace H := Option.bind_eq_some_iff.mp H
                        obtain ⟨⟨t441, t442⟩, A580, H⟩ := H
                        replace H : ((incident_Counts.f kj43 y425).bind fun bt445 => (if t442 = 0 then (if bt445.2 = 0 then (if (t441.length : Int) = 6 then (examboardlaw50_IncidentMore.j3 kj43 t441 bt445.1 ((bt445.1.length : Int) != 6) a1_0 a1_1 a1_2 a1_3) else (examboardlaw50_IncidentMore.j3 kj43 t441 bt445.1 true a1_0 a1_1 a1_2 a1_3)) else (examboardlaw50_IncidentMore.j3 kj43 t441 bt445.1 true a1_0 a1_1 a1_2 a1_3)) else (examboardlaw50_IncidentMore.j3 kj43 t441 bt445.1 true a1_0 a1_1 a1_2 a1_3))) = some r := H
                        have A58 := Aside0.mk A580
                        clear A580
                        replace H := Option.bind_eq_some_iff.mp H
                        obtain ⟨⟨t445, t446⟩, A590, H⟩ := H
                        replace H : (if t442 = 0 then (if t446 = 0 then (if (t441.length : Int) = 6 then (examboardlaw50_IncidentMore.j3 kj43 t441 t445 ((t445.length : Int) != 6) a1_0 a1_1 a1_2 a1_3) else (examboardlaw50_IncidentMore.j3 kj43 t441 t445 true a1_0 a1_1 a1_2 a1_3)) else (examboardlaw50_IncidentMore.j3 kj43 t441 t445 true a1_0 a1_1 a1_2 a1_3)) else (examboardlaw50_IncidentMore.j3 kj43 t441 t445 true a1_0 a1_1 a1_2 a1_3)) = some r := H
                        have A59 := Aside0.mk A590
                        clear A590
                        have HC60 := Aside0.mk H
                        clear H
                        go_upto_region 16 with (first | ((with_reducible refine gate_callee (f := 22) rfl ?_); refine goesL_ (some 121) rfl rfl Tryd.func22 (by kernel_rfl) rfl #[.slice A0 l0.length c0] rfl (by (try simp only [List.map_toArray, List.map_cons, List.map_nil]); first | done | rfl | (simp only [List.length_drop, List.length_take]; rfl)) ?_; (with_reducible refine (incident_Counts.calls kj43 _ _ l0 t441 t442 _ ?side1 ?side2 A58.out).mono ?_); (case side1 => repeat (first | exact (Kd.C_below HR0.out HB.out) | (with_reducible refine Kd.C_alloc ?_ _) | (with_reducible refine Kd.C_drewN ?_ _) | (with_reducible refine Kd.C_drew ?_))); (case side2 => exact HC0.out); rintro e w61 ⟨v443, rfl, ho0, hb⟩; refine ⟨_, rfl, ?_⟩; have n0_ := Aside0.mk (Kd.R_below (by (with_reducible repeat (first | apply Kd.R_alloc | apply Kd.R_drewN | apply Kd.R_drew)); exact HO_7.out) hb); have n1_ := Aside0.mk (Kd.R_lower ho0 (below_size (by repeat (first | (with_reducible first | exact HB.out | apply below_alloc | apply pw_below_drewN | apply below_drew1 | refine below_set ?_ GE415.out) | exact HB.out)))); have n2_ := Aside0.mk (blk_below (g := gb415) (o := .cells #[.int .i64 a1_0, .int .i64 a1_1, .int .i64 a1_2, .int .i64 a1_3] 23 (0, 0)) (by (with_reducible repeat (first | refine blk_drewN ?_ _ | refine blk_drew ?_ | refine blk_alloc ?_ _)); exact BK415.out) hb); have n3_ := Aside0.mk (below_step (by repeat (first | (with_reducible first | exact HB.out | apply below_alloc | apply pw_below_drewN | apply below_drew1 | refine below_set ?_ GE415.out) | exact HB.out)) hb); clear HO_7; clear BK415; clear HB; have HO_7 := n0_; have HO444 := n1_; have BK415 := n2_; have HB := n3_; clear n0_ n1_ n2_ n3_; (try clear hb); (try clear hb2); (try clear hk); (try clear hi); (try clear ho0)) | ((with_reducible refine gate_callee (f := 22) rfl ?_); refine goesL_ (some 126) rfl rfl Tryd.func22 (by kernel_rfl) rfl #[.slice Ao20 y425.length co20] rfl (by (try simp only [List.map_toArray, List.map_cons, List.map_nil]); first | done | rfl | (simp only [List.length_drop, List.length_take]; rfl)) ?_; (with_reducible refine (incident_Counts.calls kj43 _ _ y425 t445 t446 _ ?side1 ?side2 A59.out).mono ?_); (case side1 => repeat (first | exact (Kd.R_reads' HO_7.out).2.2 | (with_reducible refine Kd.C_alloc ?_ _) | (with_reducible refine Kd.C_drewN ?_ _) | (with_reducible refine Kd.C_drew ?_))); (case side2 => exact (Kd.R_reads' HO_7.out).2.1); rintro e w62 ⟨v447, rfl, ho0, hb⟩; refine ⟨_, rfl, ?_⟩; have n0_ := Aside0.mk (Kd.R_below (by (with_reducible repeat (first | apply Kd.R_alloc | apply Kd.R_drewN | apply Kd.R_drew)); exact HO_7.out) hb); have n1_ := Aside0.mk (Kd.R_elder' (by (with_reducible repeat (first | apply Kd.R_alloc | apply Kd.R_drewN | apply Kd.R_drew)); exact HO444.out) (Kd.R_base ho0) hb); have n2_ := Aside0.mk (Kd.R_lower (Kd.R_new' ho0 (Kd.R_lt (by (with_reducible repeat (first | apply Kd.R_alloc | apply Kd.R_drewN | apply Kd.R_drew)); exact HO444.out))) (below_size (by repeat (first | (with_reducible first | exact HB.out | apply below_alloc | apply pw_below_drewN | apply below_drew1 | refine below_set ?_ GE415.out) | exact HB.out)))); have n3_ := Aside0.mk (blk_below (g := gb415) (o := .cells #[.int .i64 a1_0, .int .i64 a1_1, .int .i64 a1_2, .int .i64 a1_3] 23 (0, 0)) (by (with_reducible repeat (first | refine blk_drewN ?_ _ | refine blk_drew ?_ | refine blk_alloc ?_ _)); exact BK415.out) hb); have n4_ := Aside0.mk (below_step (by repeat (first | (with_reducible first | exact HB.out | apply below_alloc | apply pw_below_drewN | apply below_drew1 | refine below_set ?_ GE415.out) | exact HB.out)) hb); clear HO_7; clear HO444; clear BK415; clear HB; have HO_7 := n0_; have HO444 := n1_; have HO448 := n2_; have BK415 := n3_; have HB := n4_; clear n0_ n1_ n2_ n3_ n4_; (try clear hb); (try clear hb2); (try clear hk); (try clear hi); (try clear ho0)))
                        (try simp only [Act.put, List.setIfInBounds_toArray, List.set_cons_zero, List.set_cons_succ])
                        go_cut [144] (fun v144 wc => ∃ (kq : Nat) (x144_59 : Bool), v144 = .bool x144_59 ∧ Aside0 (examboardlaw50_IncidentMore.j3 kq t441 t445 x144_59 a1_0 a1_1 a1_2 a1_3 = some r) ∧ Aside0 (kq ≤ kj43) ∧ Aside0 (Kd.R (Kd.int .i64) 3 wc w.heap.size (fun k_ => some k_ ≠ (v447 : Value).ownBlock) v443 t441) ∧ Aside0 (Kd.R (Kd.int .i64) 3 wc w.heap.size (fun k_ => some k_ ≠ (v443 : Value).ownBlock) v447 t445) ∧ Aside0 (wc.heap[gb415]? = some (.cells #[.int .i64 a1_0, .int .i64 a1_1, .int .i64 a1_2, .int .i64 a1_3] 23 (0, 0))) ∧ Aside0 (Below w.heap.size w wc))
                        case first =>
                          have H := HC60.out
                          clear HC60
                          by_cases c63 : t442 = 0
                          · rw [if_pos c63] at H
                            have c63b0 : (t442 == 0) = true := beq_iff_eq.mpr c63
                            have c63b1 : (t442 != 0) = false := bne_eq_false_iff_eq.mpr c63
                            clear c63
                            (first | rw [c63b0] | (simp only [i64_w, i32_w]; rw [c63b0]) | skip)
                            by_cases c64 : t446 = 0
                            · rw [if_pos c64] at H
                              have c64b0 : (t446 == 0) = true := beq_iff_eq.mpr c64
                              have c64b1 : (t446 != 0) = false := bne_eq_false_iff_eq.mpr c64
                              clear c64
                              by_cases c65 : (t441.length : Int) = 6
                              · rw [if_pos c65] at H
                                have c65b0 : ((t441.length : Int) == 6) = true := beq_iff_eq.mpr c65
                                have c65b1 : ((t441.length : Int) != 6) = false := bne_eq_false_iff_eq.mpr c65
                                clear c65
                                have H' := Aside0.mk H
                                clear H
                                obtain ⟨Ao66, co66, eo66⟩ := Kd.R_slice HO444.out
                                subst eo66
                                obtain ⟨Ao67, co67, eo67⟩ := Kd.R_slice HO448.out
                                subst eo67
                                go_wp2
                                go_meet
                                case rel => exact ⟨_, (((t445.length : Int) != 6)), (by first | rfl | (simp; done) | (simp [*]; done)), H', ⟨by have := HJ7.out; have := HJ27.out; have := HJ43.out; first | omega | exact Nat.le_refl _⟩, ⟨by (with_reducible repeat (first | apply Kd.R_alloc | apply Kd.R_drewN | apply Kd.R_drew)); exact Kd.R_mono HO444.out (fun _ hk => hk.2)⟩, ⟨by (with_reducible repeat (first | apply Kd.R_alloc | apply Kd.R_drewN | apply Kd.R_drew)); exact Kd.R_mono HO448.out (fun _ hk => hk.2)⟩, ⟨by (with_reducible repeat (first | refine blk_drewN ?_ _ | refine blk_drew ?_ | refine blk_alloc ?_ _)); exact BK415.out⟩, ⟨by repeat (first | (with_reducible first | exact HB.out | apply below_alloc | apply pw_below_drewN | apply below_drew1 | refine below_set ?_ GE415.out) | exact HB.out)⟩⟩
                              · rw [if_neg c65] at H
                                first | exact absurd (hr.symm.trans (mj1 H)) (by decide) | exact absurd (hr.symm.trans (mj2 H)) (by decide) | exact absurd (hr.symm.trans (mj3 H)) (by decide)
                            · rw [if_neg c64] at H
                              first | exact absurd (hr.symm.trans (mj1 H)) (by decide) | exact absurd (hr.symm.trans (mj2 H)) (by decide) | exact absurd (hr.symm.trans (mj3 H)) (by decide)
                          · rw [if_neg c63] at H
                            first | exact absurd (hr.symm.trans (mj1 H)) (by decide) | exact absurd (hr.symm.trans (mj2 H)) (by decide) | exact absurd (hr.symm.trans (mj3 H)) (by decide)
                        case rest =>
                          clear HC60
                          try clear c1
                          try clear c2
                          try clear p2
                          try clear c3
                          try clear c4
                          try clear c5
                          try clear c6
                          try clear c9
                          try clear c15
                          try clear c16
                          try clear c18
                          try clear c20
                          try clear c22
                          try clear c22b0
                          try clear c22b1
                          try clear c23
                          try clear c31
                          try clear c31b0
                          try clear c31b1
                          try clear c32
                          try clear c32b0
                          try clear c32b1
                          try clear c33
                          try clear c33b0
                          try clear c34
                          try clear c34b0
                          try clear c35
                          try clear c35b0
                          try clear c37
                          try clear c37b0
                          try clear c41
                          try clear c47
                          try clear c47b0
                          try clear c47b1
                          try clear c48
                          try clear c48b0
                          try clear c48b1
                          try clear c49
                          try clear c50
                          try clear c51
                          try clear c51b0
                          try clear c51b1
                          try clear c54
                          try clear c54b0
                          try clear c54b1
                          try clear c57
                          try clear c63
                          try clear c63b0
                          try clear c63b1
                          try clear c64
                          try clear c64b0
                          try clear c64b1
                          try clear c65
                          try clear c65b0
                          try clear c65b1
                          try clear hcz36_0
                          try clear hcz36_1
                          try clear hcz36_2
                          try clear hcz36_3
                          try clear hcz38_0
                          try clear hcz38_1
                          try clear hcz38_2
                          try clear hcz38_3
                          try clear hcz40_0
                          try clear hcz40_1
                          try clear hcz40_2
                          try clear hcz40_3
                          try clear hcz52_0
                          try clear hcz52_1
                          try clear hcz52_2
                          try clear hcz52_3
                          try clear hcz53_0
                          try clear hcz53_1
                          try clear hcz53_2
                          try clear hcz53_3
                          try clear hcz55_0
                          try clear hcz55_1
                          try clear hcz55_2
                          try clear hcz55_3
                          try clear hcz56_0
                          try clear hcz56_1
                          try clear hcz56_2
                          try clear hcz56_3
                          try clear hfz36_0
                          try clear hfz36_1
                          try clear hfz36_2
                          try clear hfz36_3
                          try clear hfz38_0
                          try clear hfz38_1
                          try clear hfz38_2
                          try clear hfz38_3
                          try clear hfz40_0
                          try clear hfz40_1
                          try clear hfz40_2
                          try clear hfz40_3
                          try clear hfz52_0
                          try clear hfz52_1
                          try clear hfz52_2
                          try clear hfz52_3
                          try clear hfz53_0
                          try clear hfz53_1
                          try clear hfz53_2
                          try clear hfz53_3
                          try clear hfz55_0
                          try clear hfz55_1
                          try clear hfz55_2
                          try clear hfz55_3
                          try clear hfz56_0
                          try clear hfz56_1
                          try clear hfz56_2
                          try clear hfz56_3
                          try clear p2
                          obtain ⟨kq, x144_59, rfl, HA, HJ59, HO_16, HO_17, BK415, HB⟩ := hcut
                          cases kq with
                          | zero => exact absurd HA.out (by simp [examboardlaw50_IncidentMore.j3])
                          | succ kj59 =>
                            have H := HA.out
                            clear HA
                            simp only [examboardlaw50_IncidentMore.j3] at H
                            by_cases c69 : x144_59 = true
                            · subst c69
                              have H1 : (some false) = some r := by rw [if_pos rfl] at H; exact H
                              exact absurd (hr.symm.trans (Option.some.inj H1).symm) (by decide)
                            · replace c69 := Bool.eq_false_iff.mpr c69
                              subst c69
                              have H1 : (examboardlaw50_IncidentMore.l0 kj59 t441 t445 0 a1_0 a1_1 a1_2 a1_3) = some r := by rw [if_neg (show ¬ (false = true) by decide)] at H; exact H
                              clear H
                              have H := H1
                              clear H1
                              have H' := Aside0.mk H
                              clear H
                              go_wp2
                              go_loopg [18] kj59 (fun kq v18 w' => ∃ (x18_5 : Int), v18 = .int .i64 x18_5 ∧ Aside0 (examboardlaw50_IncidentMore.l0 kq t441 t445 x18_5 a1_0 a1_1 a1_2 a1_3 = some r) ∧ Aside0 (kq ≤ kj59) ∧ Aside0 (Kd.R (Kd.int .i64) 3 w' w.heap.size (fun k_ => some k_ ≠ (v447 : Value).ownBlock) v443 t441) ∧ Aside0 (Kd.R (Kd.int .i64) 3 w' w.heap.size (fun k_ => some k_ ≠ (v443 : Value).ownBlock) v447 t445) ∧ Aside0 (w'.heap[gb415]? = some (.cells #[.int .i64 a1_0, .int .i64 a1_1, .int .i64 a1_2, .int .i64 a1_3] 23 (0, 0))) ∧ Aside0 (Below w.heap.size w w'))
                              case atStart => exact ⟨(0), (by first | rfl | (simp; done) | (simp [*]; done)), H', ⟨Nat.le_refl _⟩, ⟨by (with_reducible repeat (first | apply Kd.R_alloc | apply Kd.R_drewN | apply Kd.R_drew)); exact HO_16.out⟩, ⟨by (with_reducible repeat (first | apply Kd.R_alloc | apply Kd.R_drewN | apply Kd.R_drew)); exact HO_17.out⟩, ⟨by (with_reducible repeat (first | refine blk_drewN ?_ _ | refine blk_drew ?_ | refine blk_alloc ?_ _)); exact BK415.out⟩, ⟨by repeat (first | (with_reducible first | exact HB.out | apply below_alloc | apply pw_below_drewN | apply below_drew1 | refine below_set ?_ GE415.out) | exact HB.out)⟩⟩
                              case round =>
                                clear H'
                                try clear c1
                                try clear c2
                                try clear p2
                                try clear c3
                                try clear c4
                                try clear c5
                                try clear c6
                                try clear c9
                                try clear c15
                                try clear c16
                                try clear c18
                                try clear c20
                                try clear c22
                                try clear c22b0
                                try clear c22b1
                                try clear c23
                                try clear c31
                                try clear c31b0
                                try clear c31b1
                                try clear c32
                                try clear c32b0
                                try clear c32b1
                                try clear c33
                                try clear c33b0
                                try clear c34
                                try clear c34b0
                                try clear c35
                                try clear c35b0
                                try clear c37
                                try clear c37b0
                                try clear c41
                                try clear c47
                                try clear c47b0
                                try clear c47b1
                                try clear c48
                                try clear c48b0
                                try clear c48b1
                                try clear c49
                                try clear c50
                                try clear c51
                                try clear c51b0
                                try clear c51b1
                                try clear c54
                                try clear c54b0
                                try clear c54b1
                                try clear c57
                                try clear c63
                                try clear c63b0
                                try clear c63b1
                                try clear c64
                                try clear c64b0
                                try clear c64b1
                                try clear c65
                                try clear c65b0
                                try clear c65b1
                                try clear c69
                                try clear hcz36_0
                                try clear hcz36_1
                                try clear hcz36_2
                                try clear hcz36_3
                                try clear hcz38_0
                                try clear hcz38_1
                                try clear hcz38_2
                                try clear hcz38_3
                                try clear hcz40_0
                                try clear hcz40_1
                                try clear hcz40_2
                                try clear hcz40_3
                                try clear hcz52_0
                                try clear hcz52_1
                                try clear hcz52_2
                                try clear hcz52_3
                                try clear hcz53_0
                                try clear hcz53_1
                                try clear hcz53_2
                                try clear hcz53_3
                                try clear hcz55_0
                                try clear hcz55_1
                                try clear hcz55_2
                                try clear hcz55_3
                                try clear hcz56_0
                                try clear hcz56_1
                                try clear hcz56_2
                                try clear hcz56_3
                                try clear hfz36_0
                                try clear hfz36_1
                                try clear hfz36_2
                                try clear hfz36_3
                                try clear hfz38_0
                                try clear hfz38_1
                                try clear hfz38_2
                                try clear hfz38_3
                                try clear hfz40_0
                                try clear hfz40_1
                                try clear hfz40_2
                                try clear hfz40_3
                                try clear hfz52_0
                                try clear hfz52_1
                                try clear hfz52_2
                                try clear hfz52_3
                                try clear hfz53_0
                                try clear hfz53_1
                                try clear hfz53_2
                                try clear hfz53_3
                                try clear hfz55_0
                                try clear hfz55_1
                                try clear hfz55_2
                                try clear hfz55_3
                                try clear hfz56_0
                                try clear hfz56_1
                                try clear hfz56_2
                                try clear hfz56_3
                                try clear p2
                                obtain ⟨x18_5, rfl, HA, HK5, HO_16, HO_17, BK415, HB⟩ := hrel
                                cases gk with
                                | zero => exact absurd HA.out (by simp [examboardlaw50_IncidentMore.l0])
                                | succ k5 =>
                                  have H := HA.out
                                  clear HA
                                  simp only [examboardlaw50_IncidentMore.l0] at H
                                  by_cases c70 : x18_5 < 6
                                  · rw [if_pos c70] at H
                                    have c70b0 : decide (x18_5 < 6) = true := decide_eq_true c70
                                    clear c70
                                    by_cases c71 : 0 ≤ x18_5
                                    · rw [if_pos c71] at H
                                      have c71b0 : decide (0 ≤ x18_5) = true := decide_eq_true c71
                                      clear c71
                                      by_cases c72 : x18_5 < (t441.length : Int)
                                      · rw [if_pos c72] at H
                                        have c72b0 : decide (x18_5 < (t441.length : Int)) = true := decide_eq_true c72
                                        clear c72
                                        by_cases c73 : a1_0 = (wrap64 (x18_5 + 1))
                                        · rw [if_pos c73] at H
                                          have c73b0 : (a1_0 == (wrap64 (x18_5 + 1))) = true := beq_iff_eq.mpr c73
                                          have c73b1 : (a1_0 != (wrap64 (x18_5 + 1))) = false := bne_eq_false_iff_eq.mpr c73
                                          clear c73
                                          by_cases c74 : x18_5 < (t445.length : Int)
                                          · rw [if_pos c74] at H
                                            have c74b0 : decide (x18_5 < (t445.length : Int)) = true := decide_eq_true c74
                                            clear c74
                                            by_cases c75 : (rd t445 x18_5) = (wrap64 ((rd t441 x18_5) + 1))
                                            · rw [if_pos c75] at H
                                              have c75b0 : ((rd t445 x18_5) == (wrap64 ((rd t441 x18_5) + 1))) = true := beq_iff_eq.mpr c75
                                              have c75b1 : ((rd t445 x18_5) != (wrap64 ((rd t441 x18_5) + 1))) = false := bne_eq_false_iff_eq.mpr c75
                                              clear c75
                                              have H' := Aside0.mk H
                                              clear H
                                              obtain ⟨Ao76, co76, eo76⟩ := Kd.R_slice HO_16.out
                                              subst eo76
                                              have p450 : 0 ≤ (x18_5 : Int) := of_decide_eq_true (by first | (with_reducible assumption) | assumption)
                                              have q450 : x18_5 < (t441.length : Int) := of_decide_eq_true (by first | (with_reducible assumption) | assumption)
                                              obtain ⟨ad450, e450, hx450_0⟩ := Kd.at_int (Kd.R_reads' HO_16.out).2.2 x18_5 p450 q450
                                              cases e450
                                              replace p450 := eq_true p450
                                              replace q450 := eq_true q450
                                              have hcz77_0 : wr.cell? ⟨gb415, 0, none⟩ = some (.int .i64 a1_0) := (blk_cell BK415.out 0).trans rfl
                                              have hcz77_1 : wr.cell? ⟨gb415, 1, none⟩ = some (.int .i64 a1_1) := (blk_cell BK415.out 1).trans rfl
                                              have hcz77_2 : wr.cell? ⟨gb415, 2, none⟩ = some (.int .i64 a1_2) := (blk_cell BK415.out 2).trans rfl
                                              have hcz77_3 : wr.cell? ⟨gb415, 3, none⟩ = some (.int .i64 a1_3) := (blk_cell BK415.out 3).trans rfl
                                              have hfz77_0 := blk_frozen BK415.out 0
                                              have hfz77_1 := blk_frozen BK415.out 1
                                              have hfz77_2 := blk_frozen BK415.out 2
                                              have hfz77_3 := blk_frozen BK415.out 3
                                              obtain ⟨Ao78, co78, eo78⟩ := Kd.R_slice HO_17.out
                                              subst eo78
                                              have p451 : 0 ≤ (x18_5 : Int) := of_decide_eq_true (by first | (with_reducible assumption) | assumption)
                                              have q451 : x18_5 < (t445.length : Int) := of_decide_eq_true (by first | (with_reducible assumption) | assumption)
                                              obtain ⟨ad451, e451, hx451_0⟩ := Kd.at_int (Kd.R_reads' HO_17.out).2.2 x18_5 p451 q451
                                              cases e451
                                              replace p451 := eq_true p451
                                              replace q451 := eq_true q451
                                              go_wp2
                                              go_roundg k5
                                              case measure => have := HJ7.out; have := HJ27.out; have := HJ43.out; have := HJ59.out; have := HK5.out; omega
                                              case rel => exact ⟨(wrap64 (x18_5 + 1)), (by first | rfl | (simp; done) | (simp [*]; done)), H', ⟨by have := HJ7.out; have := HJ27.out; have := HJ43.out; have := HJ59.out; have := HK5.out; omega⟩, ⟨by (with_reducible repeat (first | apply Kd.R_alloc | apply Kd.R_drewN | apply Kd.R_drew)); exact HO_16.out⟩, ⟨by (with_reducible repeat (first | apply Kd.R_alloc | apply Kd.R_drewN | apply Kd.R_drew)); exact HO_17.out⟩, ⟨by (with_reducible repeat (first | refine blk_drewN ?_ _ | refine blk_drew ?_ | refine blk_alloc ?_ _)); exact BK415.out⟩, ⟨by repeat (first | (with_reducible first | exact HB.out | apply below_alloc | apply pw_below_drewN | apply below_drew1 | refine below_set ?_ GE415.out) | exact HB.out)⟩⟩
                                            · rw [if_neg c75] at H
                                              exact absurd (hr.symm.trans (Option.some.inj H).symm) (by decide)
                                          · rw [if_neg c74] at H
                                            exact absurd H (by simp)
                                        · rw [if_neg c73] at H
                                          have c73b0 : (a1_0 == (wrap64 (x18_5 + 1))) = false := beq_eq_false_iff_ne.mpr c73
                                          have c73b1 : (a1_0 != (wrap64 (x18_5 + 1))) = true := bne_iff_ne.mpr c73
                                          by_cases c82 : x18_5 < (t445.length : Int)
                                          · rw [if_pos c82] at H
                                            have c82b0 : decide (x18_5 < (t445.length : Int)) = true := decide_eq_true c82
                                            clear c82
                                            by_cases c83 : (rd t445 x18_5) = (rd t441 x18_5)
                                            · rw [if_pos c83] at H
                                              have c83b0 : ((rd t445 x18_5) == (rd t441 x18_5)) = true := beq_iff_eq.mpr c83
                                              have c83b1 : ((rd t445 x18_5) != (rd t441 x18_5)) = false := bne_eq_false_iff_eq.mpr c83
                                              clear c83
                                              have H' := Aside0.mk H
                                              clear H
                                              obtain ⟨Ao84, co84, eo84⟩ := Kd.R_slice HO_16.out
                                              subst eo84
                                              have p450 : 0 ≤ (x18_5 : Int) := of_decide_eq_true (by first | (with_reducible assumption) | assumption)
                                              have q450 : x18_5 < (t441.length : Int) := of_decide_eq_true (by first | (with_reducible assumption) | assumption)
                                              obtain ⟨ad450, e450, hx450_0⟩ := Kd.at_int (Kd.R_reads' HO_16.out).2.2 x18_5 p450 q450
                                              cases e450
                                              replace p450 := eq_true p450
                                              replace q450 := eq_true q450
                                              have hcz85_0 : wr.cell? ⟨gb415, 0, none⟩ = some (.int .i64 a1_0) := (blk_cell BK415.out 0).trans rfl
                                              have hcz85_1 : wr.cell? ⟨gb415, 1, none⟩ = some (.int .i64 a1_1) := (blk_cell BK415.out 1).trans rfl
                                              have hcz85_2 : wr.cell? ⟨gb415, 2, none⟩ = some (.int .i64 a1_2) := (blk_cell BK415.out 2).trans rfl
                                              have hcz85_3 : wr.cell? ⟨gb415, 3, none⟩ = some (.int .i64 a1_3) := (blk_cell BK415.out 3).trans rfl
                                              have hfz85_0 := blk_frozen BK415.out 0
                                              have hfz85_1 := blk_frozen BK415.out 1
                                              have hfz85_2 := blk_frozen BK415.out 2
                                              have hfz85_3 := blk_frozen BK415.out 3
                                              obtain ⟨Ao86, co86, eo86⟩ := Kd.R_slice HO_17.out
                                              subst eo86
                                              have p452 : 0 ≤ (x18_5 : Int) := of_decide_eq_true (by first | (with_reducible assumption) | assumption)
                                              have q452 : x18_5 < (t445.length : Int) := of_decide_eq_true (by first | (with_reducible assumption) | assumption)
                                              obtain ⟨ad452, e452, hx452_0⟩ := Kd.at_int (Kd.R_reads' HO_17.out).2.2 x18_5 p452 q452
                                              cases e452
                                              replace p452 := eq_true p452
                                              replace q452 := eq_true q452
                                              go_wp2
                                              go_roundg k5
                                              case measure => have := HJ7.out; have := HJ27.out; have := HJ43.out; have := HJ59.out; have := HK5.out; omega
                                              case rel => exact ⟨(wrap64 (x18_5 + 1)), (by first | rfl | (simp; done) | (simp [*]; done)), H', ⟨by have := HJ7.out; have := HJ27.out; have := HJ43.out; have := HJ59.out; have := HK5.out; omega⟩, ⟨by (with_reducible repeat (first | apply Kd.R_alloc | apply Kd.R_drewN | apply Kd.R_drew)); exact HO_16.out⟩, ⟨by (with_reducible repeat (first | apply Kd.R_alloc | apply Kd.R_drewN | apply Kd.R_drew)); exact HO_17.out⟩, ⟨by (with_reducible repeat (first | refine blk_drewN ?_ _ | refine blk_drew ?_ | refine blk_alloc ?_ _)); exact BK415.out⟩, ⟨by repeat (first | (with_reducible first | exact HB.out | apply below_alloc | apply pw_below_drewN | apply below_drew1 | refine below_set ?_ GE415.out) | exact HB.out)⟩⟩
                                            · rw [if_neg c83] at H
                                              exact absurd (hr.symm.trans (Option.some.inj H).symm) (by decide)
                                          · rw [if_neg c82] at H
                                            exact absurd H (by simp)
                                      · rw [if_neg c72] at H
                                        exact absurd H (by simp)
                                    · rw [if_neg c71] at H
                                      exact absurd H (by simp)
                                  · rw [if_neg c70] at H
                                    have c70b0 : decide (x18_5 < 6) = false := decide_eq_false c70
                                    clear c70
                                    replace H := Option.bind_eq_some_iff.mp H
                                    obtain ⟨t449, A900, H⟩ := H
                                    replace H : (some t449) = some r := H
                                    have A90 := Aside0.mk A900
                                    clear A900
                                    obtain rfl := Option.some.inj H
                                    go_wp2_with (first | ((with_reducible refine gate_callee (f := 15) rfl ?_); refine goesL_ (some 166) rfl rfl Tryd.func15 (by kernel_rfl) rfl #[] rfl (by (try simp only [List.map_toArray, List.map_cons, List.map_nil]); first | done | rfl | (simp only [List.length_drop, List.length_take]; rfl)) ?_; (with_reducible refine (awake.calls  t449 _ A90.out (hG.below (by repeat (first | (with_reducible first | exact HB.out | apply below_alloc | apply pw_below_drewN | apply below_drew1 | refine below_set ?_ GE415.out) | exact HB.out)))).mono ?_); rintro e w91 ⟨rfl, hb⟩; refine ⟨_, rfl, ?_⟩; have n0_ := Aside0.mk (Kd.R_below (by (with_reducible repeat (first | apply Kd.R_alloc | apply Kd.R_drewN | apply Kd.R_drew)); exact HO_16.out) hb); have n1_ := Aside0.mk (Kd.R_below (by (with_reducible repeat (first | apply Kd.R_alloc | apply Kd.R_drewN | apply Kd.R_drew)); exact HO_17.out) hb); have n2_ := Aside0.mk (blk_below (g := gb415) (o := .cells #[.int .i64 a1_0, .int .i64 a1_1, .int .i64 a1_2, .int .i64 a1_3] 23 (0, 0)) (by (with_reducible repeat (first | refine blk_drewN ?_ _ | refine blk_drew ?_ | refine blk_alloc ?_ _)); exact BK415.out) hb); have n3_ := Aside0.mk (below_step (by repeat (first | (with_reducible first | exact HB.out | apply below_alloc | apply pw_below_drewN | apply below_drew1 | refine below_set ?_ GE415.out) | exact HB.out)) hb); clear HO_16; clear HO_17; clear BK415; clear HB; have HO_16 := n0_; have HO_17 := n1_; have BK415 := n2_; have HB := n3_; clear n0_ n1_ n2_ n3_; (try clear hb); (try clear hb2); (try clear hk); (try clear hi)))
                                    go_ret
                                    exact ⟨by first | rfl | (simp [errW_none, errW_some] <;> rfl) | (simp [*, errW_none, errW_some] <;> rfl), by repeat (first | (with_reducible first | exact HB.out | apply below_alloc | apply pw_below_drewN | apply below_drew1 | refine below_set ?_ GE415.out) | exact HB.out)⟩
    · rw [if_neg c5] at H
      exact absurd H (by simp)
  · rw [if_neg c4] at H
    exact absurd H (by simp)

end Go.Proofs.YtidehmfaebiebaaDoor.PInc
