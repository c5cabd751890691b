/- Contracts of the functions that the law reaches, written by a program of the session out of the translation (the kit's print program, with contracts given by hand where it has none). Conditions: those that each theorem states. -/
import Derived.Test.YtjopendipackpaaDoorPClkx0
import Derived.Test.YtjopendipackpaaDoorPClkx6
namespace Go.Proofs.YtjopendipackpaaDoor.PClk
open Go.RowKit Go.Proofs.YtjopendipackpaaDoorW.PrintWords Go.Proofs.YtjopendipackpaaDoorW.PrintLast Go.Proofs.YtjopendipackpaaDoorW.PrintMore
attribute [local go_sem] max2_int min2_int max_two min_two max_three min_three max_four min_four   -- for this text's walks alone
set_option linter.unusedVariables false
set_option linter.unusedSimpArgs false

/-! ### examboardref47_Print: function 9 -/
def examboardref47_Print.j0 : Nat → Int → Bool → Option (ByteArray × Int)
  | 0, _, _ => none
  | k + 1, x0, x10 => if x10 = true then (some ((⟨#[]⟩ : ByteArray), 3)) else ((examboardref47_two.f (wrap64 (Int.tdiv x0 3600))).bind fun t118 => (if 0 < (t118.size : Int) then (if (bt t118 0) = 48 then (if 1 ≤ (t118.size : Int) then (if (t118.extract 1 t118.size).size + 1 ≤ 9223372036854775807 then ((examboardref47_two.f (Int.tmod (wrap64 (Int.tdiv x0 60)) 60)).bind fun t119 => (if ((t118.extract 1 t118.size) ++ (⟨#[58]⟩ : ByteArray)).size + t119.size ≤ 9223372036854775807 then (if (((t118.extract 1 t118.size) ++ (⟨#[58]⟩ : ByteArray)) ++ t119).size + 1 ≤ 9223372036854775807 then ((examboardref47_two.f (Int.tmod x0 60)).bind fun t120 => (if ((((t118.extract 1 t118.size) ++ (⟨#[58]⟩ : ByteArray)) ++ t119) ++ (⟨#[58]⟩ : ByteArray)).size + t120.size ≤ 9223372036854775807 then (some (((((t118.extract 1 t118.size) ++ (⟨#[58]⟩ : ByteArray)) ++ t119) ++ (⟨#[58]⟩ : ByteArray)) ++ t120, 0)) else (none))) else (none)) else (none))) else (none)) else (none)) else (if t118.size + 1 ≤ 9223372036854775807 then ((examboardref47_two.f (Int.tmod (wrap64 (Int.tdiv x0 60)) 60)).bind fun t121 => (if (t118 ++ (⟨#[58]⟩ : ByteArray)).size + t121.size ≤ 9223372036854775807 then (if ((t118 ++ (⟨#[58]⟩ : ByteArray)) ++ t121).size + 1 ≤ 9223372036854775807 then ((examboardref47_two.f (Int.tmod x0 60)).bind fun t122 => (if (((t118 ++ (⟨#[58]⟩ : ByteArray)) ++ t121) ++ (⟨#[58]⟩ : ByteArray)).size + t122.size ≤ 9223372036854775807 then (some ((((t118 ++ (⟨#[58]⟩ : ByteArray)) ++ t121) ++ (⟨#[58]⟩ : ByteArray)) ++ t122, 0)) else (none))) else (none)) else (none))) else (none))) else (none)))
def examboardref47_Print.f (k : Nat) (a0 : Int) : Option (ByteArray × Int) := if a0 < 0 then (examboardref47_Print.j0 k a0 true) else (examboardref47_Print.j0 k a0 (decide (a0 > 359999)))
theorem examboardref47_Print.mono_l : ∀ k, (∀ y0 y1, LeO (examboardref47_Print.j0 k y0 y1) (examboardref47_Print.j0 (k + 1) y0 y1))
  | 0 => fun _ _ r h => by simp [examboardref47_Print.j0] at h
  | k + 1 => by
    have ih0 := examboardref47_Print.mono_l k
    · intro y0 y1
      unfold examboardref47_Print.j0
      repeat' first
      | (with_reducible exact ih0 _ _)
      | (with_reducible exact LeO.refl _)
      | (with_reducible exact LeO.none _)
      | (with_reducible refine LeO.ite ?_ ?_)
      | (with_reducible refine LeO.bind ?_ (fun _ => ?_))
      | exact ih0 _ _
      | exact LeO.none _
      | refine LeO.ite ?_ ?_
      | refine LeO.bind ?_ (fun _ => ?_)
theorem examboardref47_Print.mono : ∀ a0 k, LeO (examboardref47_Print.f k a0) (examboardref47_Print.f (k + 1) a0) := by
  intro a0 k
  have ih0 := examboardref47_Print.mono_l k
  unfold examboardref47_Print.f
  repeat' first
      | (with_reducible exact ih0 _ _)
      | (with_reducible exact LeO.refl _)
      | (with_reducible exact LeO.none _)
      | (with_reducible refine LeO.ite ?_ ?_)
      | (with_reducible refine LeO.bind ?_ (fun _ => ?_))
      | exact ih0 _ _
      | exact LeO.none _
      | refine LeO.ite ?_ ?_
      | refine LeO.bind ?_ (fun _ => ?_)
set_option maxHeartbeats 8000000 in
set_option maxRecDepth 100000 in
theorem examboardref47_Print.calls (k : Nat) (a0 : Int) (r1 : ByteArray) (r2 : Int) (w : World) (h : examboardref47_Print.f k a0 = some (r1, r2)) :
    Calls Tryd.prog 9 #[.int .i64 a0] w fun e w' => e = .returned (.tuple #[.string r1, .int .i64 r2]) ∧ Below w.heap.size w w' := by
  have HB := Aside0.mk (Below.refl w.heap.size w)
  have H : (if a0 < 0 then (examboardref47_Print.j0 k a0 true) else (examboardref47_Print.j0 k a0 (decide (a0 > 359999)))) = some (r1, r2) := h
  clear h
  have HC2 := Aside0.mk H
  clear H
  go_enter Tryd.func9, Tryd.ntmps9
  go_upto_region 1 with (fail)
  go_cut [10] (fun v10 wc => ∃ (kq : Nat) (x10_1 : Bool), v10 = .bool x10_1 ∧ Aside0 (examboardref47_Print.j0 kq a0 x10_1 = some (r1, r2)) ∧ Aside0 (kq ≤ k) ∧ Aside0 (Below w.heap.size w wc))
  case first =>
    have H := HC2.out
    clear HC2
    by_cases c3 : a0 < 0
    · rw [if_pos c3] at H
      have c3b0 : decide (a0 < 0) = true := decide_eq_true c3
      clear c3
      (first | rw [c3b0] | (simp only [i64_w, i32_w]; rw [c3b0]) | skip)
      have H' := Aside0.mk H
      clear H
      go_wp2
      go_meet
      case rel => exact ⟨_, (true), (by first | rfl | (simp; done) | (simp [*]; done)), H', ⟨by first | omega | exact Nat.le_refl _⟩, ⟨by repeat (first | (with_reducible first | exact HB.out | apply below_alloc | apply pw_below_drewN | apply below_drew1) | exact HB.out)⟩⟩
    · rw [if_neg c3] at H
      have c3b0 : decide (a0 < 0) = false := decide_eq_false c3
      clear c3
      (first | rw [c3b0] | (simp only [i64_w, i32_w]; rw [c3b0]) | skip)
      have H' := Aside0.mk H
      clear H
      go_wp2
      go_meet
      case rel => exact ⟨_, (decide (a0 > 359999)), (by first | rfl | (simp; done) | (simp [*]; done)), H', ⟨by first | omega | exact Nat.le_refl _⟩, ⟨by repeat (first | (with_reducible first | exact HB.out | apply below_alloc | apply pw_below_drewN | apply below_drew1) | exact HB.out)⟩⟩
  case rest =>
    clear HC2
    try clear p2
    try clear c3
    try clear c3b0
    obtain ⟨kq, x10_1, rfl, HA, HJ1, HB⟩ := hcut
    cases kq with
    | zero => exact absurd HA.out (by simp [examboardref47_Print.j0])
    | succ kj1 =>
      have H := HA.out
      clear HA
      simp only [examboardref47_Print.j0] at H
      by_cases c4 : x10_1 = true
      · subst c4
        have H1 : (some ((⟨#[]⟩ : ByteArray), 3)) = some (r1, r2) := by rw [if_pos rfl] at H; exact H
        clear H
        have H := H1
        clear H1
        simp only [Option.some.injEq, Prod.mk.injEq] at H
        obtain ⟨rfl, rfl⟩ := H
        go_wp2
        go_ret2
        exact ⟨by first | rfl | (simp [errW_none, errW_some] <;> rfl) | (simp [*, errW_none, errW_some] <;> rfl), by repeat (first | (with_reducible first | exact HB.out | apply below_alloc | apply pw_below_drewN | apply below_drew1) | exact HB.out)⟩
      · replace c4 := Bool.eq_false_iff.mpr c4
        subst c4
        have H1 : ((examboardref47_two.f (wrap64 (Int.tdiv a0 3600))).bind fun t118 => (if 0 < (t118.size : Int) then (if (bt t118 0) = 48 then (if 1 ≤ (t118.size : Int) then (if (t118.extract 1 t118.size).size + 1 ≤ 9223372036854775807 then ((examboardref47_two.f (Int.tmod (wrap64 (Int.tdiv a0 60)) 60)).bind fun t119 => (if ((t118.extract 1 t118.size) ++ (⟨#[58]⟩ : ByteArray)).size + t119.size ≤ 9223372036854775807 then (if (((t118.extract 1 t118.size) ++ (⟨#[58]⟩ : ByteArray)) ++ t119).size + 1 ≤ 9223372036854775807 then ((examboardref47_two.f (Int.tmod a0 60)).bind fun t120 => (if ((((t118.extract 1 t118.size) ++ (⟨#[58]⟩ : ByteArray)) ++ t119) ++ (⟨#[58]⟩ : ByteArray)).size + t120.size ≤ 9223372036854775807 then (some (((((t118.extract 1 t118.size) ++ (⟨#[58]⟩ : ByteArray)) ++ t119) ++ (⟨#[58]⟩ : ByteArray)) ++ t120, 0)) else (none))) else (none)) else (none))) else (none)) else (none)) else (if t118.size + 1 ≤ 9223372036854775807 then ((examboardref47_two.f (Int.tmod (wrap64 (Int.tdiv a0 60)) 60)).bind fun t121 => (if (t118 ++ (⟨#[58]⟩ : ByteArray)).size + t121.size ≤ 9223372036854775807 then (if ((t118 ++ (⟨#[58]⟩ : ByteArray)) ++ t121).size + 1 ≤ 9223372036854775807 then ((examboardref47_two.f (Int.tmod a0 60)).bind fun t122 => (if (((t118 ++ (⟨#[58]⟩ : ByteArray)) ++ t121) ++ (⟨#[58]⟩ : ByteArray)).size + t122.size ≤ 9223372036854775807 then (some ((((t118 ++ (⟨#[58]⟩ : ByteArray)) ++ t121) ++ (⟨#[58]⟩ : ByteArray)) ++ t122, 0)) else (none))) else (none)) else (none))) else (none))) else (none))) = some (r1, r2) := by rw [if_neg (show ¬ (false = true) by decide)] at H; exact H
        clear H
        have H := H1
        clear H1
        replace H := Option.bind_eq_some_iff.mp H
        obtain ⟨t118, A50, H⟩ := H
        replace H : (if 0 < (t118.size : Int) then (if (bt t118 0) = 48 then (if 1 ≤ (t118.size : Int) then (if (t118.extract 1 t118.size).size + 1 ≤ 9223372036854775807 then ((examboardref47_two.f (Int.tmod (wrap64 (Int.tdiv a0 60)) 60)).bind fun t119 => (if ((t118.extract 1 t118.size) ++ (⟨#[58]⟩ : ByteArray)).size + t119.size ≤ 9223372036854775807 then (if (((t118.extract 1 t118.size) ++ (⟨#[58]⟩ : ByteArray)) ++ t119).size + 1 ≤ 9223372036854775807 then ((examboardref47_two.f (Int.tmod a0 60)).bind fun t120 => (if ((((t118.extract 1 t118.size) ++ (⟨#[58]⟩ : ByteArray)) ++ t119) ++ (⟨#[58]⟩ : ByteArray)).size + t120.size ≤ 9223372036854775807 then (some (((((t118.extract 1 t118.size) ++ (⟨#[58]⟩ : ByteArray)) ++ t119) ++ (⟨#[58]⟩ : ByteArray)) ++ t120, 0)) else (none))) else (none)) else (none))) else (none)) else (none)) else (if t118.size + 1 ≤ 9223372036854775807 then ((examboardref47_two.f (Int.tmod (wrap64 (Int.tdiv a0 60)) 60)).bind fun t121 => (if (t118 ++ (⟨#[58]⟩ : ByteArray)).size + t121.size ≤ 9223372036854775807 then (if ((t118 ++ (⟨#[58]⟩ : ByteArray)) ++ t121).size + 1 ≤ 9223372036854775807 then ((examboardref47_two.f (Int.tmod a0 60)).bind fun t122 => (if (((t118 ++ (⟨#[58]⟩ : ByteArray)) ++ t121) ++ (⟨#[58]⟩ : ByteArray)).size + t122.size ≤ 9223372036854775807 then (some ((((t118 ++ (⟨#[58]⟩ : ByteArray)) ++ t121) ++ (⟨#[58]⟩ : ByteArray)) ++ t122, 0)) else (none))) else (none)) else (none))) else (none))) else (none)) = some (r1, r2) := H
        have A5 := Aside0.mk A50
        clear A50
        by_cases c6 : 0 < (t118.size : Int)
        · rw [if_pos c6] at H
          have c6b0 : decide (0 < (t118.size : Int)) = true := decide_eq_true c6
          have c6b1 : decide (0 < t118.size) = true := decide_eq_true (by omega)
          clear c6
          by_cases c8 : (bt t118 0) = 48
          · rw [if_pos c8] at H
            have c8b0 : ((bt t118 0) == 48) = true := beq_iff_eq.mpr c8
            have c8b1 : ((bt t118 0) != 48) = false := bne_eq_false_iff_eq.mpr c8
            clear c8
            by_cases c9 : 1 ≤ (t118.size : Int)
            · rw [if_pos c9] at H
              have c9b0 := eq_true c9
              have c9b1 : decide (1 ≤ (t118.size : Int)) = true := decide_eq_true c9
              clear c9
              by_cases c10 : (t118.extract 1 t118.size).size + 1 ≤ 9223372036854775807
              · rw [if_pos c10] at H
                have c10b0 := eq_true c10
                have c10b1 : decide ((t118.extract 1 t118.size).size + 1 ≤ 9223372036854775807) = true := decide_eq_true c10
                try have c10b2 : (9223372036854775807 < (t118.extract 1 t118.size).size + 1) = False := eq_false (Nat.not_lt.2 c10)
                replace H := Option.bind_eq_some_iff.mp H
                obtain ⟨t119, A110, H⟩ := H
                replace H : (if ((t118.extract 1 t118.size) ++ (⟨#[58]⟩ : ByteArray)).size + t119.size ≤ 9223372036854775807 then (if (((t118.extract 1 t118.size) ++ (⟨#[58]⟩ : ByteArray)) ++ t119).size + 1 ≤ 9223372036854775807 then ((examboardref47_two.f (Int.tmod a0 60)).bind fun t120 => (if ((((t118.extract 1 t118.size) ++ (⟨#[58]⟩ : ByteArray)) ++ t119) ++ (⟨#[58]⟩ : ByteArray)).size + t120.size ≤ 9223372036854775807 then (some (((((t118.extract 1 t118.size) ++ (⟨#[58]⟩ : ByteArray)) ++ t119) ++ (⟨#[58]⟩ : ByteArray)) ++ t120, 0)) else (none))) else (none)) else (none)) = some (r1, r2) := H
                have A11 := Aside0.mk A110
                clear A110
                by_cases c12 : ((t118.extract 1 t118.size) ++ (⟨#[58]⟩ : ByteArray)).size + t119.size ≤ 9223372036854775807
                · rw [if_pos c12] at H
                  have c12b0 := eq_true c12
                  have c12b1 : decide (((t118.extract 1 t118.size) ++ (⟨#[58]⟩ : ByteArray)).size + t119.size ≤ 9223372036854775807) = true := decide_eq_true c12
                  try have c12b2 : (9223372036854775807 < ((t118.extract 1 t118.size) ++ (⟨#[58]⟩ : ByteArray)).size + t119.size) = False := eq_false (Nat.not_lt.2 c12)
                  by_cases c13 : (((t118.extract 1 t118.size) ++ (⟨#[58]⟩ : ByteArray)) ++ t119).size + 1 ≤ 9223372036854775807
                  · rw [if_pos c13] at H
                    have c13b0 := eq_true c13
                    have c13b1 : decide ((((t118.extract 1 t118.size) ++ (⟨#[58]⟩ : ByteArray)) ++ t119).size + 1 ≤ 9223372036854775807) = true := decide_eq_true c13
                    try have c13b2 : (9223372036854775807 < (((t118.extract 1 t118.size) ++ (⟨#[58]⟩ : ByteArray)) ++ t119).size + 1) = False := eq_false (Nat.not_lt.2 c13)
                    replace H := Option.bind_eq_some_iff.mp H
                    obtain ⟨t120, A140, H⟩ := H
                    replace H : (if ((((t118.extract 1 t118.size) ++ (⟨#[58]⟩ : ByteArray)) ++ t119) ++ (⟨#[58]⟩ : ByteArray)).size + t120.size ≤ 9223372036854775807 then (some (((((t118.extract 1 t118.size) ++ (⟨#[58]⟩ : ByteArray)) ++ t119) ++ (⟨#[58]⟩ : ByteArray)) ++ t120, 0)) else (none)) = some (r1, r2) := H
                    have A14 := Aside0.mk A140
                    clear A140
                    by_cases c15 : ((((t118.extract 1 t118.size) ++ (⟨#[58]⟩ : ByteArray)) ++ t119) ++ (⟨#[58]⟩ : ByteArray)).size + t120.size ≤ 9223372036854775807
                    · rw [if_pos c15] at H
                      have c15b0 := eq_true c15
                      have c15b1 : decide (((((t118.extract 1 t118.size) ++ (⟨#[58]⟩ : ByteArray)) ++ t119) ++ (⟨#[58]⟩ : ByteArray)).size + t120.size ≤ 9223372036854775807) = true := decide_eq_true c15
                      try have c15b2 : (9223372036854775807 < ((((t118.extract 1 t118.size) ++ (⟨#[58]⟩ : ByteArray)) ++ t119) ++ (⟨#[58]⟩ : ByteArray)).size + t120.size) = False := eq_false (Nat.not_lt.2 c15)
                      simp only [Option.some.injEq, Prod.mk.injEq] at H
                      obtain ⟨rfl, rfl⟩ := H
                      go_wp2_with (first | ((with_reducible refine gate_callee (f := 13) rfl ?_); refine goesL_ (some 13) rfl rfl Tryd.func13 (by kernel_rfl) rfl #[.int .i64 (wrap64 (Int.tdiv a0 3600))] rfl (by (try simp only [List.map_toArray, List.map_cons, List.map_nil]); first | done | rfl | (simp only [List.length_drop, List.length_take]; rfl)) ?_; (with_reducible refine (examboardref47_two.calls (wrap64 (Int.tdiv a0 3600)) t118 _ A5.out).mono ?_); rintro e w16 ⟨rfl, hb⟩; refine ⟨_, rfl, ?_⟩; have n0_ := Aside0.mk (below_step (by repeat (first | (with_reducible first | exact HB.out | apply below_alloc | apply pw_below_drewN | apply below_drew1) | exact HB.out)) hb); clear HB; have HB := n0_; clear n0_; (try clear hb); (try clear hb2); (try clear hk); (try clear hi); have p7 : 0 ≤ (0 : Int) := (by omega); have q7 : 0 < t118.size := (by have : (0 : Int) < (t118.size : Int) := of_decide_eq_true (by first | (with_reducible assumption) | assumption); omega); have hx7 : ∀ h : 0 < t118.size, ((t118[0]'h).toNat : Int) = bt t118 0 := bt_at t118 0; clear p7; have qi7 : (0 < (t118.size : Int)) = True := eq_true (of_decide_eq_true (by first | (with_reducible assumption) | assumption)); replace q7 := eq_true q7) | ((with_reducible refine gate_callee (f := 13) rfl ?_); refine goesL_ (some 24) rfl rfl Tryd.func13 (by kernel_rfl) rfl #[.int .i64 (Int.tmod (wrap64 (Int.tdiv a0 60)) 60)] rfl (by (try simp only [List.map_toArray, List.map_cons, List.map_nil]); first | done | rfl | (simp only [List.length_drop, List.length_take]; rfl)) ?_; (with_reducible refine (examboardref47_two.calls (Int.tmod (wrap64 (Int.tdiv a0 60)) 60) t119 _ A11.out).mono ?_); rintro e w17 ⟨rfl, hb⟩; refine ⟨_, rfl, ?_⟩; have n0_ := Aside0.mk (below_step (by repeat (first | (with_reducible first | exact HB.out | apply below_alloc | apply pw_below_drewN | apply below_drew1) | exact HB.out)) hb); clear HB; have HB := n0_; clear n0_; (try clear hb); (try clear hb2); (try clear hk); (try clear hi)) | ((with_reducible refine gate_callee (f := 13) rfl ?_); refine goesL_ (some 29) rfl rfl Tryd.func13 (by kernel_rfl) rfl #[.int .i64 (Int.tmod a0 60)] rfl (by (try simp only [List.map_toArray, List.map_cons, List.map_nil]); first | done | rfl | (simp only [List.length_drop, List.length_take]; rfl)) ?_; (with_reducible refine (examboardref47_two.calls (Int.tmod a0 60) t120 _ A14.out).mono ?_); rintro e w18 ⟨rfl, hb⟩; refine ⟨_, rfl, ?_⟩; have n0_ := Aside0.mk (below_step (by repeat (first | (with_reducible first | exact HB.out | apply below_alloc | apply pw_below_drewN | apply below_drew1) | exact HB.out)) hb); clear HB; have HB := n0_; clear n0_; (try clear hb); (try clear hb2); (try clear hk); (try clear hi)))
                      any_goals (exfalso; simp only [ByteArray.size, ByteArray.data_append, ByteArray.data_extract, Array.size_append, Array.size_extract, List.size_toArray, List.length_cons, List.length_nil] at *; omega)   -- noBig
                      go_ret2
                      exact ⟨by first | rfl | (simp [errW_none, errW_some] <;> rfl) | (simp [*, errW_none, errW_some] <;> rfl), by repeat (first | (with_reducible first | exact HB.out | apply below_alloc | apply pw_below_drewN | apply below_drew1) | exact HB.out)⟩
                    · rw [if_neg c15] at H
                      exact absurd H (by simp)
                  · rw [if_neg c13] at H
                    exact absurd H (by simp)
                · rw [if_neg c12] at H
                  exact absurd H (by simp)
              · rw [if_neg c10] at H
                exact absurd H (by simp)
            · rw [if_neg c9] at H
              exact absurd H (by simp)
          · rw [if_neg c8] at H
            have c8b0 : ((bt t118 0) == 48) = false := beq_eq_false_iff_ne.mpr c8
            have c8b1 : ((bt t118 0) != 48) = true := bne_iff_ne.mpr c8
            by_cases c19 : t118.size + 1 ≤ 9223372036854775807
            · rw [if_pos c19] at H
              have c19b0 := eq_true c19
              have c19b1 : decide (t118.size + 1 ≤ 9223372036854775807) = true := decide_eq_true c19
              try have c19b2 : (9223372036854775807 < t118.size + 1) = False := eq_false (Nat.not_lt.2 c19)
              replace H := Option.bind_eq_some_iff.mp H
              obtain ⟨t121, A200, H⟩ := H
              replace H : (if (t118 ++ (⟨#[58]⟩ : ByteArray)).size + t121.size ≤ 9223372036854775807 then (if ((t118 ++ (⟨#[58]⟩ : ByteArray)) ++ t121).size + 1 ≤ 9223372036854775807 then ((examboardref47_two.f (Int.tmod a0 60)).bind fun t122 => (if (((t118 ++ (⟨#[58]⟩ : ByteArray)) ++ t121) ++ (⟨#[58]⟩ : ByteArray)).size + t122.size ≤ 9223372036854775807 then (some ((((t118 ++ (⟨#[58]⟩ : ByteArray)) ++ t121) ++ (⟨#[58]⟩ : ByteArray)) ++ t122, 0)) else (none))) else (none)) else (none)) = some (r1, r2) := H
              have A20 := Aside0.mk A200
              clear A200
              by_cases c21 : (t118 ++ (⟨#[58]⟩ : ByteArray)).size + t121.size ≤ 9223372036854775807
              · rw [if_pos c21] at H
                have c21b0 := eq_true c21
                have c21b1 : decide ((t118 ++ (⟨#[58]⟩ : ByteArray)).size + t121.size ≤ 9223372036854775807) = true := decide_eq_true c21
                try have c21b2 : (9223372036854775807 < (t118 ++ (⟨#[58]⟩ : ByteArray)).size + t121.size) = False := eq_false (Nat.not_lt.2 c21)
                by_cases c22 : ((t118 ++ (⟨#[58]⟩ : ByteArray)) ++ t121).size + 1 ≤ 9223372036854775807
                · rw [if_pos c22] at H
                  have c22b0 := eq_true c22
                  have c22b1 : decide (((t118 ++ (⟨#[58]⟩ : ByteArray)) ++ t121).size + 1 ≤ 9223372036854775807) = true := decide_eq_true c22
                  try have c22b2 : (9223372036854775807 < ((t118 ++ (⟨#[58]⟩ : ByteArray)) ++ t121).size + 1) = False := eq_false (Nat.not_lt.2 c22)
                  replace H := Option.bind_eq_some_iff.mp H
                  obtain ⟨t122, A230, H⟩ := H
                  replace H : (if (((t118 ++ (⟨#[58]⟩ : ByteArray)) ++ t121) ++ (⟨#[58]⟩ : ByteArray)).size + t122.size ≤ 9223372036854775807 then (some ((((t118 ++ (⟨#[58]⟩ : ByteArray)) ++ t121) ++ (⟨#[58]⟩ : ByteArray)) ++ t122, 0)) else (none)) = some (r1, r2) := H
                  have A23 := Aside0.mk A230
                  clear A230
                  by_cases c24 : (((t118 ++ (⟨#[58]⟩ : ByteArray)) ++ t121) ++ (⟨#[58]⟩ : ByteArray)).size + t122.size ≤ 9223372036854775807
                  · rw [if_pos c24] at H
                    have c24b0 := eq_true c24
                    have c24b1 : decide ((((t118 ++ (⟨#[58]⟩ : ByteArray)) ++ t121) ++ (⟨#[58]⟩ : ByteArray)).size + t122.size ≤ 9223372036854775807) = true := decide_eq_true c24
                    try have c24b2 : (9223372036854775807 < (((t118 ++ (⟨#[58]⟩ : ByteArray)) ++ t121) ++ (⟨#[58]⟩ : ByteArray)).size + t122.size) = False := eq_false (Nat.not_lt.2 c24)
                    simp only [Option.some.injEq, Prod.mk.injEq] at H
                    obtain ⟨rfl, rfl⟩ := H
                    go_wp2_with (first | ((with_reducible refine gate_callee (f := 13) rfl ?_); refine goesL_ (some 13) rfl rfl Tryd.func13 (by kernel_rfl) rfl #[.int .i64 (wrap64 (Int.tdiv a0 3600))] rfl (by (try simp only [List.map_toArray, List.map_cons, List.map_nil]); first | done | rfl | (simp only [List.length_drop, List.length_take]; rfl)) ?_; (with_reducible refine (examboardref47_two.calls (wrap64 (Int.tdiv a0 3600)) t118 _ A5.out).mono ?_); rintro e w25 ⟨rfl, hb⟩; refine ⟨_, rfl, ?_⟩; have n0_ := Aside0.mk (below_step (by repeat (first | (with_reducible first | exact HB.out | apply below_alloc | apply pw_below_drewN | apply below_drew1) | exact HB.out)) hb); clear HB; have HB := n0_; clear n0_; (try clear hb); (try clear hb2); (try clear hk); (try clear hi); have p7 : 0 ≤ (0 : Int) := (by omega); have q7 : 0 < t118.size := (by have : (0 : Int) < (t118.size : Int) := of_decide_eq_true (by first | (with_reducible assumption) | assumption); omega); have hx7 : ∀ h : 0 < t118.size, ((t118[0]'h).toNat : Int) = bt t118 0 := bt_at t118 0; clear p7; have qi7 : (0 < (t118.size : Int)) = True := eq_true (of_decide_eq_true (by first | (with_reducible assumption) | assumption)); replace q7 := eq_true q7) | ((with_reducible refine gate_callee (f := 13) rfl ?_); refine goesL_ (some 24) rfl rfl Tryd.func13 (by kernel_rfl) rfl #[.int .i64 (Int.tmod (wrap64 (Int.tdiv a0 60)) 60)] rfl (by (try simp only [List.map_toArray, List.map_cons, List.map_nil]); first | done | rfl | (simp only [List.length_drop, List.length_take]; rfl)) ?_; (with_reducible refine (examboardref47_two.calls (Int.tmod (wrap64 (Int.tdiv a0 60)) 60) t121 _ A20.out).mono ?_); rintro e w26 ⟨rfl, hb⟩; refine ⟨_, rfl, ?_⟩; have n0_ := Aside0.mk (below_step (by repeat (first | (with_reducible first | exact HB.out | apply below_alloc | apply pw_below_drewN | apply below_drew1) | exact HB.out)) hb); clear HB; have HB := n0_; clear n0_; (try clear hb); (try clear hb2); (try clear hk); (try clear hi)) | ((with_reducible refine gate_callee (f := 13) rfl ?_); refine goesL_ (some 29) rfl rfl Tryd.func13 (by kernel_rfl) rfl #[.int .i64 (Int.tmod a0 60)] rfl (by (try simp only [List.map_toArray, List.map_cons, List.map_nil]); first | done | rfl | (simp only [List.length_drop, List.length_take]; rfl)) ?_; (with_reducible refine (examboardref47_two.calls (Int.tmod a0 60) t122 _ A23.out).mono ?_); rintro e w27 ⟨rfl, hb⟩; refine ⟨_, rfl, ?_⟩; have n0_ := Aside0.mk (below_step (by repeat (first | (with_reducible first | exact HB.out | apply below_alloc | apply pw_below_drewN | apply below_drew1) | exact HB.out)) hb); clear HB; have HB := n0_; clear n0_; (try clear hb); (try clear hb2); (try clear hk); (try clear hi)))
                    any_goals (exfalso; simp only [ByteArray.size, ByteArray.data_append, ByteArray.data_extract, Array.size_append, Array.size_extract, List.size_toArray, List.length_cons, List.length_nil] at *; omega)   -- noBig
                    go_ret2
                    exact ⟨by first | rfl | (simp [errW_none, errW_some] <;> rfl) | (simp [*, errW_none, errW_some] <;> rfl), by repeat (first | (with_reducible first | exact HB.out | apply below_alloc | apply pw_below_drewN | apply below_drew1) | exact HB.out)⟩
                  · rw [if_neg c24] at H
                    exact absurd H (by simp)
                · rw [if_neg c22] at H
                  exact absurd H (by simp)
              · rw [if_neg c21] at H
                exact absurd H (by simp)
            · rw [if_neg c19] at H
              exact absurd H (by simp)
        · rw [if_neg c6] at H
          exact absurd H (by simp)

end Go.Proofs.YtjopendipackpaaDoor.PClk
