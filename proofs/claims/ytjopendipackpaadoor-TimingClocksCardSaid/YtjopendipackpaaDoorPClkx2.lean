/- Contracts of the functions that the law reaches, written by a program of the session out of the translation (the kit's print program, with contracts given by hand where it has none). Conditions: those that each theorem states. -/
import Derived.Test.YtjopendipackpaaDoorPClkx0
import Derived.Test.YtjopendipackpaaDoorPClkx1
import Derived.Test.YtjopendipackpaaDoorGItoa
namespace Go.Proofs.YtjopendipackpaaDoor.PClk
open Go.RowKit Go.Proofs.YtjopendipackpaaDoorW.PrintWords Go.Proofs.YtjopendipackpaaDoorW.PrintLast Go.Proofs.YtjopendipackpaaDoorW.PrintMore
attribute [local go_sem] max2_int min2_int max_two min_two max_three min_three max_four min_four   -- for this text's walks alone
set_option linter.unusedVariables false
set_option linter.unusedSimpArgs false

/-! ### timing_Print: function 5 -/
def timing_Print.j0 : Nat → Int → Bool → Option (ByteArray × Int)
  | 0, _, _ => none
  | k + 1, x0, x9 => if x9 = true then (some ((⟨#[]⟩ : ByteArray), 3)) else ((itoa.f (wrap64 (Int.tdiv x0 3600))).bind fun t104 => (if t104.size + 1 ≤ 9223372036854775807 then ((timing_two.f (Int.tmod (wrap64 (Int.tdiv x0 60)) 60)).bind fun t105 => (if (t104 ++ (⟨#[58]⟩ : ByteArray)).size + t105.size ≤ 9223372036854775807 then (if ((t104 ++ (⟨#[58]⟩ : ByteArray)) ++ t105).size + 1 ≤ 9223372036854775807 then ((timing_two.f (Int.tmod x0 60)).bind fun t106 => (if (((t104 ++ (⟨#[58]⟩ : ByteArray)) ++ t105) ++ (⟨#[58]⟩ : ByteArray)).size + t106.size ≤ 9223372036854775807 then (some ((((t104 ++ (⟨#[58]⟩ : ByteArray)) ++ t105) ++ (⟨#[58]⟩ : ByteArray)) ++ t106, 0)) else (none))) else (none)) else (none))) else (none)))
def timing_Print.f (k : Nat) (a0 : Int) : Option (ByteArray × Int) := if a0 < 0 then (timing_Print.j0 k a0 true) else (timing_Print.j0 k a0 (decide (a0 > 359999)))
theorem timing_Print.mono_l : ∀ k, (∀ y0 y1, LeO (timing_Print.j0 k y0 y1) (timing_Print.j0 (k + 1) y0 y1))
  | 0 => fun _ _ r h => by simp [timing_Print.j0] at h
  | k + 1 => by
    have ih0 := timing_Print.mono_l k
    · intro y0 y1
      unfold timing_Print.j0
      repeat' first
      | (with_reducible exact ih0 _ _)
      | (with_reducible exact LeO.refl _)
      | (with_reducible exact LeO.none _)
      | (with_reducible refine LeO.ite ?_ ?_)
      | (with_reducible refine LeO.bind ?_ (fun _ => ?_))
      | exact ih0 _ _
      | exact LeO.none _
      | refine LeO.ite ?_ ?_
      | refine LeO.bind ?_ (fun _ => ?_)
theorem timing_Print.mono : ∀ a0 k, LeO (timing_Print.f k a0) (timing_Print.f (k + 1) a0) := by
  intro a0 k
  have ih0 := timing_Print.mono_l k
  unfold timing_Print.f
  repeat' first
      | (with_reducible exact ih0 _ _)
      | (with_reducible exact LeO.refl _)
      | (with_reducible exact LeO.none _)
      | (with_reducible refine LeO.ite ?_ ?_)
      | (with_reducible refine LeO.bind ?_ (fun _ => ?_))
      | exact ih0 _ _
      | exact LeO.none _
      | refine LeO.ite ?_ ?_
      | refine LeO.bind ?_ (fun _ => ?_)
set_option maxHeartbeats 8000000 in
set_option maxRecDepth 100000 in
theorem timing_Print.calls (k : Nat) (a0 : Int) (r1 : ByteArray) (r2 : Int) (w : World) (h : timing_Print.f k a0 = some (r1, r2)) :
    Calls Tryd.prog 5 #[.int .i64 a0] w fun e w' => e = .returned (.tuple #[.string r1, .int .i64 r2]) ∧ Below w.heap.size w w' := by
  have HB := Aside0.mk (Below.refl w.heap.size w)
  have H : (if a0 < 0 then (timing_Print.j0 k a0 true) else (timing_Print.j0 k a0 (decide (a0 > 359999)))) = some (r1, r2) := h
  clear h
  have HC2 := Aside0.mk H
  clear H
  go_enter Tryd.func5, Tryd.ntmps5
  go_upto_region 1 with (fail)
  go_cut [9] (fun v9 wc => ∃ (kq : Nat) (x9_1 : Bool), v9 = .bool x9_1 ∧ Aside0 (timing_Print.j0 kq a0 x9_1 = some (r1, r2)) ∧ Aside0 (kq ≤ k) ∧ Aside0 (Below w.heap.size w wc))
  case first =>
    have H := HC2.out
    clear HC2
    by_cases c3 : a0 < 0
    · rw [if_pos c3] at H
      have c3b0 : decide (a0 < 0) = true := decide_eq_true c3
      clear c3
      (first | rw [c3b0] | (simp only [i64_w, i32_w]; rw [c3b0]) | skip)
      have H' := Aside0.mk H
      clear H
      go_wp2
      go_meet
      case rel => exact ⟨_, (true), (by first | rfl | (simp; done) | (simp [*]; done)), H', ⟨by first | omega | exact Nat.le_refl _⟩, ⟨by repeat (first | (with_reducible first | exact HB.out | apply below_alloc | apply pw_below_drewN | apply below_drew1) | exact HB.out)⟩⟩
    · rw [if_neg c3] at H
      have c3b0 : decide (a0 < 0) = false := decide_eq_false c3
      clear c3
      (first | rw [c3b0] | (simp only [i64_w, i32_w]; rw [c3b0]) | skip)
      have H' := Aside0.mk H
      clear H
      go_wp2
      go_meet
      case rel => exact ⟨_, (decide (a0 > 359999)), (by first | rfl | (simp; done) | (simp [*]; done)), H', ⟨by first | omega | exact Nat.le_refl _⟩, ⟨by repeat (first | (with_reducible first | exact HB.out | apply below_alloc | apply pw_below_drewN | apply below_drew1) | exact HB.out)⟩⟩
  case rest =>
    clear HC2
    try clear p2
    try clear c3
    try clear c3b0
    obtain ⟨kq, x9_1, rfl, HA, HJ1, HB⟩ := hcut
    cases kq with
    | zero => exact absurd HA.out (by simp [timing_Print.j0])
    | succ kj1 =>
      have H := HA.out
      clear HA
      simp only [timing_Print.j0] at H
      by_cases c4 : x9_1 = true
      · subst c4
        have H1 : (some ((⟨#[]⟩ : ByteArray), 3)) = some (r1, r2) := by rw [if_pos rfl] at H; exact H
        clear H
        have H := H1
        clear H1
        simp only [Option.some.injEq, Prod.mk.injEq] at H
        obtain ⟨rfl, rfl⟩ := H
        go_wp2
        go_ret2
        exact ⟨by first | rfl | (simp [errW_none, errW_some] <;> rfl) | (simp [*, errW_none, errW_some] <;> rfl), by repeat (first | (with_reducible first | exact HB.out | apply below_alloc | apply pw_below_drewN | apply below_drew1) | exact HB.out)⟩
      · replace c4 := Bool.eq_false_iff.mpr c4
        subst c4
        have H1 : ((itoa.f (wrap64 (Int.tdiv a0 3600))).bind fun t104 => (if t104.size + 1 ≤ 9223372036854775807 then ((timing_two.f (Int.tmod (wrap64 (Int.tdiv a0 60)) 60)).bind fun t105 => (if (t104 ++ (⟨#[58]⟩ : ByteArray)).size + t105.size ≤ 9223372036854775807 then (if ((t104 ++ (⟨#[58]⟩ : ByteArray)) ++ t105).size + 1 ≤ 9223372036854775807 then ((timing_two.f (Int.tmod a0 60)).bind fun t106 => (if (((t104 ++ (⟨#[58]⟩ : ByteArray)) ++ t105) ++ (⟨#[58]⟩ : ByteArray)).size + t106.size ≤ 9223372036854775807 then (some ((((t104 ++ (⟨#[58]⟩ : ByteArray)) ++ t105) ++ (⟨#[58]⟩ : ByteArray)) ++ t106, 0)) else (none))) else (none)) else (none))) else (none))) = some (r1, r2) := by rw [if_neg (show ¬ (false = true) by decide)] at H; exact H
        clear H
        have H := H1
        clear H1
        replace H := Option.bind_eq_some_iff.mp H
        obtain ⟨t104, A50, H⟩ := H
        replace H : (if t104.size + 1 ≤ 9223372036854775807 then ((timing_two.f (Int.tmod (wrap64 (Int.tdiv a0 60)) 60)).bind fun t105 => (if (t104 ++ (⟨#[58]⟩ : ByteArray)).size + t105.size ≤ 9223372036854775807 then (if ((t104 ++ (⟨#[58]⟩ : ByteArray)) ++ t105).size + 1 ≤ 9223372036854775807 then ((timing_two.f (Int.tmod a0 60)).bind fun t106 => (if (((t104 ++ (⟨#[58]⟩ : ByteArray)) ++ t105) ++ (⟨#[58]⟩ : ByteArray)).size + t106.size ≤ 9223372036854775807 then (some ((((t104 ++ (⟨#[58]⟩ : ByteArray)) ++ t105) ++ (⟨#[58]⟩ : ByteArray)) ++ t106, 0)) else (none))) else (none)) else (none))) else (none)) = some (r1, r2) := H
        have A5 := Aside0.mk A50
        clear A50
        by_cases c6 : t104.size + 1 ≤ 9223372036854775807
        · rw [if_pos c6] at H
          have c6b0 := eq_true c6
          have c6b1 : decide (t104.size + 1 ≤ 9223372036854775807) = true := decide_eq_true c6
          try have c6b2 : (9223372036854775807 < t104.size + 1) = False := eq_false (Nat.not_lt.2 c6)
          replace H := Option.bind_eq_some_iff.mp H
          obtain ⟨t105, A70, H⟩ := H
          replace H : (if (t104 ++ (⟨#[58]⟩ : ByteArray)).size + t105.size ≤ 9223372036854775807 then (if ((t104 ++ (⟨#[58]⟩ : ByteArray)) ++ t105).size + 1 ≤ 9223372036854775807 then ((timing_two.f (Int.tmod a0 60)).bind fun t106 => (if (((t104 ++ (⟨#[58]⟩ : ByteArray)) ++ t105) ++ (⟨#[58]⟩ : ByteArray)).size + t106.size ≤ 9223372036854775807 then (some ((((t104 ++ (⟨#[58]⟩ : ByteArray)) ++ t105) ++ (⟨#[58]⟩ : ByteArray)) ++ t106, 0)) else (none))) else (none)) else (none)) = some (r1, r2) := H
          have A7 := Aside0.mk A70
          clear A70
          by_cases c8 : (t104 ++ (⟨#[58]⟩ : ByteArray)).size + t105.size ≤ 9223372036854775807
          · rw [if_pos c8] at H
            have c8b0 := eq_true c8
            have c8b1 : decide ((t104 ++ (⟨#[58]⟩ : ByteArray)).size + t105.size ≤ 9223372036854775807) = true := decide_eq_true c8
            try have c8b2 : (9223372036854775807 < (t104 ++ (⟨#[58]⟩ : ByteArray)).size + t105.size) = False := eq_false (Nat.not_lt.2 c8)
            by_cases c9 : ((t104 ++ (⟨#[58]⟩ : ByteArray)) ++ t105).size + 1 ≤ 9223372036854775807
            · rw [if_pos c9] at H
              have c9b0 := eq_true c9
              have c9b1 : decide (((t104 ++ (⟨#[58]⟩ : ByteArray)) ++ t105).size + 1 ≤ 9223372036854775807) = true := decide_eq_true c9
              try have c9b2 : (9223372036854775807 < ((t104 ++ (⟨#[58]⟩ : ByteArray)) ++ t105).size + 1) = False := eq_false (Nat.not_lt.2 c9)
              replace H := Option.bind_eq_some_iff.mp H
              obtain ⟨t106, A100, H⟩ := H
              replace H : (if (((t104 ++ (⟨#[58]⟩ : ByteArray)) ++ t105) ++ (⟨#[58]⟩ : ByteArray)).size + t106.size ≤ 9223372036854775807 then (some ((((t104 ++ (⟨#[58]⟩ : ByteArray)) ++ t105) ++ (⟨#[58]⟩ : ByteArray)) ++ t106, 0)) else (none)) = some (r1, r2) := H
              have A10 := Aside0.mk A100
              clear A100
              by_cases c11 : (((t104 ++ (⟨#[58]⟩ : ByteArray)) ++ t105) ++ (⟨#[58]⟩ : ByteArray)).size + t106.size ≤ 9223372036854775807
              · rw [if_pos c11] at H
                have c11b0 := eq_true c11
                have c11b1 : decide ((((t104 ++ (⟨#[58]⟩ : ByteArray)) ++ t105) ++ (⟨#[58]⟩ : ByteArray)).size + t106.size ≤ 9223372036854775807) = true := decide_eq_true c11
                try have c11b2 : (9223372036854775807 < (((t104 ++ (⟨#[58]⟩ : ByteArray)) ++ t105) ++ (⟨#[58]⟩ : ByteArray)).size + t106.size) = False := eq_false (Nat.not_lt.2 c11)
                simp only [Option.some.injEq, Prod.mk.injEq] at H
                obtain ⟨rfl, rfl⟩ := H
                go_wp2_with (first | ((with_reducible refine gate_callee (f := 11) rfl ?_); refine goesL_ (some 12) rfl rfl Tryd.func11 (by kernel_rfl) rfl #[.int .i64 (wrap64 (Int.tdiv a0 3600))] rfl (by (try simp only [List.map_toArray, List.map_cons, List.map_nil]); first | done | rfl | (simp only [List.length_drop, List.length_take]; rfl)) ?_; (with_reducible refine (itoa.calls (wrap64 (Int.tdiv a0 3600)) t104 _ A5.out).mono ?_); rintro e w12 ⟨rfl, hb⟩; refine ⟨_, rfl, ?_⟩; have n0_ := Aside0.mk (below_step (by repeat (first | (with_reducible first | exact HB.out | apply below_alloc | apply pw_below_drewN | apply below_drew1) | exact HB.out)) hb); clear HB; have HB := n0_; clear n0_; (try clear hb); (try clear hb2); (try clear hk); (try clear hi)) | ((with_reducible refine gate_callee (f := 12) rfl ?_); refine goesL_ (some 17) rfl rfl Tryd.func12 (by kernel_rfl) rfl #[.int .i64 (Int.tmod (wrap64 (Int.tdiv a0 60)) 60)] rfl (by (try simp only [List.map_toArray, List.map_cons, List.map_nil]); first | done | rfl | (simp only [List.length_drop, List.length_take]; rfl)) ?_; (with_reducible refine (timing_two.calls (Int.tmod (wrap64 (Int.tdiv a0 60)) 60) t105 _ A7.out).mono ?_); rintro e w13 ⟨rfl, hb⟩; refine ⟨_, rfl, ?_⟩; have n0_ := Aside0.mk (below_step (by repeat (first | (with_reducible first | exact HB.out | apply below_alloc | apply pw_below_drewN | apply below_drew1) | exact HB.out)) hb); clear HB; have HB := n0_; clear n0_; (try clear hb); (try clear hb2); (try clear hk); (try clear hi)) | ((with_reducible refine gate_callee (f := 12) rfl ?_); refine goesL_ (some 22) rfl rfl Tryd.func12 (by kernel_rfl) rfl #[.int .i64 (Int.tmod a0 60)] rfl (by (try simp only [List.map_toArray, List.map_cons, List.map_nil]); first | done | rfl | (simp only [List.length_drop, List.length_take]; rfl)) ?_; (with_reducible refine (timing_two.calls (Int.tmod a0 60) t106 _ A10.out).mono ?_); rintro e w14 ⟨rfl, hb⟩; refine ⟨_, rfl, ?_⟩; have n0_ := Aside0.mk (below_step (by repeat (first | (with_reducible first | exact HB.out | apply below_alloc | apply pw_below_drewN | apply below_drew1) | exact HB.out)) hb); clear HB; have HB := n0_; clear n0_; (try clear hb); (try clear hb2); (try clear hk); (try clear hi)))
                any_goals (exfalso; simp only [ByteArray.size, ByteArray.data_append, ByteArray.data_extract, Array.size_append, Array.size_extract, List.size_toArray, List.length_cons, List.length_nil] at *; omega)   -- noBig
                go_ret2
                exact ⟨by first | rfl | (simp [errW_none, errW_some] <;> rfl) | (simp [*, errW_none, errW_some] <;> rfl), by repeat (first | (with_reducible first | exact HB.out | apply below_alloc | apply pw_below_drewN | apply below_drew1) | exact HB.out)⟩
              · rw [if_neg c11] at H
                exact absurd H (by simp)
            · rw [if_neg c9] at H
              exact absurd H (by simp)
          · rw [if_neg c8] at H
            exact absurd H (by simp)
        · rw [if_neg c6] at H
          exact absurd H (by simp)

end Go.Proofs.YtjopendipackpaaDoor.PClk
