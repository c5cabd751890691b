-- PRINTED BY print.sh 35421559b90ae4d0a3588c463048766b98c2df88dd9212a6774a882060cdf62d: not written by this session
import Derived.Test.YtjopendipackpaaPTimingNeverx0
import Derived.Test.YtjopendipackpaaPTimingNeverx1
import Derived.Test.YtjopendipackpaaPTimingNeverx2
import Derived.Test.YtjopendipackpaaPTimingNeverx3
namespace Go.Proofs.Ytjopendipackpaa.PTimingNever
open Go.RowKit Go.Proofs.YtjopendipackpaaW.PrintWords Go.Proofs.YtjopendipackpaaW.PrintLast Go.Proofs.YtjopendipackpaaW.PrintMore
attribute [local go_sem] max2_int min2_int max_two min_two max_three min_three max_four min_four   -- for this text's walks alone
set_option linter.unusedVariables false
set_option linter.unusedSimpArgs false

attribute [local go_sem high] eqA23
/-! ### examboardlaw47_TimingNever: function 4 -/
mutual
def examboardlaw47_TimingNever.j0 : Nat → Int → Bool → Int → Int → Int → Int → Int → Int → Option (Bool)
  | 0, _, _, _, _, _, _, _, _ => none
  | k + 1, x0, x31, x113000, x113001, x113002, x114000, x114001, x114002 => if x31 = true then ((timing_Limit.f (-1) x113000 x113001 x113002).bind fun bt116 => (some (bt116.2 == 3))) else ((timing_Limit.f x0 x113000 x113001 x113002).bind fun bt118 => ((timing_Limit.f x0 x114000 x114001 x114002).bind fun bt120 => (if bt118.2 = 0 then (if bt120.2 = 0 then (if bt118.1 < (wrap64 (x0 + x113002)) then (examboardlaw47_TimingNever.j1 k x0 bt118.1 bt120.1 true x113000 x113001 x113002 x114000 x114001 x114002) else (if bt120.1 < (wrap64 (x0 + x114002)) then (examboardlaw47_TimingNever.j1 k x0 bt118.1 bt120.1 true x113000 x113001 x113002 x114000 x114001 x114002) else (if x113000 = x113001 then (examboardlaw47_TimingNever.j1 k x0 bt118.1 bt120.1 (bt118.1 != (wrap64 (x0 + x113002))) x113000 x113001 x113002 x114000 x114001 x114002) else (examboardlaw47_TimingNever.j1 k x0 bt118.1 bt120.1 false x113000 x113001 x113002 x114000 x114001 x114002)))) else (examboardlaw47_TimingNever.j1 k x0 bt118.1 bt120.1 true x113000 x113001 x113002 x114000 x114001 x114002)) else (examboardlaw47_TimingNever.j1 k x0 bt118.1 bt120.1 true x113000 x113001 x113002 x114000 x114001 x114002))))
def examboardlaw47_TimingNever.j1 : Nat → Int → Int → Int → Bool → Int → Int → Int → Int → Int → Int → Option (Bool)
  | 0, _, _, _, _, _, _, _, _, _, _ => none
  | k + 1, x0, x9, x11, x87, x113000, x113001, x113002, x114000, x114001, x114002 => if x87 = true then (some false) else ((timing_Combine.f k x113000 x113001 x113002 x114000 x114001 x114002).bind fun bt122 => ((timing_Combine.f k x114000 x114001 x114002 x113000 x113001 x113002).bind fun bt127 => (if (!(bt122.1 == bt127.1) || (!(bt122.2.1 == bt127.2.1) || (!(bt122.2.2.1 == bt127.2.2.1)))) = true then (examboardlaw47_TimingNever.j2 k x0 x9 bt122.2.2.2 x11 true x113000 x113001 x113002 x114000 x114001 x114002 bt122.1 bt122.2.1 bt122.2.2.1) else (examboardlaw47_TimingNever.j2 k x0 x9 bt122.2.2.2 x11 (bt122.2.2.2 != bt127.2.2.2) x113000 x113001 x113002 x114000 x114001 x114002 bt122.1 bt122.2.1 bt122.2.2.1))))
def examboardlaw47_TimingNever.j2 : Nat → Int → Int → Int → Int → Bool → Int → Int → Int → Int → Int → Int → Int → Int → Int → Option (Bool)
  | 0, _, _, _, _, _, _, _, _, _, _, _, _, _, _ => none
  | k + 1, x0, x9, x10, x11, x107, x113000, x113001, x113002, x114000, x114001, x114002, x127000, x127001, x127002 => if x107 = true then (some false) else (if x10 = 0 then ((timing_Limit.f x0 x127000 x127001 x127002).bind fun bt132 => (if bt132.2 = 0 then ((timing_Valid.f x127000 x127001 x127002).bind fun t134 => (if t134 = 0 then (if bt132.1 ≥ x9 then (if bt132.1 ≥ x11 then (if x127002 = (wrap64 (x113002 + x114002)) then (some ((wrap64 ((wrap64 (x127000 * x113001)) * x114001)) == (wrap64 ((wrap64 (x127001 * x113000)) * x114000)))) else (some false)) else (some false)) else (some false)) else (some false))) else (some false))) else (if x10 = 3 then (some (x127000 == 0 && (x127001 == 0 && (x127002 == 0)))) else (some false)))
end
def examboardlaw47_TimingNever.f (k : Nat) (a0 : Int) (a1_0 : Int) (a1_1 : Int) (a1_2 : Int) (a2_0 : Int) (a2_1 : Int) (a2_2 : Int) : Option (Bool) := if a0 < 0 then (examboardlaw47_TimingNever.j0 k a0 true a1_0 a1_1 a1_2 a2_0 a2_1 a2_2) else (if a0 > 9999999 then (examboardlaw47_TimingNever.j0 k a0 true a1_0 a1_1 a1_2 a2_0 a2_1 a2_2) else ((timing_Valid.f a1_0 a1_1 a1_2).bind fun t114 => (if t114 = 0 then ((timing_Valid.f a2_0 a2_1 a2_2).bind fun t115 => (examboardlaw47_TimingNever.j0 k a0 (t115 != 0) a1_0 a1_1 a1_2 a2_0 a2_1 a2_2)) else (examboardlaw47_TimingNever.j0 k a0 true a1_0 a1_1 a1_2 a2_0 a2_1 a2_2))))
theorem examboardlaw47_TimingNever.mono_l : ∀ k, (∀ y0 y1 y2 y3 y4 y5 y6 y7, LeO (examboardlaw47_TimingNever.j0 k y0 y1 y2 y3 y4 y5 y6 y7) (examboardlaw47_TimingNever.j0 (k + 1) y0 y1 y2 y3 y4 y5 y6 y7)) ∧ (∀ y0 y1 y2 y3 y4 y5 y6 y7 y8 y9, LeO (examboardlaw47_TimingNever.j1 k y0 y1 y2 y3 y4 y5 y6 y7 y8 y9) (examboardlaw47_TimingNever.j1 (k + 1) y0 y1 y2 y3 y4 y5 y6 y7 y8 y9)) ∧ (∀ y0 y1 y2 y3 y4 y5 y6 y7 y8 y9 y10 y11 y12 y13, LeO (examboardlaw47_TimingNever.j2 k y0 y1 y2 y3 y4 y5 y6 y7 y8 y9 y10 y11 y12 y13) (examboardlaw47_TimingNever.j2 (k + 1) y0 y1 y2 y3 y4 y5 y6 y7 y8 y9 y10 y11 y12 y13))
  | 0 => ⟨fun _ _ _ _ _ _ _ _ r h => by simp [examboardlaw47_TimingNever.j0] at h, fun _ _ _ _ _ _ _ _ _ _ r h => by simp [examboardlaw47_TimingNever.j1] at h, fun _ _ _ _ _ _ _ _ _ _ _ _ _ _ r h => by simp [examboardlaw47_TimingNever.j2] at h⟩
  | k + 1 => by
    obtain ⟨ih0, ih1, ih2⟩ := examboardlaw47_TimingNever.mono_l k
    refine ⟨?_, ?_, ?_⟩
    · intro y0 y1 y2 y3 y4 y5 y6 y7
      unfold examboardlaw47_TimingNever.j0
      repeat' first
      | (with_reducible exact ih0 _ _ _ _ _ _ _ _)
      | (with_reducible exact ih1 _ _ _ _ _ _ _ _ _ _)
      | (with_reducible exact ih2 _ _ _ _ _ _ _ _ _ _ _ _ _ _)
      | (with_reducible exact timing_Combine.mono _ _ _ _ _ _ _)
      | (with_reducible exact LeO.refl _)
      | (with_reducible exact LeO.none _)
      | (with_reducible refine LeO.ite ?_ ?_)
      | (with_reducible refine LeO.bind ?_ (fun _ => ?_))
      | exact ih0 _ _ _ _ _ _ _ _
      | exact ih1 _ _ _ _ _ _ _ _ _ _
      | exact ih2 _ _ _ _ _ _ _ _ _ _ _ _ _ _
      | exact timing_Combine.mono _ _ _ _ _ _ _
      | exact LeO.none _
      | refine LeO.ite ?_ ?_
      | refine LeO.bind ?_ (fun _ => ?_)
    · intro y0 y1 y2 y3 y4 y5 y6 y7 y8 y9
      unfold examboardlaw47_TimingNever.j1
      repeat' first
      | (with_reducible exact ih0 _ _ _ _ _ _ _ _)
      | (with_reducible exact ih1 _ _ _ _ _ _ _ _ _ _)
      | (with_reducible exact ih2 _ _ _ _ _ _ _ _ _ _ _ _ _ _)
      | (with_reducible exact timing_Combine.mono _ _ _ _ _ _ _)
      | (with_reducible exact LeO.refl _)
      | (with_reducible exact LeO.none _)
      | (with_reducible refine LeO.ite ?_ ?_)
      | (with_reducible refine LeO.bind ?_ (fun _ => ?_))
      | exact ih0 _ _ _ _ _ _ _ _
      | exact ih1 _ _ _ _ _ _ _ _ _ _
      | exact ih2 _ _ _ _ _ _ _ _ _ _ _ _ _ _
      | exact timing_Combine.mono _ _ _ _ _ _ _
      | exact LeO.none _
      | refine LeO.ite ?_ ?_
      | refine LeO.bind ?_ (fun _ => ?_)
    · intro y0 y1 y2 y3 y4 y5 y6 y7 y8 y9 y10 y11 y12 y13
      unfold examboardlaw47_TimingNever.j2
      repeat' first
      | (with_reducible exact ih0 _ _ _ _ _ _ _ _)
      | (with_reducible exact ih1 _ _ _ _ _ _ _ _ _ _)
      | (with_reducible exact ih2 _ _ _ _ _ _ _ _ _ _ _ _ _ _)
      | (with_reducible exact timing_Combine.mono _ _ _ _ _ _ _)
      | (with_reducible exact LeO.refl _)
      | (with_reducible exact LeO.none _)
      | (with_reducible refine LeO.ite ?_ ?_)
      | (with_reducible refine LeO.bind ?_ (fun _ => ?_))
      | exact ih0 _ _ _ _ _ _ _ _
      | exact ih1 _ _ _ _ _ _ _ _ _ _
      | exact ih2 _ _ _ _ _ _ _ _ _ _ _ _ _ _
      | exact timing_Combine.mono _ _ _ _ _ _ _
      | exact LeO.none _
      | refine LeO.ite ?_ ?_
      | refine LeO.bind ?_ (fun _ => ?_)
theorem examboardlaw47_TimingNever.mono : ∀ a0 a1 a2 a3 a4 a5 a6 k, LeO (examboardlaw47_TimingNever.f k a0 a1 a2 a3 a4 a5 a6) (examboardlaw47_TimingNever.f (k + 1) a0 a1 a2 a3 a4 a5 a6) := by
  intro a0 a1 a2 a3 a4 a5 a6 k
  obtain ⟨ih0, ih1, ih2⟩ := examboardlaw47_TimingNever.mono_l k
  unfold examboardlaw47_TimingNever.f
  repeat' first
      | (with_reducible exact ih0 _ _ _ _ _ _ _ _)
      | (with_reducible exact ih1 _ _ _ _ _ _ _ _ _ _)
      | (with_reducible exact ih2 _ _ _ _ _ _ _ _ _ _ _ _ _ _)
      | (with_reducible exact timing_Combine.mono _ _ _ _ _ _ _)
      | (with_reducible exact LeO.refl _)
      | (with_reducible exact LeO.none _)
      | (with_reducible refine LeO.ite ?_ ?_)
      | (with_reducible refine LeO.bind ?_ (fun _ => ?_))
      | exact ih0 _ _ _ _ _ _ _ _
      | exact ih1 _ _ _ _ _ _ _ _ _ _
      | exact ih2 _ _ _ _ _ _ _ _ _ _ _ _ _ _
      | exact timing_Combine.mono _ _ _ _ _ _ _
      | exact LeO.none _
      | refine LeO.ite ?_ ?_
      | refine LeO.bind ?_ (fun _ => ?_)
set_option maxHeartbeats 8000000 in
set_option maxRecDepth 100000 in
theorem examboardlaw47_TimingNever.calls (k : Nat) (a0 : Int) (a1_0 : Int) (a1_1 : Int) (a1_2 : Int) (a2_0 : Int) (a2_1 : Int) (a2_2 : Int) (r : Bool) (w : World) (h : examboardlaw47_TimingNever.f k a0 a1_0 a1_1 a1_2 a2_0 a2_1 a2_2 = some r) :
    Calls Try.prog 4 #[.int .i64 a0, .agg #[.int .i64 a1_0, .int .i64 a1_1, .int .i64 a1_2], .agg #[.int .i64 a2_0, .int .i64 a2_1, .int .i64 a2_2]] w fun e w' => e = .returned (.bool r) ∧ Below w.heap.size w w' := by
  have hu23 := Try.underlying23
  have HB := Aside0.mk (Below.refl w.heap.size w)
  have H : (if a0 < 0 then (examboardlaw47_TimingNever.j0 k a0 true a1_0 a1_1 a1_2 a2_0 a2_1 a2_2) else (if a0 > 9999999 then (examboardlaw47_TimingNever.j0 k a0 true a1_0 a1_1 a1_2 a2_0 a2_1 a2_2) else ((timing_Valid.f a1_0 a1_1 a1_2).bind fun t114 => (if t114 = 0 then ((timing_Valid.f a2_0 a2_1 a2_2).bind fun t115 => (examboardlaw47_TimingNever.j0 k a0 (t115 != 0) a1_0 a1_1 a1_2 a2_0 a2_1 a2_2)) else (examboardlaw47_TimingNever.j0 k a0 true a1_0 a1_1 a1_2 a2_0 a2_1 a2_2))))) = some r := h
  clear h
  have HC4 := Aside0.mk H
  clear H
  go_enter Try.func4, Try.ntmps4
  go_upto_region 1 with (first | ((with_reducible refine gate_dst (N := 4) rfl ?_); refine box_event ?hg (N := 4) ?hd (cs := #[.int .i64 a1_0, .int .i64 a1_1, .int .i64 a1_2]) (t := 23) ?hr ?_; (case hd => rfl); (case hg => rfl); (case hr => first | (go_simp; done) | (go_simp; rfl)); intro gb112 hg w5 hbox hb; have n0_ := Aside0.mk (below_step (by repeat (first | (with_reducible first | exact HB.out | apply below_alloc | apply pw_below_drewN | apply below_drew1) | exact HB.out)) hb); have n1_ := Aside0.mk (hbox); have n2_ := Aside0.mk ((by rw [hg]; exact (below_size (by repeat (first | (with_reducible first | exact HB.out | apply below_alloc | apply pw_below_drewN | apply below_drew1) | exact HB.out))) : w.heap.size ≤ gb112)); have n3_ := Aside0.mk ((by rw [hg]; exact (below_size (by repeat (first | (with_reducible first | exact HB.out | apply below_alloc | apply pw_below_drewN | apply below_drew1) | exact HB.out))) : w.heap.size ≤ gb112)); clear HB; have HB := n0_; have BK112 := n1_; have GW112 := n2_; have GE112 := n3_; clear n0_ n1_ n2_ n3_; clear hb hbox hg) | ((with_reducible refine gate_dst (N := 5) rfl ?_); refine box_event ?hg (N := 5) ?hd (cs := #[.int .i64 a2_0, .int .i64 a2_1, .int .i64 a2_2]) (t := 23) ?hr ?_; (case hd => rfl); (case hg => rfl); (case hr => first | (go_simp; done) | (go_simp; rfl)); intro gb113 hg w6 hbox hb; have n0_ := Aside0.mk (blk_below (g := gb112) (o := .cells #[.int .i64 a1_0, .int .i64 a1_1, .int .i64 a1_2] 23 (0, 0)) (by (with_reducible repeat (first | refine blk_drewN ?_ _ | refine blk_drew ?_ | refine blk_alloc ?_ _)); exact BK112.out) hb); have n1_ := Aside0.mk (below_step (by repeat (first | (with_reducible first | exact HB.out | apply below_alloc | apply pw_below_drewN | apply below_drew1 | refine below_set ?_ GE112.out) | exact HB.out)) hb); have n2_ := Aside0.mk (hbox); have n3_ := Aside0.mk ((by rw [hg]; exact (below_size (by repeat (first | (with_reducible first | exact HB.out | apply below_alloc | apply pw_below_drewN | apply below_drew1 | refine below_set ?_ GE112.out) | exact HB.out))) : w.heap.size ≤ gb113)); have n4_ := Aside0.mk ((by rw [hg]; exact (below_size (by repeat (first | (with_reducible first | exact HB.out | apply below_alloc | apply pw_below_drewN | apply below_drew1 | refine below_set ?_ GE112.out) | exact HB.out))) : w.heap.size ≤ gb113)); have n5_ := Aside0.mk ((by rw [hg]; exact Nat.ne_of_lt (blk_lt (g := gb112) (o := .cells #[.int .i64 a1_0, .int .i64 a1_1, .int .i64 a1_2] 23 (0, 0)) (by (with_reducible repeat (first | refine blk_drewN ?_ _ | refine blk_drew ?_ | refine blk_alloc ?_ _)); exact BK112.out)) : gb112 ≠ gb113)); have n6_ := Aside0.mk ((by rw [hg]; exact Nat.ne_of_gt (blk_lt (g := gb112) (o := .cells #[.int .i64 a1_0, .int .i64 a1_1, .int .i64 a1_2] 23 (0, 0)) (by (with_reducible repeat (first | refine blk_drewN ?_ _ | refine blk_drew ?_ | refine blk_alloc ?_ _)); exact BK112.out)) : gb113 ≠ gb112)); clear BK112; clear HB; have BK112 := n0_; have HB := n1_; have BK113 := n2_; have GW113 := n3_; have GE113 := n4_; have NB112_113 := n5_; have NB113_112 := n6_; clear n0_ n1_ n2_ n3_ n4_ n5_ n6_; clear hb hbox hg))
  (try simp only [Act.put, List.setIfInBounds_toArray, List.set_cons_zero, List.set_cons_succ])
  go_cut [31] (fun v31 wc => ∃ (kq : Nat) (x31_3 : Bool), v31 = .bool x31_3 ∧ Aside0 (examboardlaw47_TimingNever.j0 kq a0 x31_3 a1_0 a1_1 a1_2 a2_0 a2_1 a2_2 = some r) ∧ Aside0 (kq ≤ k) ∧ Aside0 (wc.heap[gb112]? = some (.cells #[.int .i64 a1_0, .int .i64 a1_1, .int .i64 a1_2] 23 (0, 0))) ∧ Aside0 (wc.heap[gb113]? = some (.cells #[.int .i64 a2_0, .int .i64 a2_1, .int .i64 a2_2] 23 (0, 0))) ∧ Aside0 (Below w.heap.size w wc))
  case first =>
    have H := HC4.out
    clear HC4
    by_cases c7 : a0 < 0
    · rw [if_pos c7] at H
      have c7b0 : decide (a0 < 0) = true := decide_eq_true c7
      clear c7
      (first | rw [c7b0] | (simp only [i64_w, i32_w]; rw [c7b0]) | skip)
      have H' := Aside0.mk H
      clear H
      go_wp2
      go_meet
      case rel => exact ⟨_, (true), (by first | rfl | (simp; done) | (simp [*]; done)), H', ⟨by first | omega | exact Nat.le_refl _⟩, ⟨by (with_reducible repeat (first | refine blk_drewN ?_ _ | refine blk_drew ?_ | refine blk_alloc ?_ _)); exact BK112.out⟩, ⟨by (with_reducible repeat (first | refine blk_drewN ?_ _ | refine blk_drew ?_ | refine blk_alloc ?_ _)); exact BK113.out⟩, ⟨by repeat (first | (with_reducible first | exact HB.out | apply below_alloc | apply pw_below_drewN | apply below_drew1 | refine below_set ?_ GE112.out | refine below_set ?_ GE113.out) | exact HB.out)⟩⟩
    · rw [if_neg c7] at H
      have c7b0 : decide (a0 < 0) = false := decide_eq_false c7
      clear c7
      (first | rw [c7b0] | (simp only [i64_w, i32_w]; rw [c7b0]) | skip)
      by_cases c8 : a0 > 9999999
      · rw [if_pos c8] at H
        have c8b0 : decide (9999999 < a0) = true := decide_eq_true c8
        clear c8
        have H' := Aside0.mk H
        clear H
        go_wp2
        go_meet
        case rel => exact ⟨_, (true), (by first | rfl | (simp; done) | (simp [*]; done)), H', ⟨by first | omega | exact Nat.le_refl _⟩, ⟨by (with_reducible repeat (first | refine blk_drewN ?_ _ | refine blk_drew ?_ | refine blk_alloc ?_ _)); exact BK112.out⟩, ⟨by (with_reducible repeat (first | refine blk_drewN ?_ _ | refine blk_drew ?_ | refine blk_alloc ?_ _)); exact BK113.out⟩, ⟨by repeat (first | (with_reducible first | exact HB.out | apply below_alloc | apply pw_below_drewN | apply below_drew1 | refine below_set ?_ GE112.out | refine below_set ?_ GE113.out) | exact HB.out)⟩⟩
      · rw [if_neg c8] at H
        have c8b0 : decide (9999999 < a0) = false := decide_eq_false c8
        clear c8
        replace H := Option.bind_eq_some_iff.mp H
        obtain ⟨t114, A90, H⟩ := H
        replace H : (if t114 = 0 then ((timing_Valid.f a2_0 a2_1 a2_2).bind fun t115 => (examboardlaw47_TimingNever.j0 k a0 (t115 != 0) a1_0 a1_1 a1_2 a2_0 a2_1 a2_2)) else (examboardlaw47_TimingNever.j0 k a0 true a1_0 a1_1 a1_2 a2_0 a2_1 a2_2)) = some r := H
        have A9 := Aside0.mk A90
        clear A90
        by_cases c10 : t114 = 0
        · rw [if_pos c10] at H
          have c10b0 : (t114 == 0) = true := beq_iff_eq.mpr c10
          have c10b1 : (t114 != 0) = false := bne_eq_false_iff_eq.mpr c10
          clear c10
          replace H := Option.bind_eq_some_iff.mp H
          obtain ⟨t115, A110, H⟩ := H
          replace H : (examboardlaw47_TimingNever.j0 k a0 (t115 != 0) a1_0 a1_1 a1_2 a2_0 a2_1 a2_2) = some r := H
          have A11 := Aside0.mk A110
          clear A110
          have H' := Aside0.mk H
          clear H
          have hnb12 := NB112_113.out
          have hnc12 := NB113_112.out
          have hcz13_0 : w6.cell? ⟨gb112, 0, none⟩ = some (.int .i64 a1_0) := (blk_cell BK112.out 0).trans rfl
          have hcz13_1 : w6.cell? ⟨gb112, 1, none⟩ = some (.int .i64 a1_1) := (blk_cell BK112.out 1).trans rfl
          have hcz13_2 : w6.cell? ⟨gb112, 2, none⟩ = some (.int .i64 a1_2) := (blk_cell BK112.out 2).trans rfl
          have hfz13_0 := blk_frozen BK112.out 0
          have hfz13_1 := blk_frozen BK112.out 1
          have hfz13_2 := blk_frozen BK112.out 2
          go_wp2_with (first | (go_at_call 10; (with_reducible refine (timing_Valid.calls a1_0 a1_1 a1_2 t114 _ A9.out).mono ?_); rintro e w14 ⟨rfl, hb⟩; have n0_ := Aside0.mk (blk_below (g := gb112) (o := .cells #[.int .i64 a1_0, .int .i64 a1_1, .int .i64 a1_2] 23 (0, 0)) (by (with_reducible repeat (first | refine blk_drewN ?_ _ | refine blk_drew ?_ | refine blk_alloc ?_ _)); exact BK112.out) hb); have n1_ := Aside0.mk (blk_below (g := gb113) (o := .cells #[.int .i64 a2_0, .int .i64 a2_1, .int .i64 a2_2] 23 (0, 0)) (by (with_reducible repeat (first | refine blk_drewN ?_ _ | refine blk_drew ?_ | refine blk_alloc ?_ _)); exact BK113.out) hb); have n2_ := Aside0.mk (below_step (by repeat (first | (with_reducible first | exact HB.out | apply below_alloc | apply pw_below_drewN | apply below_drew1 | refine below_set ?_ GE112.out | refine below_set ?_ GE113.out) | exact HB.out)) hb); clear BK112; clear BK113; clear HB; have BK112 := n0_; have BK113 := n1_; have HB := n2_; clear n0_ n1_ n2_; (try clear hb); (try clear hb2); (try clear hk); (try clear hi); have hcz15_0 : w14.cell? ⟨gb113, 0, none⟩ = some (.int .i64 a2_0) := (blk_cell BK113.out 0).trans rfl; have hcz15_1 : w14.cell? ⟨gb113, 1, none⟩ = some (.int .i64 a2_1) := (blk_cell BK113.out 1).trans rfl; have hcz15_2 : w14.cell? ⟨gb113, 2, none⟩ = some (.int .i64 a2_2) := (blk_cell BK113.out 2).trans rfl; have hfz15_0 := blk_frozen BK113.out 0; have hfz15_1 := blk_frozen BK113.out 1; have hfz15_2 := blk_frozen BK113.out 2) | (go_at_call 10; (with_reducible refine (timing_Valid.calls a2_0 a2_1 a2_2 t115 _ A11.out).mono ?_); rintro e w16 ⟨rfl, hb⟩; have n0_ := Aside0.mk (blk_below (g := gb112) (o := .cells #[.int .i64 a1_0, .int .i64 a1_1, .int .i64 a1_2] 23 (0, 0)) (by (with_reducible repeat (first | refine blk_drewN ?_ _ | refine blk_drew ?_ | refine blk_alloc ?_ _)); exact BK112.out) hb); have n1_ := Aside0.mk (blk_below (g := gb113) (o := .cells #[.int .i64 a2_0, .int .i64 a2_1, .int .i64 a2_2] 23 (0, 0)) (by (with_reducible repeat (first | refine blk_drewN ?_ _ | refine blk_drew ?_ | refine blk_alloc ?_ _)); exact BK113.out) hb); have n2_ := Aside0.mk (below_step (by repeat (first | (with_reducible first | exact HB.out | apply below_alloc | apply pw_below_drewN | apply below_drew1 | refine below_set ?_ GE112.out | refine below_set ?_ GE113.out) | exact HB.out)) hb); clear BK112; clear BK113; clear HB; have BK112 := n0_; have BK113 := n1_; have HB := n2_; clear n0_ n1_ n2_; (try clear hb); (try clear hb2); (try clear hk); (try clear hi)))
          go_meet
          case rel => exact ⟨_, ((t115 != 0)), (by first | rfl | (simp; done) | (simp [*]; done)), H', ⟨by first | omega | exact Nat.le_refl _⟩, ⟨by (with_reducible repeat (first | refine blk_drewN ?_ _ | refine blk_drew ?_ | refine blk_alloc ?_ _)); exact BK112.out⟩, ⟨by (with_reducible repeat (first | refine blk_drewN ?_ _ | refine blk_drew ?_ | refine blk_alloc ?_ _)); exact BK113.out⟩, ⟨by repeat (first | (with_reducible first | exact HB.out | apply below_alloc | apply pw_below_drewN | apply below_drew1 | refine below_set ?_ GE112.out | refine below_set ?_ GE113.out) | exact HB.out)⟩⟩
        · rw [if_neg c10] at H
          have c10b0 : (t114 == 0) = false := beq_eq_false_iff_ne.mpr c10
          have c10b1 : (t114 != 0) = true := bne_iff_ne.mpr c10
          have H' := Aside0.mk H
          clear H
          have hnb17 := NB112_113.out
          have hnc17 := NB113_112.out
          have hcz18_0 : w6.cell? ⟨gb112, 0, none⟩ = some (.int .i64 a1_0) := (blk_cell BK112.out 0).trans rfl
          have hcz18_1 : w6.cell? ⟨gb112, 1, none⟩ = some (.int .i64 a1_1) := (blk_cell BK112.out 1).trans rfl
          have hcz18_2 : w6.cell? ⟨gb112, 2, none⟩ = some (.int .i64 a1_2) := (blk_cell BK112.out 2).trans rfl
          have hfz18_0 := blk_frozen BK112.out 0
          have hfz18_1 := blk_frozen BK112.out 1
          have hfz18_2 := blk_frozen BK112.out 2
          go_wp2_with (first | (go_at_call 10; (with_reducible refine (timing_Valid.calls a1_0 a1_1 a1_2 t114 _ A9.out).mono ?_); rintro e w19 ⟨rfl, hb⟩; have n0_ := Aside0.mk (blk_below (g := gb112) (o := .cells #[.int .i64 a1_0, .int .i64 a1_1, .int .i64 a1_2] 23 (0, 0)) (by (with_reducible repeat (first | refine blk_drewN ?_ _ | refine blk_drew ?_ | refine blk_alloc ?_ _)); exact BK112.out) hb); have n1_ := Aside0.mk (blk_below (g := gb113) (o := .cells #[.int .i64 a2_0, .int .i64 a2_1, .int .i64 a2_2] 23 (0, 0)) (by (with_reducible repeat (first | refine blk_drewN ?_ _ | refine blk_drew ?_ | refine blk_alloc ?_ _)); exact BK113.out) hb); have n2_ := Aside0.mk (below_step (by repeat (first | (with_reducible first | exact HB.out | apply below_alloc | apply pw_below_drewN | apply below_drew1 | refine below_set ?_ GE112.out | refine below_set ?_ GE113.out) | exact HB.out)) hb); clear BK112; clear BK113; clear HB; have BK112 := n0_; have BK113 := n1_; have HB := n2_; clear n0_ n1_ n2_; (try clear hb); (try clear hb2); (try clear hk); (try clear hi)))
          go_meet
          case rel => exact ⟨_, (true), (by first | rfl | (simp; done) | (simp [*]; done)), H', ⟨by first | omega | exact Nat.le_refl _⟩, ⟨by (with_reducible repeat (first | refine blk_drewN ?_ _ | refine blk_drew ?_ | refine blk_alloc ?_ _)); exact BK112.out⟩, ⟨by (with_reducible repeat (first | refine blk_drewN ?_ _ | refine blk_drew ?_ | refine blk_alloc ?_ _)); exact BK113.out⟩, ⟨by repeat (first | (with_reducible first | exact HB.out | apply below_alloc | apply pw_below_drewN | apply below_drew1 | refine below_set ?_ GE112.out | refine below_set ?_ GE113.out) | exact HB.out)⟩⟩
  case rest =>
    clear HC4
    try clear c1
    try clear p2
    try clear c4
    try clear c7
    try clear c7b0
    try clear c8
    try clear c8b0
    try clear c10
    try clear c10b0
    try clear c10b1
    try clear c12
    try clear c17
    try clear hcz13_0
    try clear hcz13_1
    try clear hcz13_2
    try clear hcz15_0
    try clear hcz15_1
    try clear hcz15_2
    try clear hcz18_0
    try clear hcz18_1
    try clear hcz18_2
    try clear hfz13_0
    try clear hfz13_1
    try clear hfz13_2
    try clear hfz15_0
    try clear hfz15_1
    try clear hfz15_2
    try clear hfz18_0
    try clear hfz18_1
    try clear hfz18_2
    obtain ⟨kq, x31_3, rfl, HA, HJ3, BK112, BK113, HB⟩ := hcut
    cases kq with
    | zero => exact absurd HA.out (by simp [examboardlaw47_TimingNever.j0])
    | succ kj3 =>
      have H := HA.out
      clear HA
      simp only [examboardlaw47_TimingNever.j0] at H
      by_cases c20 : x31_3 = true
      · subst c20
        have H1 : ((timing_Limit.f (-1) a1_0 a1_1 a1_2).bind fun bt116 => (some (bt116.2 == 3))) = some r := by rw [if_pos rfl] at H; exact H
        clear H
        have H := H1
        clear H1
        replace H := Option.bind_eq_some_iff.mp H
        obtain ⟨⟨t116, t117⟩, A210, H⟩ := H
        replace H : (some (t117 == 3)) = some r := H
        have A21 := Aside0.mk A210
        clear A210
        obtain rfl := Option.some.inj H
        have hnb22 := NB112_113.out
        have hnc22 := NB113_112.out
        have hcz23_0 : wc.cell? ⟨gb112, 0, none⟩ = some (.int .i64 a1_0) := (blk_cell BK112.out 0).trans rfl
        have hcz23_1 : wc.cell? ⟨gb112, 1, none⟩ = some (.int .i64 a1_1) := (blk_cell BK112.out 1).trans rfl
        have hcz23_2 : wc.cell? ⟨gb112, 2, none⟩ = some (.int .i64 a1_2) := (blk_cell BK112.out 2).trans rfl
        have hfz23_0 := blk_frozen BK112.out 0
        have hfz23_1 := blk_frozen BK112.out 1
        have hfz23_2 := blk_frozen BK112.out 2
        go_wp2_with (first | ((with_reducible refine gate_callee (f := 8) rfl ?_); refine goesL_ (some 34) rfl rfl Try.func8 (by kernel_rfl) rfl #[.int .i64 (-1), .agg #[.int .i64 a1_0, .int .i64 a1_1, .int .i64 a1_2]] rfl (by (try simp only [List.map_toArray, List.map_cons, List.map_nil]); first | done | rfl | (simp only [List.length_drop, List.length_take]; rfl)) ?_; (with_reducible refine (timing_Limit.calls (-1) a1_0 a1_1 a1_2 t116 t117 _ A21.out).mono ?_); rintro e w24 ⟨rfl, hb⟩; refine ⟨_, rfl, ?_⟩; have n0_ := Aside0.mk (blk_below (g := gb112) (o := .cells #[.int .i64 a1_0, .int .i64 a1_1, .int .i64 a1_2] 23 (0, 0)) (by (with_reducible repeat (first | refine blk_drewN ?_ _ | refine blk_drew ?_ | refine blk_alloc ?_ _)); exact BK112.out) hb); have n1_ := Aside0.mk (blk_below (g := gb113) (o := .cells #[.int .i64 a2_0, .int .i64 a2_1, .int .i64 a2_2] 23 (0, 0)) (by (with_reducible repeat (first | refine blk_drewN ?_ _ | refine blk_drew ?_ | refine blk_alloc ?_ _)); exact BK113.out) hb); have n2_ := Aside0.mk (below_step (by repeat (first | (with_reducible first | exact HB.out | apply below_alloc | apply pw_below_drewN | apply below_drew1 | refine below_set ?_ GE112.out | refine below_set ?_ GE113.out) | exact HB.out)) hb); clear BK112; clear BK113; clear HB; have BK112 := n0_; have BK113 := n1_; have HB := n2_; clear n0_ n1_ n2_; (try clear hb); (try clear hb2); (try clear hk); (try clear hi)))
        go_ret
        exact ⟨by first | rfl | (simp [errW_none, errW_some] <;> rfl) | (simp [*, errW_none, errW_some] <;> rfl), by repeat (first | (with_reducible first | exact HB.out | apply below_alloc | apply pw_below_drewN | apply below_drew1 | refine below_set ?_ GE112.out | refine below_set ?_ GE113.out) | exact HB.out)⟩
      · replace c20 := Bool.eq_false_iff.mpr c20
        subst c20
        have H1 : ((timing_Limit.f a0 a1_0 a1_1 a1_2).bind fun bt118 => ((timing_Limit.f a0 a2_0 a2_1 a2_2).bind fun bt120 => (if bt118.2 = 0 then (if bt120.2 = 0 then (if bt118.1 < (wrap64 (a0 + a1_2)) then (examboardlaw47_TimingNever.j1 kj3 a0 bt118.1 bt120.1 true a1_0 a1_1 a1_2 a2_0 a2_1 a2_2) else (if bt120.1 < (wrap64 (a0 + a2_2)) then (examboardlaw47_TimingNever.j1 kj3 a0 bt118.1 bt120.1 true a1_0 a1_1 a1_2 a2_0 a2_1 a2_2) else (if a1_0 = a1_1 then (examboardlaw47_TimingNever.j1 kj3 a0 bt118.1 bt120.1 (bt118.1 != (wrap64 (a0 + a1_2))) a1_0 a1_1 a1_2 a2_0 a2_1 a2_2) else (examboardlaw47_TimingNever.j1 kj3 a0 bt118.1 bt120.1 false a1_0 a1_1 a1_2 a2_0 a2_1 a2_2)))) else (examboardlaw47_TimingNever.j1 kj3 a0 bt118.1 bt120.1 true a1_0 a1_1 a1_2 a2_0 a2_1 a2_2)) else (examboardlaw47_TimingNever.j1 kj3 a0 bt118.1 bt120.1 true a1_0 a1_1 a1_2 a2_0 a2_1 a2_2)))) = some r := by rw [if_neg (show ¬ (false = true) by decide)] at H; exact H
        clear H
        have H := H1
        clear H1
        replace H := Option.bind_eq_some_iff.mp H
        obtain ⟨⟨t118, t119⟩, A250, H⟩ := H
        replace H : ((timing_Limit.f a0 a2_0 a2_1 a2_2).bind fun bt120 => (if t119 = 0 then (if bt120.2 = 0 then (if t118 < (wrap64 (a0 + a1_2)) then (examboardlaw47_TimingNever.j1 kj3 a0 t118 bt120.1 true a1_0 a1_1 a1_2 a2_0 a2_1 a2_2) else (if bt120.1 < (wrap64 (a0 + a2_2)) then (examboardlaw47_TimingNever.j1 kj3 a0 t118 bt120.1 true a1_0 a1_1 a1_2 a2_0 a2_1 a2_2) else (if a1_0 = a1_1 then (examboardlaw47_TimingNever.j1 kj3 a0 t118 bt120.1 (t118 != (wrap64 (a0 + a1_2))) a1_0 a1_1 a1_2 a2_0 a2_1 a2_2) else (examboardlaw47_TimingNever.j1 kj3 a0 t118 bt120.1 false a1_0 a1_1 a1_2 a2_0 a2_1 a2_2)))) else (examboardlaw47_TimingNever.j1 kj3 a0 t118 bt120.1 true a1_0 a1_1 a1_2 a2_0 a2_1 a2_2)) else (examboardlaw47_TimingNever.j1 kj3 a0 t118 bt120.1 true a1_0 a1_1 a1_2 a2_0 a2_1 a2_2))) = some r := H
        have A25 := Aside0.mk A250
        clear A250
        replace H := Option.bind_eq_some_iff.mp H
        obtain ⟨⟨t120, t121⟩, A260, H⟩ := H
        replace H : (if t119 = 0 then (if t121 = 0 then (if t118 < (wrap64 (a0 + a1_2)) then (examboardlaw47_TimingNever.j1 kj3 a0 t118 t120 true a1_0 a1_1 a1_2 a2_0 a2_1 a2_2) else (if t120 < (wrap64 (a0 + a2_2)) then (examboardlaw47_TimingNever.j1 kj3 a0 t118 t120 true a1_0 a1_1 a1_2 a2_0 a2_1 a2_2) else (if a1_0 = a1_1 then (examboardlaw47_TimingNever.j1 kj3 a0 t118 t120 (t118 != (wrap64 (a0 + a1_2))) a1_0 a1_1 a1_2 a2_0 a2_1 a2_2) else (examboardlaw47_TimingNever.j1 kj3 a0 t118 t120 false a1_0 a1_1 a1_2 a2_0 a2_1 a2_2)))) else (examboardlaw47_TimingNever.j1 kj3 a0 t118 t120 true a1_0 a1_1 a1_2 a2_0 a2_1 a2_2)) else (examboardlaw47_TimingNever.j1 kj3 a0 t118 t120 true a1_0 a1_1 a1_2 a2_0 a2_1 a2_2)) = some r := H
        have A26 := Aside0.mk A260
        clear A260
        have HC27 := Aside0.mk H
        clear H
        have hnb28 := NB112_113.out
        have hnc28 := NB113_112.out
        have hcz29_0 : wc.cell? ⟨gb112, 0, none⟩ = some (.int .i64 a1_0) := (blk_cell BK112.out 0).trans rfl
        have hcz29_1 : wc.cell? ⟨gb112, 1, none⟩ = some (.int .i64 a1_1) := (blk_cell BK112.out 1).trans rfl
        have hcz29_2 : wc.cell? ⟨gb112, 2, none⟩ = some (.int .i64 a1_2) := (blk_cell BK112.out 2).trans rfl
        have hfz29_0 := blk_frozen BK112.out 0
        have hfz29_1 := blk_frozen BK112.out 1
        have hfz29_2 := blk_frozen BK112.out 2
        go_upto_region 6 with (first | ((with_reducible refine gate_callee (f := 8) rfl ?_); refine goesL_ (some 42) rfl rfl Try.func8 (by kernel_rfl) rfl #[.int .i64 a0, .agg #[.int .i64 a1_0, .int .i64 a1_1, .int .i64 a1_2]] rfl (by (try simp only [List.map_toArray, List.map_cons, List.map_nil]); first | done | rfl | (simp only [List.length_drop, List.length_take]; rfl)) ?_; (with_reducible refine (timing_Limit.calls a0 a1_0 a1_1 a1_2 t118 t119 _ A25.out).mono ?_); rintro e w30 ⟨rfl, hb⟩; refine ⟨_, rfl, ?_⟩; have n0_ := Aside0.mk (blk_below (g := gb112) (o := .cells #[.int .i64 a1_0, .int .i64 a1_1, .int .i64 a1_2] 23 (0, 0)) (by (with_reducible repeat (first | refine blk_drewN ?_ _ | refine blk_drew ?_ | refine blk_alloc ?_ _)); exact BK112.out) hb); have n1_ := Aside0.mk (blk_below (g := gb113) (o := .cells #[.int .i64 a2_0, .int .i64 a2_1, .int .i64 a2_2] 23 (0, 0)) (by (with_reducible repeat (first | refine blk_drewN ?_ _ | refine blk_drew ?_ | refine blk_alloc ?_ _)); exact BK113.out) hb); have n2_ := Aside0.mk (below_step (by repeat (first | (with_reducible first | exact HB.out | apply below_alloc | apply pw_below_drewN | apply below_drew1 | refine below_set ?_ GE112.out | refine below_set ?_ GE113.out) | exact HB.out)) hb); clear BK112; clear BK113; clear HB; have BK112 := n0_; have BK113 := n1_; have HB := n2_; clear n0_ n1_ n2_; (try clear hb); (try clear hb2); (try clear hk); (try clear hi); have hcz31_0 : w30.cell? ⟨gb113, 0, none⟩ = some (.int .i64 a2_0) := (blk_cell BK113.out 0).trans rfl; have hcz31_1 : w30.cell? ⟨gb113, 1, none⟩ = some (.int .i64 a2_1) := (blk_cell BK113.out 1).trans rfl; have hcz31_2 : w30.cell? ⟨gb113, 2, none⟩ = some (.int .i64 a2_2) := (blk_cell BK113.out 2).trans rfl; have hfz31_0 := blk_frozen BK113.out 0; have hfz31_1 := blk_frozen BK113.out 1; have hfz31_2 := blk_frozen BK113.out 2) | ((with_reducible refine gate_callee (f := 8) rfl ?_); refine goesL_ (some 48) rfl rfl Try.func8 (by kernel_rfl) rfl #[.int .i64 a0, .agg #[.int .i64 a2_0, .int .i64 a2_1, .int .i64 a2_2]] rfl (by (try simp only [List.map_toArray, List.map_cons, List.map_nil]); first | done | rfl | (simp only [List.length_drop, List.length_take]; rfl)) ?_; (with_reducible refine (timing_Limit.calls a0 a2_0 a2_1 a2_2 t120 t121 _ A26.out).mono ?_); rintro e w32 ⟨rfl, hb⟩; refine ⟨_, rfl, ?_⟩; have n0_ := Aside0.mk (blk_below (g := gb112) (o := .cells #[.int .i64 a1_0, .int .i64 a1_1, .int .i64 a1_2] 23 (0, 0)) (by (with_reducible repeat (first | refine blk_drewN ?_ _ | refine blk_drew ?_ | refine blk_alloc ?_ _)); exact BK112.out) hb); have n1_ := Aside0.mk (blk_below (g := gb113) (o := .cells #[.int .i64 a2_0, .int .i64 a2_1, .int .i64 a2_2] 23 (0, 0)) (by (with_reducible repeat (first | refine blk_drewN ?_ _ | refine blk_drew ?_ | refine blk_alloc ?_ _)); exact BK113.out) hb); have n2_ := Aside0.mk (below_step (by repeat (first | (with_reducible first | exact HB.out | apply below_alloc | apply pw_below_drewN | apply below_drew1 | refine below_set ?_ GE112.out | refine below_set ?_ GE113.out) | exact HB.out)) hb); clear BK112; clear BK113; clear HB; have BK112 := n0_; have BK113 := n1_; have HB := n2_; clear n0_ n1_ n2_; (try clear hb); (try clear hb2); (try clear hk); (try clear hi)))
        (try simp only [Act.put, List.setIfInBounds_toArray, List.set_cons_zero, List.set_cons_succ])
        go_cut [87] (fun v87 wc => ∃ (kq : Nat) (x87_26 : Bool), v87 = .bool x87_26 ∧ Aside0 (examboardlaw47_TimingNever.j1 kq a0 t118 t120 x87_26 a1_0 a1_1 a1_2 a2_0 a2_1 a2_2 = some r) ∧ Aside0 (kq ≤ kj3) ∧ Aside0 (wc.heap[gb112]? = some (.cells #[.int .i64 a1_0, .int .i64 a1_1, .int .i64 a1_2] 23 (0, 0))) ∧ Aside0 (wc.heap[gb113]? = some (.cells #[.int .i64 a2_0, .int .i64 a2_1, .int .i64 a2_2] 23 (0, 0))) ∧ Aside0 (Below w.heap.size w wc))
        case first =>
          have H := HC27.out
          clear HC27
          by_cases c33 : t119 = 0
          · rw [if_pos c33] at H
            have c33b0 : (t119 == 0) = true := beq_iff_eq.mpr c33
            have c33b1 : (t119 != 0) = false := bne_eq_false_iff_eq.mpr c33
            clear c33
            (first | rw [c33b0] | (simp only [i64_w, i32_w]; rw [c33b0]) | skip)
            by_cases c34 : t121 = 0
            · rw [if_pos c34] at H
              have c34b0 : (t121 == 0) = true := beq_iff_eq.mpr c34
              have c34b1 : (t121 != 0) = false := bne_eq_false_iff_eq.mpr c34
              clear c34
              by_cases c35 : t118 < (wrap64 (a0 + a1_2))
              · rw [if_pos c35] at H
                have c35b0 : decide (t118 < (wrap64 (a0 + a1_2))) = true := decide_eq_true c35
                clear c35
                have H' := Aside0.mk H
                clear H
                have hnb36 := NB112_113.out
                have hnc36 := NB113_112.out
                have hcz37_0 : w32.cell? ⟨gb112, 0, none⟩ = some (.int .i64 a1_0) := (blk_cell BK112.out 0).trans rfl
                have hcz37_1 : w32.cell? ⟨gb112, 1, none⟩ = some (.int .i64 a1_1) := (blk_cell BK112.out 1).trans rfl
                have hcz37_2 : w32.cell? ⟨gb112, 2, none⟩ = some (.int .i64 a1_2) := (blk_cell BK112.out 2).trans rfl
                have hfz37_0 := blk_frozen BK112.out 0
                have hfz37_1 := blk_frozen BK112.out 1
                have hfz37_2 := blk_frozen BK112.out 2
                go_wp2
                go_meet
                case rel => exact ⟨_, (true), (by first | rfl | (simp; done) | (simp [*]; done)), H', ⟨by have := HJ3.out; first | omega | exact Nat.le_refl _⟩, ⟨by (with_reducible repeat (first | refine blk_drewN ?_ _ | refine blk_drew ?_ | refine blk_alloc ?_ _)); exact BK112.out⟩, ⟨by (with_reducible repeat (first | refine blk_drewN ?_ _ | refine blk_drew ?_ | refine blk_alloc ?_ _)); exact BK113.out⟩, ⟨by repeat (first | (with_reducible first | exact HB.out | apply below_alloc | apply pw_below_drewN | apply below_drew1 | refine below_set ?_ GE112.out | refine below_set ?_ GE113.out) | exact HB.out)⟩⟩
              · rw [if_neg c35] at H
                have c35b0 : decide (t118 < (wrap64 (a0 + a1_2))) = false := decide_eq_false c35
                clear c35
                by_cases c38 : t120 < (wrap64 (a0 + a2_2))
                · rw [if_pos c38] at H
                  have c38b0 : decide (t120 < (wrap64 (a0 + a2_2))) = true := decide_eq_true c38
                  clear c38
                  have H' := Aside0.mk H
                  clear H
                  have hnb39 := NB112_113.out
                  have hnc39 := NB113_112.out
                  have hcz40_0 : w32.cell? ⟨gb112, 0, none⟩ = some (.int .i64 a1_0) := (blk_cell BK112.out 0).trans rfl
                  have hcz40_1 : w32.cell? ⟨gb112, 1, none⟩ = some (.int .i64 a1_1) := (blk_cell BK112.out 1).trans rfl
                  have hcz40_2 : w32.cell? ⟨gb112, 2, none⟩ = some (.int .i64 a1_2) := (blk_cell BK112.out 2).trans rfl
                  have hfz40_0 := blk_frozen BK112.out 0
                  have hfz40_1 := blk_frozen BK112.out 1
                  have hfz40_2 := blk_frozen BK112.out 2
                  have hcz41_0 : w32.cell? ⟨gb113, 0, none⟩ = some (.int .i64 a2_0) := (blk_cell BK113.out 0).trans rfl
                  have hcz41_1 : w32.cell? ⟨gb113, 1, none⟩ = some (.int .i64 a2_1) := (blk_cell BK113.out 1).trans rfl
                  have hcz41_2 : w32.cell? ⟨gb113, 2, none⟩ = some (.int .i64 a2_2) := (blk_cell BK113.out 2).trans rfl
                  have hfz41_0 := blk_frozen BK113.out 0
                  have hfz41_1 := blk_frozen BK113.out 1
                  have hfz41_2 := blk_frozen BK113.out 2
                  go_wp2
                  go_meet
                  case rel => exact ⟨_, (true), (by first | rfl | (simp; done) | (simp [*]; done)), H', ⟨by have := HJ3.out; first | omega | exact Nat.le_refl _⟩, ⟨by (with_reducible repeat (first | refine blk_drewN ?_ _ | refine blk_drew ?_ | refine blk_alloc ?_ _)); exact BK112.out⟩, ⟨by (with_reducible repeat (first | refine blk_drewN ?_ _ | refine blk_drew ?_ | refine blk_alloc ?_ _)); exact BK113.out⟩, ⟨by repeat (first | (with_reducible first | exact HB.out | apply below_alloc | apply pw_below_drewN | apply below_drew1 | refine below_set ?_ GE112.out | refine below_set ?_ GE113.out) | exact HB.out)⟩⟩
                · rw [if_neg c38] at H
                  have c38b0 : decide (t120 < (wrap64 (a0 + a2_2))) = false := decide_eq_false c38
                  clear c38
                  by_cases c42 : a1_0 = a1_1
                  · rw [if_pos c42] at H
                    have c42b0 : (a1_0 == a1_1) = true := beq_iff_eq.mpr c42
                    have c42b1 : (a1_0 != a1_1) = false := bne_eq_false_iff_eq.mpr c42
                    clear c42
                    have H' := Aside0.mk H
                    clear H
                    have hnb43 := NB112_113.out
                    have hnc43 := NB113_112.out
                    have hcz44_0 : w32.cell? ⟨gb112, 0, none⟩ = some (.int .i64 a1_0) := (blk_cell BK112.out 0).trans rfl
                    have hcz44_1 : w32.cell? ⟨gb112, 1, none⟩ = some (.int .i64 a1_1) := (blk_cell BK112.out 1).trans rfl
                    have hcz44_2 : w32.cell? ⟨gb112, 2, none⟩ = some (.int .i64 a1_2) := (blk_cell BK112.out 2).trans rfl
                    have hfz44_0 := blk_frozen BK112.out 0
                    have hfz44_1 := blk_frozen BK112.out 1
                    have hfz44_2 := blk_frozen BK112.out 2
                    have hcz45_0 : w32.cell? ⟨gb113, 0, none⟩ = some (.int .i64 a2_0) := (blk_cell BK113.out 0).trans rfl
                    have hcz45_1 : w32.cell? ⟨gb113, 1, none⟩ = some (.int .i64 a2_1) := (blk_cell BK113.out 1).trans rfl
                    have hcz45_2 : w32.cell? ⟨gb113, 2, none⟩ = some (.int .i64 a2_2) := (blk_cell BK113.out 2).trans rfl
                    have hfz45_0 := blk_frozen BK113.out 0
                    have hfz45_1 := blk_frozen BK113.out 1
                    have hfz45_2 := blk_frozen BK113.out 2
                    go_wp2
                    go_meet
                    case rel => exact ⟨_, ((t118 != (wrap64 (a0 + a1_2)))), (by first | rfl | (simp; done) | (simp [*]; done)), H', ⟨by have := HJ3.out; first | omega | exact Nat.le_refl _⟩, ⟨by (with_reducible repeat (first | refine blk_drewN ?_ _ | refine blk_drew ?_ | refine blk_alloc ?_ _)); exact BK112.out⟩, ⟨by (with_reducible repeat (first | refine blk_drewN ?_ _ | refine blk_drew ?_ | refine blk_alloc ?_ _)); exact BK113.out⟩, ⟨by repeat (first | (with_reducible first | exact HB.out | apply below_alloc | apply pw_below_drewN | apply below_drew1 | refine below_set ?_ GE112.out | refine below_set ?_ GE113.out) | exact HB.out)⟩⟩
                  · rw [if_neg c42] at H
                    have c42b0 : (a1_0 == a1_1) = false := beq_eq_false_iff_ne.mpr c42
                    have c42b1 : (a1_0 != a1_1) = true := bne_iff_ne.mpr c42
                    have H' := Aside0.mk H
                    clear H
                    have hnb46 := NB112_113.out
                    have hnc46 := NB113_112.out
                    have hcz47_0 : w32.cell? ⟨gb112, 0, none⟩ = some (.int .i64 a1_0) := (blk_cell BK112.out 0).trans rfl
                    have hcz47_1 : w32.cell? ⟨gb112, 1, none⟩ = some (.int .i64 a1_1) := (blk_cell BK112.out 1).trans rfl
                    have hcz47_2 : w32.cell? ⟨gb112, 2, none⟩ = some (.int .i64 a1_2) := (blk_cell BK112.out 2).trans rfl
                    have hfz47_0 := blk_frozen BK112.out 0
                    have hfz47_1 := blk_frozen BK112.out 1
                    have hfz47_2 := blk_frozen BK112.out 2
                    have hcz48_0 : w32.cell? ⟨gb113, 0, none⟩ = some (.int .i64 a2_0) := (blk_cell BK113.out 0).trans rfl
                    have hcz48_1 : w32.cell? ⟨gb113, 1, none⟩ = some (.int .i64 a2_1) := (blk_cell BK113.out 1).trans rfl
                    have hcz48_2 : w32.cell? ⟨gb113, 2, none⟩ = some (.int .i64 a2_2) := (blk_cell BK113.out 2).trans rfl
                    have hfz48_0 := blk_frozen BK113.out 0
                    have hfz48_1 := blk_frozen BK113.out 1
                    have hfz48_2 := blk_frozen BK113.out 2
                    go_wp2
                    go_meet
                    case rel => exact ⟨_, (false), (by first | rfl | (simp; done) | (simp [*]; done)), H', ⟨by have := HJ3.out; first | omega | exact Nat.le_refl _⟩, ⟨by (with_reducible repeat (first | refine blk_drewN ?_ _ | refine blk_drew ?_ | refine blk_alloc ?_ _)); exact BK112.out⟩, ⟨by (with_reducible repeat (first | refine blk_drewN ?_ _ | refine blk_drew ?_ | refine blk_alloc ?_ _)); exact BK113.out⟩, ⟨by repeat (first | (with_reducible first | exact HB.out | apply below_alloc | apply pw_below_drewN | apply below_drew1 | refine below_set ?_ GE112.out | refine below_set ?_ GE113.out) | exact HB.out)⟩⟩
            · rw [if_neg c34] at H
              have c34b0 : (t121 == 0) = false := beq_eq_false_iff_ne.mpr c34
              have c34b1 : (t121 != 0) = true := bne_iff_ne.mpr c34
              have H' := Aside0.mk H
              clear H
              go_wp2
              go_meet
              case rel => exact ⟨_, (true), (by first | rfl | (simp; done) | (simp [*]; done)), H', ⟨by have := HJ3.out; first | omega | exact Nat.le_refl _⟩, ⟨by (with_reducible repeat (first | refine blk_drewN ?_ _ | refine blk_drew ?_ | refine blk_alloc ?_ _)); exact BK112.out⟩, ⟨by (with_reducible repeat (first | refine blk_drewN ?_ _ | refine blk_drew ?_ | refine blk_alloc ?_ _)); exact BK113.out⟩, ⟨by repeat (first | (with_reducible first | exact HB.out | apply below_alloc | apply pw_below_drewN | apply below_drew1 | refine below_set ?_ GE112.out | refine below_set ?_ GE113.out) | exact HB.out)⟩⟩
          · rw [if_neg c33] at H
            have c33b0 : (t119 == 0) = false := beq_eq_false_iff_ne.mpr c33
            have c33b1 : (t119 != 0) = true := bne_iff_ne.mpr c33
            (first | rw [c33b0] | (simp only [i64_w, i32_w]; rw [c33b0]) | skip)
            have H' := Aside0.mk H
            clear H
            go_wp2
            go_meet
            case rel => exact ⟨_, (true), (by first | rfl | (simp; done) | (simp [*]; done)), H', ⟨by have := HJ3.out; first | omega | exact Nat.le_refl _⟩, ⟨by (with_reducible repeat (first | refine blk_drewN ?_ _ | refine blk_drew ?_ | refine blk_alloc ?_ _)); exact BK112.out⟩, ⟨by (with_reducible repeat (first | refine blk_drewN ?_ _ | refine blk_drew ?_ | refine blk_alloc ?_ _)); exact BK113.out⟩, ⟨by repeat (first | (with_reducible first | exact HB.out | apply below_alloc | apply pw_below_drewN | apply below_drew1 | refine below_set ?_ GE112.out | refine below_set ?_ GE113.out) | exact HB.out)⟩⟩
        case rest =>
          clear HC27
          try clear c1
          try clear c2
          try clear p2
          try clear c3
          try clear c4
          try clear p6
          try clear c7
          try clear c7b0
          try clear c8
          try clear c8b0
          try clear c10
          try clear c10b0
          try clear c10b1
          try clear c12
          try clear c17
          try clear c20
          try clear c22
          try clear c28
          try clear c33
          try clear c33b0
          try clear c33b1
          try clear c34
          try clear c34b0
          try clear c34b1
          try clear c35
          try clear c35b0
          try clear c36
          try clear c38
          try clear c38b0
          try clear c39
          try clear c42
          try clear c42b0
          try clear c42b1
          try clear c43
          try clear c46
          try clear hcz13_0
          try clear hcz13_1
          try clear hcz13_2
          try clear hcz15_0
          try clear hcz15_1
          try clear hcz15_2
          try clear hcz18_0
          try clear hcz18_1
          try clear hcz18_2
          try clear hcz23_0
          try clear hcz23_1
          try clear hcz23_2
          try clear hcz29_0
          try clear hcz29_1
          try clear hcz29_2
          try clear hcz31_0
          try clear hcz31_1
          try clear hcz31_2
          try clear hcz37_0
          try clear hcz37_1
          try clear hcz37_2
          try clear hcz40_0
          try clear hcz40_1
          try clear hcz40_2
          try clear hcz41_0
          try clear hcz41_1
          try clear hcz41_2
          try clear hcz44_0
          try clear hcz44_1
          try clear hcz44_2
          try clear hcz45_0
          try clear hcz45_1
          try clear hcz45_2
          try clear hcz47_0
          try clear hcz47_1
          try clear hcz47_2
          try clear hcz48_0
          try clear hcz48_1
          try clear hcz48_2
          try clear hfz13_0
          try clear hfz13_1
          try clear hfz13_2
          try clear hfz15_0
          try clear hfz15_1
          try clear hfz15_2
          try clear hfz18_0
          try clear hfz18_1
          try clear hfz18_2
          try clear hfz23_0
          try clear hfz23_1
          try clear hfz23_2
          try clear hfz29_0
          try clear hfz29_1
          try clear hfz29_2
          try clear hfz31_0
          try clear hfz31_1
          try clear hfz31_2
          try clear hfz37_0
          try clear hfz37_1
          try clear hfz37_2
          try clear hfz40_0
          try clear hfz40_1
          try clear hfz40_2
          try clear hfz41_0
          try clear hfz41_1
          try clear hfz41_2
          try clear hfz44_0
          try clear hfz44_1
          try clear hfz44_2
          try clear hfz45_0
          try clear hfz45_1
          try clear hfz45_2
          try clear hfz47_0
          try clear hfz47_1
          try clear hfz47_2
          try clear hfz48_0
          try clear hfz48_1
          try clear hfz48_2
          try clear p2
          obtain ⟨kq, x87_26, rfl, HA, HJ26, BK112, BK113, HB⟩ := hcut
          cases kq with
          | zero => exact absurd HA.out (by simp [examboardlaw47_TimingNever.j1])
          | succ kj26 =>
            have H := HA.out
            clear HA
            simp only [examboardlaw47_TimingNever.j1] at H
            by_cases c49 : x87_26 = true
            · subst c49
              have H1 : (some false) = some r := by rw [if_pos rfl] at H; exact H
              clear H
              have H := H1
              clear H1
              obtain rfl := Option.some.inj H
              go_wp2
              go_ret
              exact ⟨by first | rfl | (simp [errW_none, errW_some] <;> rfl) | (simp [*, errW_none, errW_some] <;> rfl), by repeat (first | (with_reducible first | exact HB.out | apply below_alloc | apply pw_below_drewN | apply below_drew1 | refine below_set ?_ GE112.out | refine below_set ?_ GE113.out) | exact HB.out)⟩
            · replace c49 := Bool.eq_false_iff.mpr c49
              subst c49
              have H1 : ((timing_Combine.f kj26 a1_0 a1_1 a1_2 a2_0 a2_1 a2_2).bind fun bt122 => ((timing_Combine.f kj26 a2_0 a2_1 a2_2 a1_0 a1_1 a1_2).bind fun bt127 => (if (!(bt122.1 == bt127.1) || (!(bt122.2.1 == bt127.2.1) || (!(bt122.2.2.1 == bt127.2.2.1)))) = true then (examboardlaw47_TimingNever.j2 kj26 a0 t118 bt122.2.2.2 t120 true a1_0 a1_1 a1_2 a2_0 a2_1 a2_2 bt122.1 bt122.2.1 bt122.2.2.1) else (examboardlaw47_TimingNever.j2 kj26 a0 t118 bt122.2.2.2 t120 (bt122.2.2.2 != bt127.2.2.2) a1_0 a1_1 a1_2 a2_0 a2_1 a2_2 bt122.1 bt122.2.1 bt122.2.2.1)))) = some r := by rw [if_neg (show ¬ (false = true) by decide)] at H; exact H
              clear H
              have H := H1
              clear H1
              replace H := Option.bind_eq_some_iff.mp H
              obtain ⟨⟨t122, t123, t124, t125⟩, A500, H⟩ := H
              replace H : ((timing_Combine.f kj26 a2_0 a2_1 a2_2 a1_0 a1_1 a1_2).bind fun bt127 => (if (!(t122 == bt127.1) || (!(t123 == bt127.2.1) || (!(t124 == bt127.2.2.1)))) = true then (examboardlaw47_TimingNever.j2 kj26 a0 t118 t125 t120 true a1_0 a1_1 a1_2 a2_0 a2_1 a2_2 t122 t123 t124) else (examboardlaw47_TimingNever.j2 kj26 a0 t118 t125 t120 (t125 != bt127.2.2.2) a1_0 a1_1 a1_2 a2_0 a2_1 a2_2 t122 t123 t124))) = some r := H
              have A50 := Aside0.mk A500
              clear A500
              replace H := Option.bind_eq_some_iff.mp H
              obtain ⟨⟨t127, t128, t129, t130⟩, A510, H⟩ := H
              replace H : (if (!(t122 == t127) || (!(t123 == t128) || (!(t124 == t129)))) = true then (examboardlaw47_TimingNever.j2 kj26 a0 t118 t125 t120 true a1_0 a1_1 a1_2 a2_0 a2_1 a2_2 t122 t123 t124) else (examboardlaw47_TimingNever.j2 kj26 a0 t118 t125 t120 (t125 != t130) a1_0 a1_1 a1_2 a2_0 a2_1 a2_2 t122 t123 t124)) = some r := H
              have A51 := Aside0.mk A510
              clear A510
              have HC52 := Aside0.mk H
              clear H
              have hnb53 := NB112_113.out
              have hnc53 := NB113_112.out
              have hcz54_0 : wc.cell? ⟨gb112, 0, none⟩ = some (.int .i64 a1_0) := (blk_cell BK112.out 0).trans rfl
              have hcz54_1 : wc.cell? ⟨gb112, 1, none⟩ = some (.int .i64 a1_1) := (blk_cell BK112.out 1).trans rfl
              have hcz54_2 : wc.cell? ⟨gb112, 2, none⟩ = some (.int .i64 a1_2) := (blk_cell BK112.out 2).trans rfl
              have hfz54_0 := blk_frozen BK112.out 0
              have hfz54_1 := blk_frozen BK112.out 1
              have hfz54_2 := blk_frozen BK112.out 2
              have hcz55_0 : wc.cell? ⟨gb113, 0, none⟩ = some (.int .i64 a2_0) := (blk_cell BK113.out 0).trans rfl
              have hcz55_1 : wc.cell? ⟨gb113, 1, none⟩ = some (.int .i64 a2_1) := (blk_cell BK113.out 1).trans rfl
              have hcz55_2 : wc.cell? ⟨gb113, 2, none⟩ = some (.int .i64 a2_2) := (blk_cell BK113.out 2).trans rfl
              have hfz55_0 := blk_frozen BK113.out 0
              have hfz55_1 := blk_frozen BK113.out 1
              have hfz55_2 := blk_frozen BK113.out 2
              go_upto_region 10 with (first | ((with_reducible refine gate_callee (f := 12) rfl ?_); refine goesL_ (some 91) rfl rfl Try.func12 (by kernel_rfl) rfl #[.agg #[.int .i64 a1_0, .int .i64 a1_1, .int .i64 a1_2], .agg #[.int .i64 a2_0, .int .i64 a2_1, .int .i64 a2_2]] rfl (by (try simp only [List.map_toArray, List.map_cons, List.map_nil]); first | done | rfl | (simp only [List.length_drop, List.length_take]; rfl)) ?_; (with_reducible refine (timing_Combine.calls kj26 a1_0 a1_1 a1_2 a2_0 a2_1 a2_2 t122 t123 t124 t125 _ A50.out).mono ?_); rintro e w56 ⟨rfl, hb⟩; refine ⟨_, rfl, ?_⟩; have n0_ := Aside0.mk (blk_below (g := gb112) (o := .cells #[.int .i64 a1_0, .int .i64 a1_1, .int .i64 a1_2] 23 (0, 0)) (by (with_reducible repeat (first | refine blk_drewN ?_ _ | refine blk_drew ?_ | refine blk_alloc ?_ _)); exact BK112.out) hb); have n1_ := Aside0.mk (blk_below (g := gb113) (o := .cells #[.int .i64 a2_0, .int .i64 a2_1, .int .i64 a2_2] 23 (0, 0)) (by (with_reducible repeat (first | refine blk_drewN ?_ _ | refine blk_drew ?_ | refine blk_alloc ?_ _)); exact BK113.out) hb); have n2_ := Aside0.mk (below_step (by repeat (first | (with_reducible first | exact HB.out | apply below_alloc | apply pw_below_drewN | apply below_drew1 | refine below_set ?_ GE112.out | refine below_set ?_ GE113.out) | exact HB.out)) hb); clear BK112; clear BK113; clear HB; have BK112 := n0_; have BK113 := n1_; have HB := n2_; clear n0_ n1_ n2_; (try clear hb); (try clear hb2); (try clear hk); (try clear hi)) | ((with_reducible refine gate_dst (N := 13) rfl ?_); refine box_event ?hg (N := 13) ?hd (cs := #[.int .i64 0, .int .i64 0, .int .i64 0]) (t := 23) ?hr ?_; (case hd => rfl); (case hg => rfl); (case hr => first | (go_simp; done) | (go_simp; rfl)); intro gb126 hg w57 hbox hb; have n0_ := Aside0.mk (blk_below (g := gb112) (o := .cells #[.int .i64 a1_0, .int .i64 a1_1, .int .i64 a1_2] 23 (0, 0)) (by (with_reducible repeat (first | refine blk_drewN ?_ _ | refine blk_drew ?_ | refine blk_alloc ?_ _)); exact BK112.out) hb); have n1_ := Aside0.mk (blk_below (g := gb113) (o := .cells #[.int .i64 a2_0, .int .i64 a2_1, .int .i64 a2_2] 23 (0, 0)) (by (with_reducible repeat (first | refine blk_drewN ?_ _ | refine blk_drew ?_ | refine blk_alloc ?_ _)); exact BK113.out) hb); have n2_ := Aside0.mk (below_step (by repeat (first | (with_reducible first | exact HB.out | apply below_alloc | apply pw_below_drewN | apply below_drew1 | refine below_set ?_ GE112.out | refine below_set ?_ GE113.out) | exact HB.out)) hb); have n3_ := Aside0.mk (hbox); have n4_ := Aside0.mk ((by rw [hg]; exact (below_size (by repeat (first | (with_reducible first | exact HB.out | apply below_alloc | apply pw_below_drewN | apply below_drew1 | refine below_set ?_ GE112.out | refine below_set ?_ GE113.out) | exact HB.out))) : w.heap.size ≤ gb126)); have n5_ := Aside0.mk ((by rw [hg]; exact (below_size (by repeat (first | (with_reducible first | exact HB.out | apply below_alloc | apply pw_below_drewN | apply below_drew1 | refine below_set ?_ GE112.out | refine below_set ?_ GE113.out) | exact HB.out))) : w.heap.size ≤ gb126)); have n6_ := Aside0.mk ((by rw [hg]; exact Nat.ne_of_lt (blk_lt (g := gb112) (o := .cells #[.int .i64 a1_0, .int .i64 a1_1, .int .i64 a1_2] 23 (0, 0)) (by (with_reducible repeat (first | refine blk_drewN ?_ _ | refine blk_drew ?_ | refine blk_alloc ?_ _)); exact BK112.out)) : gb112 ≠ gb126)); have n7_ := Aside0.mk ((by rw [hg]; exact Nat.ne_of_gt (blk_lt (g := gb112) (o := .cells #[.int .i64 a1_0, .int .i64 a1_1, .int .i64 a1_2] 23 (0, 0)) (by (with_reducible repeat (first | refine blk_drewN ?_ _ | refine blk_drew ?_ | refine blk_alloc ?_ _)); exact BK112.out)) : gb126 ≠ gb112)); have n8_ := Aside0.mk ((by rw [hg]; exact Nat.ne_of_lt (blk_lt (g := gb113) (o := .cells #[.int .i64 a2_0, .int .i64 a2_1, .int .i64 a2_2] 23 (0, 0)) (by (with_reducible repeat (first | refine blk_drewN ?_ _ | refine blk_drew ?_ | refine blk_alloc ?_ _)); exact BK113.out)) : gb113 ≠ gb126)); have n9_ := Aside0.mk ((by rw [hg]; exact Nat.ne_of_gt (blk_lt (g := gb113) (o := .cells #[.int .i64 a2_0, .int .i64 a2_1, .int .i64 a2_2] 23 (0, 0)) (by (with_reducible repeat (first | refine blk_drewN ?_ _ | refine blk_drew ?_ | refine blk_alloc ?_ _)); exact BK113.out)) : gb126 ≠ gb113)); clear BK112; clear BK113; clear HB; have BK112 := n0_; have BK113 := n1_; have HB := n2_; have BK126 := n3_; have GW126 := n4_; have GE126 := n5_; have NB112_126 := n6_; have NB126_112 := n7_; have NB113_126 := n8_; have NB126_113 := n9_; clear n0_ n1_ n2_ n3_ n4_ n5_ n6_ n7_ n8_ n9_; clear hb hbox hg; have hnb58 := NB126_112.out; have hnc58 := NB112_126.out; have hnb59 := NB126_113.out; have hnc59 := NB113_126.out; have hcz60_0 : w57.cell? ⟨gb126, 0, none⟩ = some (.int .i64 0) := (blk_cell BK126.out 0).trans rfl; have hcz60_1 : w57.cell? ⟨gb126, 1, none⟩ = some (.int .i64 0) := (blk_cell BK126.out 1).trans rfl; have hcz60_2 : w57.cell? ⟨gb126, 2, none⟩ = some (.int .i64 0) := (blk_cell BK126.out 2).trans rfl; have hfz60_0 := blk_frozen BK126.out 0; have hfz60_1 := blk_frozen BK126.out 1; have hfz60_2 := blk_frozen BK126.out 2; have hcz61_0 : w57.cell? ⟨gb113, 0, none⟩ = some (.int .i64 a2_0) := (blk_cell BK113.out 0).trans rfl; have hcz61_1 : w57.cell? ⟨gb113, 1, none⟩ = some (.int .i64 a2_1) := (blk_cell BK113.out 1).trans rfl; have hcz61_2 : w57.cell? ⟨gb113, 2, none⟩ = some (.int .i64 a2_2) := (blk_cell BK113.out 2).trans rfl; have hfz61_0 := blk_frozen BK113.out 0; have hfz61_1 := blk_frozen BK113.out 1; have hfz61_2 := blk_frozen BK113.out 2; have hcz62_0 : w57.cell? ⟨gb112, 0, none⟩ = some (.int .i64 a1_0) := (blk_cell BK112.out 0).trans rfl; have hcz62_1 : w57.cell? ⟨gb112, 1, none⟩ = some (.int .i64 a1_1) := (blk_cell BK112.out 1).trans rfl; have hcz62_2 : w57.cell? ⟨gb112, 2, none⟩ = some (.int .i64 a1_2) := (blk_cell BK112.out 2).trans rfl; have hfz62_0 := blk_frozen BK112.out 0; have hfz62_1 := blk_frozen BK112.out 1; have hfz62_2 := blk_frozen BK112.out 2) | ((with_reducible refine gate_callee (f := 12) rfl ?_); refine goesL_ (some 97) rfl rfl Try.func12 (by kernel_rfl) rfl #[.agg #[.int .i64 a2_0, .int .i64 a2_1, .int .i64 a2_2], .agg #[.int .i64 a1_0, .int .i64 a1_1, .int .i64 a1_2]] rfl (by (try simp only [List.map_toArray, List.map_cons, List.map_nil]); first | done | rfl | (simp only [List.length_drop, List.length_take]; rfl)) ?_; (with_reducible refine (timing_Combine.calls kj26 a2_0 a2_1 a2_2 a1_0 a1_1 a1_2 t127 t128 t129 t130 _ A51.out).mono ?_); rintro e w63 ⟨rfl, hb⟩; refine ⟨_, rfl, ?_⟩; have n0_ := Aside0.mk (blk_below (g := gb112) (o := .cells #[.int .i64 a1_0, .int .i64 a1_1, .int .i64 a1_2] 23 (0, 0)) (by (with_reducible repeat (first | refine blk_drewN ?_ _ | refine blk_drew ?_ | refine blk_alloc ?_ _)); refine blk_far ?_ NB112_126.out _; (with_reducible repeat (first | refine blk_drewN ?_ _ | refine blk_drew ?_ | refine blk_alloc ?_ _)); refine blk_far ?_ NB112_126.out _; (with_reducible repeat (first | refine blk_drewN ?_ _ | refine blk_drew ?_ | refine blk_alloc ?_ _)); refine blk_far ?_ NB112_126.out _; (with_reducible repeat (first | refine blk_drewN ?_ _ | refine blk_drew ?_ | refine blk_alloc ?_ _)); exact BK112.out) hb); have n1_ := Aside0.mk (blk_below (g := gb113) (o := .cells #[.int .i64 a2_0, .int .i64 a2_1, .int .i64 a2_2] 23 (0, 0)) (by (with_reducible repeat (first | refine blk_drewN ?_ _ | refine blk_drew ?_ | refine blk_alloc ?_ _)); refine blk_far ?_ NB113_126.out _; (with_reducible repeat (first | refine blk_drewN ?_ _ | refine blk_drew ?_ | refine blk_alloc ?_ _)); refine blk_far ?_ NB113_126.out _; (with_reducible repeat (first | refine blk_drewN ?_ _ | refine blk_drew ?_ | refine blk_alloc ?_ _)); refine blk_far ?_ NB113_126.out _; (with_reducible repeat (first | refine blk_drewN ?_ _ | refine blk_drew ?_ | refine blk_alloc ?_ _)); exact BK113.out) hb); have n2_ := Aside0.mk (blk_below (g := gb126) (o := .cells #[.int .i64 t122, .int .i64 t123, .int .i64 t124] 23 (0, 0)) (by (with_reducible repeat (first | refine blk_drewN ?_ _ | refine blk_drew ?_ | refine blk_alloc ?_ _)); refine blk_put (cs := #[.int .i64 t122, .int .i64 t123, .int .i64 0]) ?_ 2 _ rfl; (with_reducible repeat (first | refine blk_drewN ?_ _ | refine blk_drew ?_ | refine blk_alloc ?_ _)); refine blk_put (cs := #[.int .i64 t122, .int .i64 0, .int .i64 0]) ?_ 1 _ rfl; (with_reducible repeat (first | refine blk_drewN ?_ _ | refine blk_drew ?_ | refine blk_alloc ?_ _)); refine blk_put (cs := #[.int .i64 0, .int .i64 0, .int .i64 0]) ?_ 0 _ rfl; (with_reducible repeat (first | refine blk_drewN ?_ _ | refine blk_drew ?_ | refine blk_alloc ?_ _)); exact BK126.out) hb); have n3_ := Aside0.mk (below_step (by repeat (first | (with_reducible first | exact HB.out | apply below_alloc | apply pw_below_drewN | apply below_drew1 | refine below_set ?_ GE112.out | refine below_set ?_ GE113.out | refine below_set ?_ GE126.out) | exact HB.out)) hb); clear BK112; clear BK113; clear BK126; clear HB; have BK112 := n0_; have BK113 := n1_; have BK126 := n2_; have HB := n3_; clear n0_ n1_ n2_ n3_; (try clear hb); (try clear hb2); (try clear hk); (try clear hi)) | ((with_reducible refine gate_dst (N := 14) rfl ?_); refine box_event ?hg (N := 14) ?hd (cs := #[.int .i64 0, .int .i64 0, .int .i64 0]) (t := 23) ?hr ?_; (case hd => rfl); (case hg => rfl); (case hr => first | (go_simp; done) | (go_simp; rfl)); intro gb131 hg w64 hbox hb; have n0_ := Aside0.mk (blk_below (g := gb112) (o := .cells #[.int .i64 a1_0, .int .i64 a1_1, .int .i64 a1_2] 23 (0, 0)) (by (with_reducible repeat (first | refine blk_drewN ?_ _ | refine blk_drew ?_ | refine blk_alloc ?_ _)); exact BK112.out) hb); have n1_ := Aside0.mk (blk_below (g := gb113) (o := .cells #[.int .i64 a2_0, .int .i64 a2_1, .int .i64 a2_2] 23 (0, 0)) (by (with_reducible repeat (first | refine blk_drewN ?_ _ | refine blk_drew ?_ | refine blk_alloc ?_ _)); exact BK113.out) hb); have n2_ := Aside0.mk (blk_below (g := gb126) (o := .cells #[.int .i64 t122, .int .i64 t123, .int .i64 t124] 23 (0, 0)) (by (with_reducible repeat (first | refine blk_drewN ?_ _ | refine blk_drew ?_ | refine blk_alloc ?_ _)); exact BK126.out) hb); have n3_ := Aside0.mk (below_step (by repeat (first | (with_reducible first | exact HB.out | apply below_alloc | apply pw_below_drewN | apply below_drew1 | refine below_set ?_ GE112.out | refine below_set ?_ GE113.out | refine below_set ?_ GE126.out) | exact HB.out)) hb); have n4_ := Aside0.mk (hbox); have n5_ := Aside0.mk ((by rw [hg]; exact (below_size (by repeat (first | (with_reducible first | exact HB.out | apply below_alloc | apply pw_below_drewN | apply below_drew1 | refine below_set ?_ GE112.out | refine below_set ?_ GE113.out | refine below_set ?_ GE126.out) | exact HB.out))) : w.heap.size ≤ gb131)); have n6_ := Aside0.mk ((by rw [hg]; exact (below_size (by repeat (first | (with_reducible first | exact HB.out | apply below_alloc | apply pw_below_drewN | apply below_drew1 | refine below_set ?_ GE112.out | refine below_set ?_ GE113.out | refine below_set ?_ GE126.out) | exact HB.out))) : w.heap.size ≤ gb131)); have n7_ := Aside0.mk ((by rw [hg]; exact Nat.ne_of_lt (blk_lt (g := gb112) (o := .cells #[.int .i64 a1_0, .int .i64 a1_1, .int .i64 a1_2] 23 (0, 0)) (by (with_reducible repeat (first | refine blk_drewN ?_ _ | refine blk_drew ?_ | refine blk_alloc ?_ _)); exact BK112.out)) : gb112 ≠ gb131)); have n8_ := Aside0.mk ((by rw [hg]; exact Nat.ne_of_gt (blk_lt (g := gb112) (o := .cells #[.int .i64 a1_0, .int .i64 a1_1, .int .i64 a1_2] 23 (0, 0)) (by (with_reducible repeat (first | refine blk_drewN ?_ _ | refine blk_drew ?_ | refine blk_alloc ?_ _)); exact BK112.out)) : gb131 ≠ gb112)); have n9_ := Aside0.mk ((by rw [hg]; exact Nat.ne_of_lt (blk_lt (g := gb113) (o := .cells #[.int .i64 a2_0, .int .i64 a2_1, .int .i64 a2_2] 23 (0, 0)) (by (with_reducible repeat (first | refine blk_drewN ?_ _ | refine blk_drew ?_ | refine blk_alloc ?_ _)); exact BK113.out)) : gb113 ≠ gb131)); have n10_ := Aside0.mk ((by rw [hg]; exact Nat.ne_of_gt (blk_lt (g := gb113) (o := .cells #[.int .i64 a2_0, .int .i64 a2_1, .int .i64 a2_2] 23 (0, 0)) (by (with_reducible repeat (first | refine blk_drewN ?_ _ | refine blk_drew ?_ | refine blk_alloc ?_ _)); exact BK113.out)) : gb131 ≠ gb113)); have n11_ := Aside0.mk ((by rw [hg]; exact Nat.ne_of_lt (blk_lt (g := gb126) (o := .cells #[.int .i64 t122, .int .i64 t123, .int .i64 t124] 23 (0, 0)) (by (with_reducible repeat (first | refine blk_drewN ?_ _ | refine blk_drew ?_ | refine blk_alloc ?_ _)); exact BK126.out)) : gb126 ≠ gb131)); have n12_ := Aside0.mk ((by rw [hg]; exact Nat.ne_of_gt (blk_lt (g := gb126) (o := .cells #[.int .i64 t122, .int .i64 t123, .int .i64 t124] 23 (0, 0)) (by (with_reducible repeat (first | refine blk_drewN ?_ _ | refine blk_drew ?_ | refine blk_alloc ?_ _)); exact BK126.out)) : gb131 ≠ gb126)); clear BK112; clear BK113; clear BK126; clear HB; have BK112 := n0_; have BK113 := n1_; have BK126 := n2_; have HB := n3_; have BK131 := n4_; have GW131 := n5_; have GE131 := n6_; have NB112_131 := n7_; have NB131_112 := n8_; have NB113_131 := n9_; have NB131_113 := n10_; have NB126_131 := n11_; have NB131_126 := n12_; clear n0_ n1_ n2_ n3_ n4_ n5_ n6_ n7_ n8_ n9_ n10_ n11_ n12_; clear hb hbox hg; have hnb65 := NB131_112.out; have hnc65 := NB112_131.out; have hnb66 := NB131_113.out; have hnc66 := NB113_131.out; have hnb67 := NB131_126.out; have hnc67 := NB126_131.out; have hcz68_0 : w64.cell? ⟨gb131, 0, none⟩ = some (.int .i64 0) := (blk_cell BK131.out 0).trans rfl; have hcz68_1 : w64.cell? ⟨gb131, 1, none⟩ = some (.int .i64 0) := (blk_cell BK131.out 1).trans rfl; have hcz68_2 : w64.cell? ⟨gb131, 2, none⟩ = some (.int .i64 0) := (blk_cell BK131.out 2).trans rfl; have hfz68_0 := blk_frozen BK131.out 0; have hfz68_1 := blk_frozen BK131.out 1; have hfz68_2 := blk_frozen BK131.out 2))
              (try simp only [Act.put, List.setIfInBounds_toArray, List.set_cons_zero, List.set_cons_succ])
              go_cut [107] (fun v107 wc => ∃ (kq : Nat) (x107_51 : Bool), v107 = .bool x107_51 ∧ Aside0 (examboardlaw47_TimingNever.j2 kq a0 t118 t125 t120 x107_51 a1_0 a1_1 a1_2 a2_0 a2_1 a2_2 t122 t123 t124 = some r) ∧ Aside0 (kq ≤ kj26) ∧ Aside0 (wc.heap[gb112]? = some (.cells #[.int .i64 a1_0, .int .i64 a1_1, .int .i64 a1_2] 23 (0, 0))) ∧ Aside0 (wc.heap[gb113]? = some (.cells #[.int .i64 a2_0, .int .i64 a2_1, .int .i64 a2_2] 23 (0, 0))) ∧ Aside0 (wc.heap[gb126]? = some (.cells #[.int .i64 t122, .int .i64 t123, .int .i64 t124] 23 (0, 0))) ∧ Aside0 (wc.heap[gb131]? = some (.cells #[.int .i64 t127, .int .i64 t128, .int .i64 t129] 23 (0, 0))) ∧ Aside0 (Below w.heap.size w wc))
              case first =>
                have H := HC52.out
                clear HC52
                by_cases c69 : (!(t122 == t127) || (!(t123 == t128) || (!(t124 == t129)))) = true
                · rw [if_pos c69] at H
                  have c69b0 : (!(t122 == t127) || (!(t123 == t128) || (!(t124 == t129)))) = true := c69
                  clear c69
                  (first | rw [c69b0] | (simp only [i64_w, i32_w]; rw [c69b0]) | skip)
                  have H' := Aside0.mk H
                  clear H
                  have hnb70 := NB126_112.out
                  have hnc70 := NB112_126.out
                  have hnb71 := NB126_113.out
                  have hnc71 := NB113_126.out
                  have hnb72 := NB126_131.out
                  have hnc72 := NB131_126.out
                  have hcz73_0 : w64.cell? ⟨gb126, 0, none⟩ = some (.int .i64 t122) := (blk_cell BK126.out 0).trans rfl
                  have hcz73_1 : w64.cell? ⟨gb126, 1, none⟩ = some (.int .i64 t123) := (blk_cell BK126.out 1).trans rfl
                  have hcz73_2 : w64.cell? ⟨gb126, 2, none⟩ = some (.int .i64 t124) := (blk_cell BK126.out 2).trans rfl
                  have hfz73_0 := blk_frozen BK126.out 0
                  have hfz73_1 := blk_frozen BK126.out 1
                  have hfz73_2 := blk_frozen BK126.out 2
                  have hnb74 := NB131_112.out
                  have hnc74 := NB112_131.out
                  have hnb75 := NB131_113.out
                  have hnc75 := NB113_131.out
                  have hcz76_0 : w64.cell? ⟨gb131, 0, none⟩ = some (.int .i64 0) := (blk_cell BK131.out 0).trans rfl
                  have hcz76_1 : w64.cell? ⟨gb131, 1, none⟩ = some (.int .i64 0) := (blk_cell BK131.out 1).trans rfl
                  have hcz76_2 : w64.cell? ⟨gb131, 2, none⟩ = some (.int .i64 0) := (blk_cell BK131.out 2).trans rfl
                  have hfz76_0 := blk_frozen BK131.out 0
                  have hfz76_1 := blk_frozen BK131.out 1
                  have hfz76_2 := blk_frozen BK131.out 2
                  go_wp2
                  go_meet
                  case rel => exact ⟨_, (true), (by first | rfl | (simp; done) | (simp [*]; done)), H', ⟨by have := HJ3.out; have := HJ26.out; first | omega | exact Nat.le_refl _⟩, ⟨by (with_reducible repeat (first | refine blk_drewN ?_ _ | refine blk_drew ?_ | refine blk_alloc ?_ _)); refine blk_far ?_ NB112_131.out _; (with_reducible repeat (first | refine blk_drewN ?_ _ | refine blk_drew ?_ | refine blk_alloc ?_ _)); refine blk_far ?_ NB112_131.out _; (with_reducible repeat (first | refine blk_drewN ?_ _ | refine blk_drew ?_ | refine blk_alloc ?_ _)); refine blk_far ?_ NB112_131.out _; (with_reducible repeat (first | refine blk_drewN ?_ _ | refine blk_drew ?_ | refine blk_alloc ?_ _)); exact BK112.out⟩, ⟨by (with_reducible repeat (first | refine blk_drewN ?_ _ | refine blk_drew ?_ | refine blk_alloc ?_ _)); refine blk_far ?_ NB113_131.out _; (with_reducible repeat (first | refine blk_drewN ?_ _ | refine blk_drew ?_ | refine blk_alloc ?_ _)); refine blk_far ?_ NB113_131.out _; (with_reducible repeat (first | refine blk_drewN ?_ _ | refine blk_drew ?_ | refine blk_alloc ?_ _)); refine blk_far ?_ NB113_131.out _; (with_reducible repeat (first | refine blk_drewN ?_ _ | refine blk_drew ?_ | refine blk_alloc ?_ _)); exact BK113.out⟩, ⟨by (with_reducible repeat (first | refine blk_drewN ?_ _ | refine blk_drew ?_ | refine blk_alloc ?_ _)); refine blk_far ?_ NB126_131.out _; (with_reducible repeat (first | refine blk_drewN ?_ _ | refine blk_drew ?_ | refine blk_alloc ?_ _)); refine blk_far ?_ NB126_131.out _; (with_reducible repeat (first | refine blk_drewN ?_ _ | refine blk_drew ?_ | refine blk_alloc ?_ _)); refine blk_far ?_ NB126_131.out _; (with_reducible repeat (first | refine blk_drewN ?_ _ | refine blk_drew ?_ | refine blk_alloc ?_ _)); exact BK126.out⟩, ⟨by (with_reducible repeat (first | refine blk_drewN ?_ _ | refine blk_drew ?_ | refine blk_alloc ?_ _)); refine blk_put (cs := #[.int .i64 t127, .int .i64 t128, .int .i64 0]) ?_ 2 _ rfl; (with_reducible repeat (first | refine blk_drewN ?_ _ | refine blk_drew ?_ | refine blk_alloc ?_ _)); refine blk_put (cs := #[.int .i64 t127, .int .i64 0, .int .i64 0]) ?_ 1 _ rfl; (with_reducible repeat (first | refine blk_drewN ?_ _ | refine blk_drew ?_ | refine blk_alloc ?_ _)); refine blk_put (cs := #[.int .i64 0, .int .i64 0, .int .i64 0]) ?_ 0 _ rfl; (with_reducible repeat (first | refine blk_drewN ?_ _ | refine blk_drew ?_ | refine blk_alloc ?_ _)); exact BK131.out⟩, ⟨by repeat (first | (with_reducible first | exact HB.out | apply below_alloc | apply pw_below_drewN | apply below_drew1 | refine below_set ?_ GE112.out | refine below_set ?_ GE113.out | refine below_set ?_ GE126.out | refine below_set ?_ GE131.out) | exact HB.out)⟩⟩
                · rw [if_neg c69] at H
                  have c69b0 : (!(t122 == t127) || (!(t123 == t128) || (!(t124 == t129)))) = false := by simpa using c69
                  clear c69
                  (first | rw [c69b0] | (simp only [i64_w, i32_w]; rw [c69b0]) | skip)
                  have H' := Aside0.mk H
                  clear H
                  have hnb77 := NB126_112.out
                  have hnc77 := NB112_126.out
                  have hnb78 := NB126_113.out
                  have hnc78 := NB113_126.out
                  have hnb79 := NB126_131.out
                  have hnc79 := NB131_126.out
                  have hcz80_0 : w64.cell? ⟨gb126, 0, none⟩ = some (.int .i64 t122) := (blk_cell BK126.out 0).trans rfl
                  have hcz80_1 : w64.cell? ⟨gb126, 1, none⟩ = some (.int .i64 t123) := (blk_cell BK126.out 1).trans rfl
                  have hcz80_2 : w64.cell? ⟨gb126, 2, none⟩ = some (.int .i64 t124) := (blk_cell BK126.out 2).trans rfl
                  have hfz80_0 := blk_frozen BK126.out 0
                  have hfz80_1 := blk_frozen BK126.out 1
                  have hfz80_2 := blk_frozen BK126.out 2
                  have hnb81 := NB131_112.out
                  have hnc81 := NB112_131.out
                  have hnb82 := NB131_113.out
                  have hnc82 := NB113_131.out
                  have hcz83_0 : w64.cell? ⟨gb131, 0, none⟩ = some (.int .i64 0) := (blk_cell BK131.out 0).trans rfl
                  have hcz83_1 : w64.cell? ⟨gb131, 1, none⟩ = some (.int .i64 0) := (blk_cell BK131.out 1).trans rfl
                  have hcz83_2 : w64.cell? ⟨gb131, 2, none⟩ = some (.int .i64 0) := (blk_cell BK131.out 2).trans rfl
                  have hfz83_0 := blk_frozen BK131.out 0
                  have hfz83_1 := blk_frozen BK131.out 1
                  have hfz83_2 := blk_frozen BK131.out 2
                  go_wp2
                  go_meet
                  case rel => exact ⟨_, ((t125 != t130)), (by first | rfl | (simp; done) | (simp [*]; done)), H', ⟨by have := HJ3.out; have := HJ26.out; first | omega | exact Nat.le_refl _⟩, ⟨by (with_reducible repeat (first | refine blk_drewN ?_ _ | refine blk_drew ?_ | refine blk_alloc ?_ _)); refine blk_far ?_ NB112_131.out _; (with_reducible repeat (first | refine blk_drewN ?_ _ | refine blk_drew ?_ | refine blk_alloc ?_ _)); refine blk_far ?_ NB112_131.out _; (with_reducible repeat (first | refine blk_drewN ?_ _ | refine blk_drew ?_ | refine blk_alloc ?_ _)); refine blk_far ?_ NB112_131.out _; (with_reducible repeat (first | refine blk_drewN ?_ _ | refine blk_drew ?_ | refine blk_alloc ?_ _)); exact BK112.out⟩, ⟨by (with_reducible repeat (first | refine blk_drewN ?_ _ | refine blk_drew ?_ | refine blk_alloc ?_ _)); refine blk_far ?_ NB113_131.out _; (with_reducible repeat (first | refine blk_drewN ?_ _ | refine blk_drew ?_ | refine blk_alloc ?_ _)); refine blk_far ?_ NB113_131.out _; (with_reducible repeat (first | refine blk_drewN ?_ _ | refine blk_drew ?_ | refine blk_alloc ?_ _)); refine blk_far ?_ NB113_131.out _; (with_reducible repeat (first | refine blk_drewN ?_ _ | refine blk_drew ?_ | refine blk_alloc ?_ _)); exact BK113.out⟩, ⟨by (with_reducible repeat (first | refine blk_drewN ?_ _ | refine blk_drew ?_ | refine blk_alloc ?_ _)); refine blk_far ?_ NB126_131.out _; (with_reducible repeat (first | refine blk_drewN ?_ _ | refine blk_drew ?_ | refine blk_alloc ?_ _)); refine blk_far ?_ NB126_131.out _; (with_reducible repeat (first | refine blk_drewN ?_ _ | refine blk_drew ?_ | refine blk_alloc ?_ _)); refine blk_far ?_ NB126_131.out _; (with_reducible repeat (first | refine blk_drewN ?_ _ | refine blk_drew ?_ | refine blk_alloc ?_ _)); exact BK126.out⟩, ⟨by (with_reducible repeat (first | refine blk_drewN ?_ _ | refine blk_drew ?_ | refine blk_alloc ?_ _)); refine blk_put (cs := #[.int .i64 t127, .int .i64 t128, .int .i64 0]) ?_ 2 _ rfl; (with_reducible repeat (first | refine blk_drewN ?_ _ | refine blk_drew ?_ | refine blk_alloc ?_ _)); refine blk_put (cs := #[.int .i64 t127, .int .i64 0, .int .i64 0]) ?_ 1 _ rfl; (with_reducible repeat (first | refine blk_drewN ?_ _ | refine blk_drew ?_ | refine blk_alloc ?_ _)); refine blk_put (cs := #[.int .i64 0, .int .i64 0, .int .i64 0]) ?_ 0 _ rfl; (with_reducible repeat (first | refine blk_drewN ?_ _ | refine blk_drew ?_ | refine blk_alloc ?_ _)); exact BK131.out⟩, ⟨by repeat (first | (with_reducible first | exact HB.out | apply below_alloc | apply pw_below_drewN | apply below_drew1 | refine below_set ?_ GE112.out | refine below_set ?_ GE113.out | refine below_set ?_ GE126.out | refine below_set ?_ GE131.out) | exact HB.out)⟩⟩
              case rest =>
                clear HC52
                try clear c1
                try clear c2
                try clear p2
                try clear c3
                try clear c4
                try clear c5
                try clear c6
                try clear p6
                try clear c7
                try clear c7b0
                try clear c8
                try clear c8b0
                try clear c10
                try clear c10b0
                try clear c10b1
                try clear c12
                try clear c17
                try clear c20
                try clear c22
                try clear c28
                try clear c33
                try clear c33b0
                try clear c33b1
                try clear c34
                try clear c34b0
                try clear c34b1
                try clear c35
                try clear c35b0
                try clear c36
                try clear c38
                try clear c38b0
                try clear c39
                try clear c42
                try clear c42b0
                try clear c42b1
                try clear c43
                try clear c46
                try clear c49
                try clear c53
                try clear c58
                try clear c59
                try clear p64
                try clear c65
                try clear c66
                try clear c67
                try clear c69
                try clear c69b0
                try clear c70
                try clear c71
                try clear c72
                try clear c74
                try clear c75
                try clear c77
                try clear c78
                try clear c79
                try clear c81
                try clear c82
                try clear hcz13_0
                try clear hcz13_1
                try clear hcz13_2
                try clear hcz15_0
                try clear hcz15_1
                try clear hcz15_2
                try clear hcz18_0
                try clear hcz18_1
                try clear hcz18_2
                try clear hcz23_0
                try clear hcz23_1
                try clear hcz23_2
                try clear hcz29_0
                try clear hcz29_1
                try clear hcz29_2
                try clear hcz31_0
                try clear hcz31_1
                try clear hcz31_2
                try clear hcz37_0
                try clear hcz37_1
                try clear hcz37_2
                try clear hcz40_0
                try clear hcz40_1
                try clear hcz40_2
                try clear hcz41_0
                try clear hcz41_1
                try clear hcz41_2
                try clear hcz44_0
                try clear hcz44_1
                try clear hcz44_2
                try clear hcz45_0
                try clear hcz45_1
                try clear hcz45_2
                try clear hcz47_0
                try clear hcz47_1
                try clear hcz47_2
                try clear hcz48_0
                try clear hcz48_1
                try clear hcz48_2
                try clear hcz54_0
                try clear hcz54_1
                try clear hcz54_2
                try clear hcz55_0
                try clear hcz55_1
                try clear hcz55_2
                try clear hcz60_0
                try clear hcz60_1
                try clear hcz60_2
                try clear hcz61_0
                try clear hcz61_1
                try clear hcz61_2
                try clear hcz62_0
                try clear hcz62_1
                try clear hcz62_2
                try clear hcz68_0
                try clear hcz68_1
                try clear hcz68_2
                try clear hcz73_0
                try clear hcz73_1
                try clear hcz73_2
                try clear hcz76_0
                try clear hcz76_1
                try clear hcz76_2
                try clear hcz80_0
                try clear hcz80_1
                try clear hcz80_2
                try clear hcz83_0
                try clear hcz83_1
                try clear hcz83_2
                try clear hfz13_0
                try clear hfz13_1
                try clear hfz13_2
                try clear hfz15_0
                try clear hfz15_1
                try clear hfz15_2
                try clear hfz18_0
                try clear hfz18_1
                try clear hfz18_2
                try clear hfz23_0
                try clear hfz23_1
                try clear hfz23_2
                try clear hfz29_0
                try clear hfz29_1
                try clear hfz29_2
                try clear hfz31_0
                try clear hfz31_1
                try clear hfz31_2
                try clear hfz37_0
                try clear hfz37_1
                try clear hfz37_2
                try clear hfz40_0
                try clear hfz40_1
                try clear hfz40_2
                try clear hfz41_0
                try clear hfz41_1
                try clear hfz41_2
                try clear hfz44_0
                try clear hfz44_1
                try clear hfz44_2
                try clear hfz45_0
                try clear hfz45_1
                try clear hfz45_2
                try clear hfz47_0
                try clear hfz47_1
                try clear hfz47_2
                try clear hfz48_0
                try clear hfz48_1
                try clear hfz48_2
                try clear hfz54_0
                try clear hfz54_1
                try clear hfz54_2
                try clear hfz55_0
                try clear hfz55_1
                try clear hfz55_2
                try clear hfz60_0
                try clear hfz60_1
                try clear hfz60_2
                try clear hfz61_0
                try clear hfz61_1
                try clear hfz61_2
                try clear hfz62_0
                try clear hfz62_1
                try clear hfz62_2
                try clear hfz68_0
                try clear hfz68_1
                try clear hfz68_2
                try clear hfz73_0
                try clear hfz73_1
                try clear hfz73_2
                try clear hfz76_0
                try clear hfz76_1
                try clear hfz76_2
                try clear hfz80_0
                try clear hfz80_1
                try clear hfz80_2
                try clear hfz83_0
                try clear hfz83_1
                try clear hfz83_2
                try clear p2
                try clear p6
                obtain ⟨kq, x107_51, rfl, HA, HJ51, BK112, BK113, BK126, BK131, HB⟩ := hcut
                cases kq with
                | zero => exact absurd HA.out (by simp [examboardlaw47_TimingNever.j2])
                | succ kj51 =>
                  have H := HA.out
                  clear HA
                  simp only [examboardlaw47_TimingNever.j2] at H
                  by_cases c84 : x107_51 = true
                  · subst c84
                    have H1 : (some false) = some r := by rw [if_pos rfl] at H; exact H
                    clear H
                    have H := H1
                    clear H1
                    obtain rfl := Option.some.inj H
                    go_wp2
                    go_ret
                    exact ⟨by first | rfl | (simp [errW_none, errW_some] <;> rfl) | (simp [*, errW_none, errW_some] <;> rfl), by repeat (first | (with_reducible first | exact HB.out | apply below_alloc | apply pw_below_drewN | apply below_drew1 | refine below_set ?_ GE112.out | refine below_set ?_ GE113.out | refine below_set ?_ GE126.out | refine below_set ?_ GE131.out) | exact HB.out)⟩
                  · replace c84 := Bool.eq_false_iff.mpr c84
                    subst c84
                    have H1 : (if t125 = 0 then ((timing_Limit.f a0 t122 t123 t124).bind fun bt132 => (if bt132.2 = 0 then ((timing_Valid.f t122 t123 t124).bind fun t134 => (if t134 = 0 then (if bt132.1 ≥ t118 then (if bt132.1 ≥ t120 then (if t124 = (wrap64 (a1_2 + a2_2)) then (some ((wrap64 ((wrap64 (t122 * a1_1)) * a2_1)) == (wrap64 ((wrap64 (t123 * a1_0)) * a2_0)))) else (some false)) else (some false)) else (some false)) else (some false))) else (some false))) else (if t125 = 3 then (some (t122 == 0 && (t123 == 0 && (t124 == 0)))) else (some false))) = some r := by rw [if_neg (show ¬ (false = true) by decide)] at H; exact H
                    clear H
                    have H := H1
                    clear H1
                    by_cases c85 : t125 = 0
                    · rw [if_pos c85] at H
                      have c85b0 : (t125 == 0) = true := beq_iff_eq.mpr c85
                      have c85b1 : (t125 != 0) = false := bne_eq_false_iff_eq.mpr c85
                      clear c85
                      replace H := Option.bind_eq_some_iff.mp H
                      obtain ⟨⟨t132, t133⟩, A860, H⟩ := H
                      replace H : (if t133 = 0 then ((timing_Valid.f t122 t123 t124).bind fun t134 => (if t134 = 0 then (if t132 ≥ t118 then (if t132 ≥ t120 then (if t124 = (wrap64 (a1_2 + a2_2)) then (some ((wrap64 ((wrap64 (t122 * a1_1)) * a2_1)) == (wrap64 ((wrap64 (t123 * a1_0)) * a2_0)))) else (some false)) else (some false)) else (some false)) else (some false))) else (some false)) = some r := H
                      have A86 := Aside0.mk A860
                      clear A860
                      by_cases c87 : t133 = 0
                      · rw [if_pos c87] at H
                        have c87b0 : (t133 == 0) = true := beq_iff_eq.mpr c87
                        have c87b1 : (t133 != 0) = false := bne_eq_false_iff_eq.mpr c87
                        clear c87
                        replace H := Option.bind_eq_some_iff.mp H
                        obtain ⟨t134, A880, H⟩ := H
                        replace H : (if t134 = 0 then (if t132 ≥ t118 then (if t132 ≥ t120 then (if t124 = (wrap64 (a1_2 + a2_2)) then (some ((wrap64 ((wrap64 (t122 * a1_1)) * a2_1)) == (wrap64 ((wrap64 (t123 * a1_0)) * a2_0)))) else (some false)) else (some false)) else (some false)) else (some false)) = some r := H
                        have A88 := Aside0.mk A880
                        clear A880
                        by_cases c89 : t134 = 0
                        · rw [if_pos c89] at H
                          have c89b0 : (t134 == 0) = true := beq_iff_eq.mpr c89
                          have c89b1 : (t134 != 0) = false := bne_eq_false_iff_eq.mpr c89
                          clear c89
                          by_cases c90 : t132 ≥ t118
                          · rw [if_pos c90] at H
                            have c90b0 : decide (t118 ≤ t132) = true := decide_eq_true c90
                            clear c90
                            by_cases c91 : t132 ≥ t120
                            · rw [if_pos c91] at H
                              have c91b0 : decide (t120 ≤ t132) = true := decide_eq_true c91
                              clear c91
                              by_cases c92 : t124 = (wrap64 (a1_2 + a2_2))
                              · rw [if_pos c92] at H
                                have c92b0 : (t124 == (wrap64 (a1_2 + a2_2))) = true := beq_iff_eq.mpr c92
                                have c92b1 : (t124 != (wrap64 (a1_2 + a2_2))) = false := bne_eq_false_iff_eq.mpr c92
                                clear c92
                                obtain rfl := Option.some.inj H
                                have hnb93 := NB126_112.out
                                have hnc93 := NB112_126.out
                                have hnb94 := NB126_113.out
                                have hnc94 := NB113_126.out
                                have hnb95 := NB126_131.out
                                have hnc95 := NB131_126.out
                                have hcz96_0 : wc.cell? ⟨gb126, 0, none⟩ = some (.int .i64 t122) := (blk_cell BK126.out 0).trans rfl
                                have hcz96_1 : wc.cell? ⟨gb126, 1, none⟩ = some (.int .i64 t123) := (blk_cell BK126.out 1).trans rfl
                                have hcz96_2 : wc.cell? ⟨gb126, 2, none⟩ = some (.int .i64 t124) := (blk_cell BK126.out 2).trans rfl
                                have hfz96_0 := blk_frozen BK126.out 0
                                have hfz96_1 := blk_frozen BK126.out 1
                                have hfz96_2 := blk_frozen BK126.out 2
                                go_wp2_with (first | ((with_reducible refine gate_callee (f := 8) rfl ?_); refine goesL_ (some 120) rfl rfl Try.func8 (by kernel_rfl) rfl #[.int .i64 a0, .agg #[.int .i64 t122, .int .i64 t123, .int .i64 t124]] rfl (by (try simp only [List.map_toArray, List.map_cons, List.map_nil]); first | done | rfl | (simp only [List.length_drop, List.length_take]; rfl)) ?_; (with_reducible refine (timing_Limit.calls a0 t122 t123 t124 t132 t133 _ A86.out).mono ?_); rintro e w97 ⟨rfl, hb⟩; refine ⟨_, rfl, ?_⟩; have n0_ := Aside0.mk (blk_below (g := gb112) (o := .cells #[.int .i64 a1_0, .int .i64 a1_1, .int .i64 a1_2] 23 (0, 0)) (by (with_reducible repeat (first | refine blk_drewN ?_ _ | refine blk_drew ?_ | refine blk_alloc ?_ _)); exact BK112.out) hb); have n1_ := Aside0.mk (blk_below (g := gb113) (o := .cells #[.int .i64 a2_0, .int .i64 a2_1, .int .i64 a2_2] 23 (0, 0)) (by (with_reducible repeat (first | refine blk_drewN ?_ _ | refine blk_drew ?_ | refine blk_alloc ?_ _)); exact BK113.out) hb); have n2_ := Aside0.mk (blk_below (g := gb126) (o := .cells #[.int .i64 t122, .int .i64 t123, .int .i64 t124] 23 (0, 0)) (by (with_reducible repeat (first | refine blk_drewN ?_ _ | refine blk_drew ?_ | refine blk_alloc ?_ _)); exact BK126.out) hb); have n3_ := Aside0.mk (blk_below (g := gb131) (o := .cells #[.int .i64 t127, .int .i64 t128, .int .i64 t129] 23 (0, 0)) (by (with_reducible repeat (first | refine blk_drewN ?_ _ | refine blk_drew ?_ | refine blk_alloc ?_ _)); exact BK131.out) hb); have n4_ := Aside0.mk (below_step (by repeat (first | (with_reducible first | exact HB.out | apply below_alloc | apply pw_below_drewN | apply below_drew1 | refine below_set ?_ GE112.out | refine below_set ?_ GE113.out | refine below_set ?_ GE126.out | refine below_set ?_ GE131.out) | exact HB.out)) hb); clear BK112; clear BK113; clear BK126; clear BK131; clear HB; have BK112 := n0_; have BK113 := n1_; have BK126 := n2_; have BK131 := n3_; have HB := n4_; clear n0_ n1_ n2_ n3_ n4_; (try clear hb); (try clear hb2); (try clear hk); (try clear hi); have hcz98_0 : w97.cell? ⟨gb126, 0, none⟩ = some (.int .i64 t122) := (blk_cell BK126.out 0).trans rfl; have hcz98_1 : w97.cell? ⟨gb126, 1, none⟩ = some (.int .i64 t123) := (blk_cell BK126.out 1).trans rfl; have hcz98_2 : w97.cell? ⟨gb126, 2, none⟩ = some (.int .i64 t124) := (blk_cell BK126.out 2).trans rfl; have hfz98_0 := blk_frozen BK126.out 0; have hfz98_1 := blk_frozen BK126.out 1; have hfz98_2 := blk_frozen BK126.out 2) | (go_at_call 10; (with_reducible refine (timing_Valid.calls t122 t123 t124 t134 _ A88.out).mono ?_); rintro e w99 ⟨rfl, hb⟩; have n0_ := Aside0.mk (blk_below (g := gb112) (o := .cells #[.int .i64 a1_0, .int .i64 a1_1, .int .i64 a1_2] 23 (0, 0)) (by (with_reducible repeat (first | refine blk_drewN ?_ _ | refine blk_drew ?_ | refine blk_alloc ?_ _)); exact BK112.out) hb); have n1_ := Aside0.mk (blk_below (g := gb113) (o := .cells #[.int .i64 a2_0, .int .i64 a2_1, .int .i64 a2_2] 23 (0, 0)) (by (with_reducible repeat (first | refine blk_drewN ?_ _ | refine blk_drew ?_ | refine blk_alloc ?_ _)); exact BK113.out) hb); have n2_ := Aside0.mk (blk_below (g := gb126) (o := .cells #[.int .i64 t122, .int .i64 t123, .int .i64 t124] 23 (0, 0)) (by (with_reducible repeat (first | refine blk_drewN ?_ _ | refine blk_drew ?_ | refine blk_alloc ?_ _)); exact BK126.out) hb); have n3_ := Aside0.mk (blk_below (g := gb131) (o := .cells #[.int .i64 t127, .int .i64 t128, .int .i64 t129] 23 (0, 0)) (by (with_reducible repeat (first | refine blk_drewN ?_ _ | refine blk_drew ?_ | refine blk_alloc ?_ _)); exact BK131.out) hb); have n4_ := Aside0.mk (below_step (by repeat (first | (with_reducible first | exact HB.out | apply below_alloc | apply pw_below_drewN | apply below_drew1 | refine below_set ?_ GE112.out | refine below_set ?_ GE113.out | refine below_set ?_ GE126.out | refine below_set ?_ GE131.out) | exact HB.out)) hb); clear BK112; clear BK113; clear BK126; clear BK131; clear HB; have BK112 := n0_; have BK113 := n1_; have BK126 := n2_; have BK131 := n3_; have HB := n4_; clear n0_ n1_ n2_ n3_ n4_; (try clear hb); (try clear hb2); (try clear hk); (try clear hi); have hcz100_0 : w99.cell? ⟨gb126, 0, none⟩ = some (.int .i64 t122) := (blk_cell BK126.out 0).trans rfl; have hcz100_1 : w99.cell? ⟨gb126, 1, none⟩ = some (.int .i64 t123) := (blk_cell BK126.out 1).trans rfl; have hcz100_2 : w99.cell? ⟨gb126, 2, none⟩ = some (.int .i64 t124) := (blk_cell BK126.out 2).trans rfl; have hfz100_0 := blk_frozen BK126.out 0; have hfz100_1 := blk_frozen BK126.out 1; have hfz100_2 := blk_frozen BK126.out 2; have hnb101 := NB112_113.out; have hnc101 := NB113_112.out; have hnb102 := NB112_131.out; have hnc102 := NB131_112.out; have hcz103_0 : w99.cell? ⟨gb112, 0, none⟩ = some (.int .i64 a1_0) := (blk_cell BK112.out 0).trans rfl; have hcz103_1 : w99.cell? ⟨gb112, 1, none⟩ = some (.int .i64 a1_1) := (blk_cell BK112.out 1).trans rfl; have hcz103_2 : w99.cell? ⟨gb112, 2, none⟩ = some (.int .i64 a1_2) := (blk_cell BK112.out 2).trans rfl; have hfz103_0 := blk_frozen BK112.out 0; have hfz103_1 := blk_frozen BK112.out 1; have hfz103_2 := blk_frozen BK112.out 2; have hnb104 := NB113_131.out; have hnc104 := NB131_113.out; have hcz105_0 : w99.cell? ⟨gb113, 0, none⟩ = some (.int .i64 a2_0) := (blk_cell BK113.out 0).trans rfl; have hcz105_1 : w99.cell? ⟨gb113, 1, none⟩ = some (.int .i64 a2_1) := (blk_cell BK113.out 1).trans rfl; have hcz105_2 : w99.cell? ⟨gb113, 2, none⟩ = some (.int .i64 a2_2) := (blk_cell BK113.out 2).trans rfl; have hfz105_0 := blk_frozen BK113.out 0; have hfz105_1 := blk_frozen BK113.out 1; have hfz105_2 := blk_frozen BK113.out 2))
                                go_ret
                                exact ⟨by first | rfl | (simp [errW_none, errW_some] <;> rfl) | (simp [*, errW_none, errW_some] <;> rfl), by repeat (first | (with_reducible first | exact HB.out | apply below_alloc | apply pw_below_drewN | apply below_drew1 | refine below_set ?_ GE112.out | refine below_set ?_ GE113.out | refine below_set ?_ GE126.out | refine below_set ?_ GE131.out) | exact HB.out)⟩
                              · rw [if_neg c92] at H
                                have c92b0 : (t124 == (wrap64 (a1_2 + a2_2))) = false := beq_eq_false_iff_ne.mpr c92
                                have c92b1 : (t124 != (wrap64 (a1_2 + a2_2))) = true := bne_iff_ne.mpr c92
                                obtain rfl := Option.some.inj H
                                have hnb106 := NB126_112.out
                                have hnc106 := NB112_126.out
                                have hnb107 := NB126_113.out
                                have hnc107 := NB113_126.out
                                have hnb108 := NB126_131.out
                                have hnc108 := NB131_126.out
                                have hcz109_0 : wc.cell? ⟨gb126, 0, none⟩ = some (.int .i64 t122) := (blk_cell BK126.out 0).trans rfl
                                have hcz109_1 : wc.cell? ⟨gb126, 1, none⟩ = some (.int .i64 t123) := (blk_cell BK126.out 1).trans rfl
                                have hcz109_2 : wc.cell? ⟨gb126, 2, none⟩ = some (.int .i64 t124) := (blk_cell BK126.out 2).trans rfl
                                have hfz109_0 := blk_frozen BK126.out 0
                                have hfz109_1 := blk_frozen BK126.out 1
                                have hfz109_2 := blk_frozen BK126.out 2
                                go_wp2_with (first | ((with_reducible refine gate_callee (f := 8) rfl ?_); refine goesL_ (some 120) rfl rfl Try.func8 (by kernel_rfl) rfl #[.int .i64 a0, .agg #[.int .i64 t122, .int .i64 t123, .int .i64 t124]] rfl (by (try simp only [List.map_toArray, List.map_cons, List.map_nil]); first | done | rfl | (simp only [List.length_drop, List.length_take]; rfl)) ?_; (with_reducible refine (timing_Limit.calls a0 t122 t123 t124 t132 t133 _ A86.out).mono ?_); rintro e w110 ⟨rfl, hb⟩; refine ⟨_, rfl, ?_⟩; have n0_ := Aside0.mk (blk_below (g := gb112) (o := .cells #[.int .i64 a1_0, .int .i64 a1_1, .int .i64 a1_2] 23 (0, 0)) (by (with_reducible repeat (first | refine blk_drewN ?_ _ | refine blk_drew ?_ | refine blk_alloc ?_ _)); exact BK112.out) hb); have n1_ := Aside0.mk (blk_below (g := gb113) (o := .cells #[.int .i64 a2_0, .int .i64 a2_1, .int .i64 a2_2] 23 (0, 0)) (by (with_reducible repeat (first | refine blk_drewN ?_ _ | refine blk_drew ?_ | refine blk_alloc ?_ _)); exact BK113.out) hb); have n2_ := Aside0.mk (blk_below (g := gb126) (o := .cells #[.int .i64 t122, .int .i64 t123, .int .i64 t124] 23 (0, 0)) (by (with_reducible repeat (first | refine blk_drewN ?_ _ | refine blk_drew ?_ | refine blk_alloc ?_ _)); exact BK126.out) hb); have n3_ := Aside0.mk (blk_below (g := gb131) (o := .cells #[.int .i64 t127, .int .i64 t128, .int .i64 t129] 23 (0, 0)) (by (with_reducible repeat (first | refine blk_drewN ?_ _ | refine blk_drew ?_ | refine blk_alloc ?_ _)); exact BK131.out) hb); have n4_ := Aside0.mk (below_step (by repeat (first | (with_reducible first | exact HB.out | apply below_alloc | apply pw_below_drewN | apply below_drew1 | refine below_set ?_ GE112.out | refine below_set ?_ GE113.out | refine below_set ?_ GE126.out | refine below_set ?_ GE131.out) | exact HB.out)) hb); clear BK112; clear BK113; clear BK126; clear BK131; clear HB; have BK112 := n0_; have BK113 := n1_; have BK126 := n2_; have BK131 := n3_; have HB := n4_; clear n0_ n1_ n2_ n3_ n4_; (try clear hb); (try clear hb2); (try clear hk); (try clear hi); have hcz111_0 : w110.cell? ⟨gb126, 0, none⟩ = some (.int .i64 t122) := (blk_cell BK126.out 0).trans rfl; have hcz111_1 : w110.cell? ⟨gb126, 1, none⟩ = some (.int .i64 t123) := (blk_cell BK126.out 1).trans rfl; have hcz111_2 : w110.cell? ⟨gb126, 2, none⟩ = some (.int .i64 t124) := (blk_cell BK126.out 2).trans rfl; have hfz111_0 := blk_frozen BK126.out 0; have hfz111_1 := blk_frozen BK126.out 1; have hfz111_2 := blk_frozen BK126.out 2) | (go_at_call 10; (with_reducible refine (timing_Valid.calls t122 t123 t124 t134 _ A88.out).mono ?_); rintro e w112 ⟨rfl, hb⟩; have n0_ := Aside0.mk (blk_below (g := gb112) (o := .cells #[.int .i64 a1_0, .int .i64 a1_1, .int .i64 a1_2] 23 (0, 0)) (by (with_reducible repeat (first | refine blk_drewN ?_ _ | refine blk_drew ?_ | refine blk_alloc ?_ _)); exact BK112.out) hb); have n1_ := Aside0.mk (blk_below (g := gb113) (o := .cells #[.int .i64 a2_0, .int .i64 a2_1, .int .i64 a2_2] 23 (0, 0)) (by (with_reducible repeat (first | refine blk_drewN ?_ _ | refine blk_drew ?_ | refine blk_alloc ?_ _)); exact BK113.out) hb); have n2_ := Aside0.mk (blk_below (g := gb126) (o := .cells #[.int .i64 t122, .int .i64 t123, .int .i64 t124] 23 (0, 0)) (by (with_reducible repeat (first | refine blk_drewN ?_ _ | refine blk_drew ?_ | refine blk_alloc ?_ _)); exact BK126.out) hb); have n3_ := Aside0.mk (blk_below (g := gb131) (o := .cells #[.int .i64 t127, .int .i64 t128, .int .i64 t129] 23 (0, 0)) (by (with_reducible repeat (first | refine blk_drewN ?_ _ | refine blk_drew ?_ | refine blk_alloc ?_ _)); exact BK131.out) hb); have n4_ := Aside0.mk (below_step (by repeat (first | (with_reducible first | exact HB.out | apply below_alloc | apply pw_below_drewN | apply below_drew1 | refine below_set ?_ GE112.out | refine below_set ?_ GE113.out | refine below_set ?_ GE126.out | refine below_set ?_ GE131.out) | exact HB.out)) hb); clear BK112; clear BK113; clear BK126; clear BK131; clear HB; have BK112 := n0_; have BK113 := n1_; have BK126 := n2_; have BK131 := n3_; have HB := n4_; clear n0_ n1_ n2_ n3_ n4_; (try clear hb); (try clear hb2); (try clear hk); (try clear hi); have hcz113_0 : w112.cell? ⟨gb126, 0, none⟩ = some (.int .i64 t122) := (blk_cell BK126.out 0).trans rfl; have hcz113_1 : w112.cell? ⟨gb126, 1, none⟩ = some (.int .i64 t123) := (blk_cell BK126.out 1).trans rfl; have hcz113_2 : w112.cell? ⟨gb126, 2, none⟩ = some (.int .i64 t124) := (blk_cell BK126.out 2).trans rfl; have hfz113_0 := blk_frozen BK126.out 0; have hfz113_1 := blk_frozen BK126.out 1; have hfz113_2 := blk_frozen BK126.out 2; have hnb114 := NB112_113.out; have hnc114 := NB113_112.out; have hnb115 := NB112_131.out; have hnc115 := NB131_112.out; have hcz116_0 : w112.cell? ⟨gb112, 0, none⟩ = some (.int .i64 a1_0) := (blk_cell BK112.out 0).trans rfl; have hcz116_1 : w112.cell? ⟨gb112, 1, none⟩ = some (.int .i64 a1_1) := (blk_cell BK112.out 1).trans rfl; have hcz116_2 : w112.cell? ⟨gb112, 2, none⟩ = some (.int .i64 a1_2) := (blk_cell BK112.out 2).trans rfl; have hfz116_0 := blk_frozen BK112.out 0; have hfz116_1 := blk_frozen BK112.out 1; have hfz116_2 := blk_frozen BK112.out 2; have hnb117 := NB113_131.out; have hnc117 := NB131_113.out; have hcz118_0 : w112.cell? ⟨gb113, 0, none⟩ = some (.int .i64 a2_0) := (blk_cell BK113.out 0).trans rfl; have hcz118_1 : w112.cell? ⟨gb113, 1, none⟩ = some (.int .i64 a2_1) := (blk_cell BK113.out 1).trans rfl; have hcz118_2 : w112.cell? ⟨gb113, 2, none⟩ = some (.int .i64 a2_2) := (blk_cell BK113.out 2).trans rfl; have hfz118_0 := blk_frozen BK113.out 0; have hfz118_1 := blk_frozen BK113.out 1; have hfz118_2 := blk_frozen BK113.out 2))
                                go_ret
                                exact ⟨by first | rfl | (simp [errW_none, errW_some] <;> rfl) | (simp [*, errW_none, errW_some] <;> rfl), by repeat (first | (with_reducible first | exact HB.out | apply below_alloc | apply pw_below_drewN | apply below_drew1 | refine below_set ?_ GE112.out | refine below_set ?_ GE113.out | refine below_set ?_ GE126.out | refine below_set ?_ GE131.out) | exact HB.out)⟩
                            · rw [if_neg c91] at H
                              have c91b0 : decide (t120 ≤ t132) = false := decide_eq_false c91
                              clear c91
                              obtain rfl := Option.some.inj H
                              have hnb119 := NB126_112.out
                              have hnc119 := NB112_126.out
                              have hnb120 := NB126_113.out
                              have hnc120 := NB113_126.out
                              have hnb121 := NB126_131.out
                              have hnc121 := NB131_126.out
                              have hcz122_0 : wc.cell? ⟨gb126, 0, none⟩ = some (.int .i64 t122) := (blk_cell BK126.out 0).trans rfl
                              have hcz122_1 : wc.cell? ⟨gb126, 1, none⟩ = some (.int .i64 t123) := (blk_cell BK126.out 1).trans rfl
                              have hcz122_2 : wc.cell? ⟨gb126, 2, none⟩ = some (.int .i64 t124) := (blk_cell BK126.out 2).trans rfl
                              have hfz122_0 := blk_frozen BK126.out 0
                              have hfz122_1 := blk_frozen BK126.out 1
                              have hfz122_2 := blk_frozen BK126.out 2
                              go_wp2_with (first | ((with_reducible refine gate_callee (f := 8) rfl ?_); refine goesL_ (some 120) rfl rfl Try.func8 (by kernel_rfl) rfl #[.int .i64 a0, .agg #[.int .i64 t122, .int .i64 t123, .int .i64 t124]] rfl (by (try simp only [List.map_toArray, List.map_cons, List.map_nil]); first | done | rfl | (simp only [List.length_drop, List.length_take]; rfl)) ?_; (with_reducible refine (timing_Limit.calls a0 t122 t123 t124 t132 t133 _ A86.out).mono ?_); rintro e w123 ⟨rfl, hb⟩; refine ⟨_, rfl, ?_⟩; have n0_ := Aside0.mk (blk_below (g := gb112) (o := .cells #[.int .i64 a1_0, .int .i64 a1_1, .int .i64 a1_2] 23 (0, 0)) (by (with_reducible repeat (first | refine blk_drewN ?_ _ | refine blk_drew ?_ | refine blk_alloc ?_ _)); exact BK112.out) hb); have n1_ := Aside0.mk (blk_below (g := gb113) (o := .cells #[.int .i64 a2_0, .int .i64 a2_1, .int .i64 a2_2] 23 (0, 0)) (by (with_reducible repeat (first | refine blk_drewN ?_ _ | refine blk_drew ?_ | refine blk_alloc ?_ _)); exact BK113.out) hb); have n2_ := Aside0.mk (blk_below (g := gb126) (o := .cells #[.int .i64 t122, .int .i64 t123, .int .i64 t124] 23 (0, 0)) (by (with_reducible repeat (first | refine blk_drewN ?_ _ | refine blk_drew ?_ | refine blk_alloc ?_ _)); exact BK126.out) hb); have n3_ := Aside0.mk (blk_below (g := gb131) (o := .cells #[.int .i64 t127, .int .i64 t128, .int .i64 t129] 23 (0, 0)) (by (with_reducible repeat (first | refine blk_drewN ?_ _ | refine blk_drew ?_ | refine blk_alloc ?_ _)); exact BK131.out) hb); have n4_ := Aside0.mk (below_step (by repeat (first | (with_reducible first | exact HB.out | apply below_alloc | apply pw_below_drewN | apply below_drew1 | refine below_set ?_ GE112.out | refine below_set ?_ GE113.out | refine below_set ?_ GE126.out | refine below_set ?_ GE131.out) | exact HB.out)) hb); clear BK112; clear BK113; clear BK126; clear BK131; clear HB; have BK112 := n0_; have BK113 := n1_; have BK126 := n2_; have BK131 := n3_; have HB := n4_; clear n0_ n1_ n2_ n3_ n4_; (try clear hb); (try clear hb2); (try clear hk); (try clear hi); have hcz124_0 : w123.cell? ⟨gb126, 0, none⟩ = some (.int .i64 t122) := (blk_cell BK126.out 0).trans rfl; have hcz124_1 : w123.cell? ⟨gb126, 1, none⟩ = some (.int .i64 t123) := (blk_cell BK126.out 1).trans rfl; have hcz124_2 : w123.cell? ⟨gb126, 2, none⟩ = some (.int .i64 t124) := (blk_cell BK126.out 2).trans rfl; have hfz124_0 := blk_frozen BK126.out 0; have hfz124_1 := blk_frozen BK126.out 1; have hfz124_2 := blk_frozen BK126.out 2) | (go_at_call 10; (with_reducible refine (timing_Valid.calls t122 t123 t124 t134 _ A88.out).mono ?_); rintro e w125 ⟨rfl, hb⟩; have n0_ := Aside0.mk (blk_below (g := gb112) (o := .cells #[.int .i64 a1_0, .int .i64 a1_1, .int .i64 a1_2] 23 (0, 0)) (by (with_reducible repeat (first | refine blk_drewN ?_ _ | refine blk_drew ?_ | refine blk_alloc ?_ _)); exact BK112.out) hb); have n1_ := Aside0.mk (blk_below (g := gb113) (o := .cells #[.int .i64 a2_0, .int .i64 a2_1, .int .i64 a2_2] 23 (0, 0)) (by (with_reducible repeat (first | refine blk_drewN ?_ _ | refine blk_drew ?_ | refine blk_alloc ?_ _)); exact BK113.out) hb); have n2_ := Aside0.mk (blk_below (g := gb126) (o := .cells #[.int .i64 t122, .int .i64 t123, .int .i64 t124] 23 (0, 0)) (by (with_reducible repeat (first | refine blk_drewN ?_ _ | refine blk_drew ?_ | refine blk_alloc ?_ _)); exact BK126.out) hb); have n3_ := Aside0.mk (blk_below (g := gb131) (o := .cells #[.int .i64 t127, .int .i64 t128, .int .i64 t129] 23 (0, 0)) (by (with_reducible repeat (first | refine blk_drewN ?_ _ | refine blk_drew ?_ | refine blk_alloc ?_ _)); exact BK131.out) hb); have n4_ := Aside0.mk (below_step (by repeat (first | (with_reducible first | exact HB.out | apply below_alloc | apply pw_below_drewN | apply below_drew1 | refine below_set ?_ GE112.out | refine below_set ?_ GE113.out | refine below_set ?_ GE126.out | refine below_set ?_ GE131.out) | exact HB.out)) hb); clear BK112; clear BK113; clear BK126; clear BK131; clear HB; have BK112 := n0_; have BK113 := n1_; have BK126 := n2_; have BK131 := n3_; have HB := n4_; clear n0_ n1_ n2_ n3_ n4_; (try clear hb); (try clear hb2); (try clear hk); (try clear hi)))
                              go_ret
                              exact ⟨by first | rfl | (simp [errW_none, errW_some] <;> rfl) | (simp [*, errW_none, errW_some] <;> rfl), by repeat (first | (with_reducible first | exact HB.out | apply below_alloc | apply pw_below_drewN | apply below_drew1 | refine below_set ?_ GE112.out | refine below_set ?_ GE113.out | refine below_set ?_ GE126.out | refine below_set ?_ GE131.out) | exact HB.out)⟩
                          · rw [if_neg c90] at H
                            have c90b0 : decide (t118 ≤ t132) = false := decide_eq_false c90
                            clear c90
                            obtain rfl := Option.some.inj H
                            have hnb126 := NB126_112.out
                            have hnc126 := NB112_126.out
                            have hnb127 := NB126_113.out
                            have hnc127 := NB113_126.out
                            have hnb128 := NB126_131.out
                            have hnc128 := NB131_126.out
                            have hcz129_0 : wc.cell? ⟨gb126, 0, none⟩ = some (.int .i64 t122) := (blk_cell BK126.out 0).trans rfl
                            have hcz129_1 : wc.cell? ⟨gb126, 1, none⟩ = some (.int .i64 t123) := (blk_cell BK126.out 1).trans rfl
                            have hcz129_2 : wc.cell? ⟨gb126, 2, none⟩ = some (.int .i64 t124) := (blk_cell BK126.out 2).trans rfl
                            have hfz129_0 := blk_frozen BK126.out 0
                            have hfz129_1 := blk_frozen BK126.out 1
                            have hfz129_2 := blk_frozen BK126.out 2
                            go_wp2_with (first | ((with_reducible refine gate_callee (f := 8) rfl ?_); refine goesL_ (some 120) rfl rfl Try.func8 (by kernel_rfl) rfl #[.int .i64 a0, .agg #[.int .i64 t122, .int .i64 t123, .int .i64 t124]] rfl (by (try simp only [List.map_toArray, List.map_cons, List.map_nil]); first | done | rfl | (simp only [List.length_drop, List.length_take]; rfl)) ?_; (with_reducible refine (timing_Limit.calls a0 t122 t123 t124 t132 t133 _ A86.out).mono ?_); rintro e w130 ⟨rfl, hb⟩; refine ⟨_, rfl, ?_⟩; have n0_ := Aside0.mk (blk_below (g := gb112) (o := .cells #[.int .i64 a1_0, .int .i64 a1_1, .int .i64 a1_2] 23 (0, 0)) (by (with_reducible repeat (first | refine blk_drewN ?_ _ | refine blk_drew ?_ | refine blk_alloc ?_ _)); exact BK112.out) hb); have n1_ := Aside0.mk (blk_below (g := gb113) (o := .cells #[.int .i64 a2_0, .int .i64 a2_1, .int .i64 a2_2] 23 (0, 0)) (by (with_reducible repeat (first | refine blk_drewN ?_ _ | refine blk_drew ?_ | refine blk_alloc ?_ _)); exact BK113.out) hb); have n2_ := Aside0.mk (blk_below (g := gb126) (o := .cells #[.int .i64 t122, .int .i64 t123, .int .i64 t124] 23 (0, 0)) (by (with_reducible repeat (first | refine blk_drewN ?_ _ | refine blk_drew ?_ | refine blk_alloc ?_ _)); exact BK126.out) hb); have n3_ := Aside0.mk (blk_below (g := gb131) (o := .cells #[.int .i64 t127, .int .i64 t128, .int .i64 t129] 23 (0, 0)) (by (with_reducible repeat (first | refine blk_drewN ?_ _ | refine blk_drew ?_ | refine blk_alloc ?_ _)); exact BK131.out) hb); have n4_ := Aside0.mk (below_step (by repeat (first | (with_reducible first | exact HB.out | apply below_alloc | apply pw_below_drewN | apply below_drew1 | refine below_set ?_ GE112.out | refine below_set ?_ GE113.out | refine below_set ?_ GE126.out | refine below_set ?_ GE131.out) | exact HB.out)) hb); clear BK112; clear BK113; clear BK126; clear BK131; clear HB; have BK112 := n0_; have BK113 := n1_; have BK126 := n2_; have BK131 := n3_; have HB := n4_; clear n0_ n1_ n2_ n3_ n4_; (try clear hb); (try clear hb2); (try clear hk); (try clear hi); have hcz131_0 : w130.cell? ⟨gb126, 0, none⟩ = some (.int .i64 t122) := (blk_cell BK126.out 0).trans rfl; have hcz131_1 : w130.cell? ⟨gb126, 1, none⟩ = some (.int .i64 t123) := (blk_cell BK126.out 1).trans rfl; have hcz131_2 : w130.cell? ⟨gb126, 2, none⟩ = some (.int .i64 t124) := (blk_cell BK126.out 2).trans rfl; have hfz131_0 := blk_frozen BK126.out 0; have hfz131_1 := blk_frozen BK126.out 1; have hfz131_2 := blk_frozen BK126.out 2) | (go_at_call 10; (with_reducible refine (timing_Valid.calls t122 t123 t124 t134 _ A88.out).mono ?_); rintro e w132 ⟨rfl, hb⟩; have n0_ := Aside0.mk (blk_below (g := gb112) (o := .cells #[.int .i64 a1_0, .int .i64 a1_1, .int .i64 a1_2] 23 (0, 0)) (by (with_reducible repeat (first | refine blk_drewN ?_ _ | refine blk_drew ?_ | refine blk_alloc ?_ _)); exact BK112.out) hb); have n1_ := Aside0.mk (blk_below (g := gb113) (o := .cells #[.int .i64 a2_0, .int .i64 a2_1, .int .i64 a2_2] 23 (0, 0)) (by (with_reducible repeat (first | refine blk_drewN ?_ _ | refine blk_drew ?_ | refine blk_alloc ?_ _)); exact BK113.out) hb); have n2_ := Aside0.mk (blk_below (g := gb126) (o := .cells #[.int .i64 t122, .int .i64 t123, .int .i64 t124] 23 (0, 0)) (by (with_reducible repeat (first | refine blk_drewN ?_ _ | refine blk_drew ?_ | refine blk_alloc ?_ _)); exact BK126.out) hb); have n3_ := Aside0.mk (blk_below (g := gb131) (o := .cells #[.int .i64 t127, .int .i64 t128, .int .i64 t129] 23 (0, 0)) (by (with_reducible repeat (first | refine blk_drewN ?_ _ | refine blk_drew ?_ | refine blk_alloc ?_ _)); exact BK131.out) hb); have n4_ := Aside0.mk (below_step (by repeat (first | (with_reducible first | exact HB.out | apply below_alloc | apply pw_below_drewN | apply below_drew1 | refine below_set ?_ GE112.out | refine below_set ?_ GE113.out | refine below_set ?_ GE126.out | refine below_set ?_ GE131.out) | exact HB.out)) hb); clear BK112; clear BK113; clear BK126; clear BK131; clear HB; have BK112 := n0_; have BK113 := n1_; have BK126 := n2_; have BK131 := n3_; have HB := n4_; clear n0_ n1_ n2_ n3_ n4_; (try clear hb); (try clear hb2); (try clear hk); (try clear hi)))
                            go_ret
                            exact ⟨by first | rfl | (simp [errW_none, errW_some] <;> rfl) | (simp [*, errW_none, errW_some] <;> rfl), by repeat (first | (with_reducible first | exact HB.out | apply below_alloc | apply pw_below_drewN | apply below_drew1 | refine below_set ?_ GE112.out | refine below_set ?_ GE113.out | refine below_set ?_ GE126.out | refine below_set ?_ GE131.out) | exact HB.out)⟩
                        · rw [if_neg c89] at H
                          have c89b0 : (t134 == 0) = false := beq_eq_false_iff_ne.mpr c89
                          have c89b1 : (t134 != 0) = true := bne_iff_ne.mpr c89
                          obtain rfl := Option.some.inj H
                          have hnb133 := NB126_112.out
                          have hnc133 := NB112_126.out
                          have hnb134 := NB126_113.out
                          have hnc134 := NB113_126.out
                          have hnb135 := NB126_131.out
                          have hnc135 := NB131_126.out
                          have hcz136_0 : wc.cell? ⟨gb126, 0, none⟩ = some (.int .i64 t122) := (blk_cell BK126.out 0).trans rfl
                          have hcz136_1 : wc.cell? ⟨gb126, 1, none⟩ = some (.int .i64 t123) := (blk_cell BK126.out 1).trans rfl
                          have hcz136_2 : wc.cell? ⟨gb126, 2, none⟩ = some (.int .i64 t124) := (blk_cell BK126.out 2).trans rfl
                          have hfz136_0 := blk_frozen BK126.out 0
                          have hfz136_1 := blk_frozen BK126.out 1
                          have hfz136_2 := blk_frozen BK126.out 2
                          go_wp2_with (first | ((with_reducible refine gate_callee (f := 8) rfl ?_); refine goesL_ (some 120) rfl rfl Try.func8 (by kernel_rfl) rfl #[.int .i64 a0, .agg #[.int .i64 t122, .int .i64 t123, .int .i64 t124]] rfl (by (try simp only [List.map_toArray, List.map_cons, List.map_nil]); first | done | rfl | (simp only [List.length_drop, List.length_take]; rfl)) ?_; (with_reducible refine (timing_Limit.calls a0 t122 t123 t124 t132 t133 _ A86.out).mono ?_); rintro e w137 ⟨rfl, hb⟩; refine ⟨_, rfl, ?_⟩; have n0_ := Aside0.mk (blk_below (g := gb112) (o := .cells #[.int .i64 a1_0, .int .i64 a1_1, .int .i64 a1_2] 23 (0, 0)) (by (with_reducible repeat (first | refine blk_drewN ?_ _ | refine blk_drew ?_ | refine blk_alloc ?_ _)); exact BK112.out) hb); have n1_ := Aside0.mk (blk_below (g := gb113) (o := .cells #[.int .i64 a2_0, .int .i64 a2_1, .int .i64 a2_2] 23 (0, 0)) (by (with_reducible repeat (first | refine blk_drewN ?_ _ | refine blk_drew ?_ | refine blk_alloc ?_ _)); exact BK113.out) hb); have n2_ := Aside0.mk (blk_below (g := gb126) (o := .cells #[.int .i64 t122, .int .i64 t123, .int .i64 t124] 23 (0, 0)) (by (with_reducible repeat (first | refine blk_drewN ?_ _ | refine blk_drew ?_ | refine blk_alloc ?_ _)); exact BK126.out) hb); have n3_ := Aside0.mk (blk_below (g := gb131) (o := .cells #[.int .i64 t127, .int .i64 t128, .int .i64 t129] 23 (0, 0)) (by (with_reducible repeat (first | refine blk_drewN ?_ _ | refine blk_drew ?_ | refine blk_alloc ?_ _)); exact BK131.out) hb); have n4_ := Aside0.mk (below_step (by repeat (first | (with_reducible first | exact HB.out | apply below_alloc | apply pw_below_drewN | apply below_drew1 | refine below_set ?_ GE112.out | refine below_set ?_ GE113.out | refine below_set ?_ GE126.out | refine below_set ?_ GE131.out) | exact HB.out)) hb); clear BK112; clear BK113; clear BK126; clear BK131; clear HB; have BK112 := n0_; have BK113 := n1_; have BK126 := n2_; have BK131 := n3_; have HB := n4_; clear n0_ n1_ n2_ n3_ n4_; (try clear hb); (try clear hb2); (try clear hk); (try clear hi); have hcz138_0 : w137.cell? ⟨gb126, 0, none⟩ = some (.int .i64 t122) := (blk_cell BK126.out 0).trans rfl; have hcz138_1 : w137.cell? ⟨gb126, 1, none⟩ = some (.int .i64 t123) := (blk_cell BK126.out 1).trans rfl; have hcz138_2 : w137.cell? ⟨gb126, 2, none⟩ = some (.int .i64 t124) := (blk_cell BK126.out 2).trans rfl; have hfz138_0 := blk_frozen BK126.out 0; have hfz138_1 := blk_frozen BK126.out 1; have hfz138_2 := blk_frozen BK126.out 2) | (go_at_call 10; (with_reducible refine (timing_Valid.calls t122 t123 t124 t134 _ A88.out).mono ?_); rintro e w139 ⟨rfl, hb⟩; have n0_ := Aside0.mk (blk_below (g := gb112) (o := .cells #[.int .i64 a1_0, .int .i64 a1_1, .int .i64 a1_2] 23 (0, 0)) (by (with_reducible repeat (first | refine blk_drewN ?_ _ | refine blk_drew ?_ | refine blk_alloc ?_ _)); exact BK112.out) hb); have n1_ := Aside0.mk (blk_below (g := gb113) (o := .cells #[.int .i64 a2_0, .int .i64 a2_1, .int .i64 a2_2] 23 (0, 0)) (by (with_reducible repeat (first | refine blk_drewN ?_ _ | refine blk_drew ?_ | refine blk_alloc ?_ _)); exact BK113.out) hb); have n2_ := Aside0.mk (blk_below (g := gb126) (o := .cells #[.int .i64 t122, .int .i64 t123, .int .i64 t124] 23 (0, 0)) (by (with_reducible repeat (first | refine blk_drewN ?_ _ | refine blk_drew ?_ | refine blk_alloc ?_ _)); exact BK126.out) hb); have n3_ := Aside0.mk (blk_below (g := gb131) (o := .cells #[.int .i64 t127, .int .i64 t128, .int .i64 t129] 23 (0, 0)) (by (with_reducible repeat (first | refine blk_drewN ?_ _ | refine blk_drew ?_ | refine blk_alloc ?_ _)); exact BK131.out) hb); have n4_ := Aside0.mk (below_step (by repeat (first | (with_reducible first | exact HB.out | apply below_alloc | apply pw_below_drewN | apply below_drew1 | refine below_set ?_ GE112.out | refine below_set ?_ GE113.out | refine below_set ?_ GE126.out | refine below_set ?_ GE131.out) | exact HB.out)) hb); clear BK112; clear BK113; clear BK126; clear BK131; clear HB; have BK112 := n0_; have BK113 := n1_; have BK126 := n2_; have BK131 := n3_; have HB := n4_; clear n0_ n1_ n2_ n3_ n4_; (try clear hb); (try clear hb2); (try clear hk); (try clear hi)))
                          go_ret
                          exact ⟨by first | rfl | (simp [errW_none, errW_some] <;> rfl) | (simp [*, errW_none, errW_some] <;> rfl), by repeat (first | (with_reducible first | exact HB.out | apply below_alloc | apply pw_below_drewN | apply below_drew1 | refine below_set ?_ GE112.out | refine below_set ?_ GE113.out | refine below_set ?_ GE126.out | refine below_set ?_ GE131.out) | exact HB.out)⟩
                      · rw [if_neg c87] at H
                        have c87b0 : (t133 == 0) = false := beq_eq_false_iff_ne.mpr c87
                        have c87b1 : (t133 != 0) = true := bne_iff_ne.mpr c87
                        obtain rfl := Option.some.inj H
                        have hnb140 := NB126_112.out
                        have hnc140 := NB112_126.out
                        have hnb141 := NB126_113.out
                        have hnc141 := NB113_126.out
                        have hnb142 := NB126_131.out
                        have hnc142 := NB131_126.out
                        have hcz143_0 : wc.cell? ⟨gb126, 0, none⟩ = some (.int .i64 t122) := (blk_cell BK126.out 0).trans rfl
                        have hcz143_1 : wc.cell? ⟨gb126, 1, none⟩ = some (.int .i64 t123) := (blk_cell BK126.out 1).trans rfl
                        have hcz143_2 : wc.cell? ⟨gb126, 2, none⟩ = some (.int .i64 t124) := (blk_cell BK126.out 2).trans rfl
                        have hfz143_0 := blk_frozen BK126.out 0
                        have hfz143_1 := blk_frozen BK126.out 1
                        have hfz143_2 := blk_frozen BK126.out 2
                        go_wp2_with (first | ((with_reducible refine gate_callee (f := 8) rfl ?_); refine goesL_ (some 120) rfl rfl Try.func8 (by kernel_rfl) rfl #[.int .i64 a0, .agg #[.int .i64 t122, .int .i64 t123, .int .i64 t124]] rfl (by (try simp only [List.map_toArray, List.map_cons, List.map_nil]); first | done | rfl | (simp only [List.length_drop, List.length_take]; rfl)) ?_; (with_reducible refine (timing_Limit.calls a0 t122 t123 t124 t132 t133 _ A86.out).mono ?_); rintro e w144 ⟨rfl, hb⟩; refine ⟨_, rfl, ?_⟩; have n0_ := Aside0.mk (blk_below (g := gb112) (o := .cells #[.int .i64 a1_0, .int .i64 a1_1, .int .i64 a1_2] 23 (0, 0)) (by (with_reducible repeat (first | refine blk_drewN ?_ _ | refine blk_drew ?_ | refine blk_alloc ?_ _)); exact BK112.out) hb); have n1_ := Aside0.mk (blk_below (g := gb113) (o := .cells #[.int .i64 a2_0, .int .i64 a2_1, .int .i64 a2_2] 23 (0, 0)) (by (with_reducible repeat (first | refine blk_drewN ?_ _ | refine blk_drew ?_ | refine blk_alloc ?_ _)); exact BK113.out) hb); have n2_ := Aside0.mk (blk_below (g := gb126) (o := .cells #[.int .i64 t122, .int .i64 t123, .int .i64 t124] 23 (0, 0)) (by (with_reducible repeat (first | refine blk_drewN ?_ _ | refine blk_drew ?_ | refine blk_alloc ?_ _)); exact BK126.out) hb); have n3_ := Aside0.mk (blk_below (g := gb131) (o := .cells #[.int .i64 t127, .int .i64 t128, .int .i64 t129] 23 (0, 0)) (by (with_reducible repeat (first | refine blk_drewN ?_ _ | refine blk_drew ?_ | refine blk_alloc ?_ _)); exact BK131.out) hb); have n4_ := Aside0.mk (below_step (by repeat (first | (with_reducible first | exact HB.out | apply below_alloc | apply pw_below_drewN | apply below_drew1 | refine below_set ?_ GE112.out | refine below_set ?_ GE113.out | refine below_set ?_ GE126.out | refine below_set ?_ GE131.out) | exact HB.out)) hb); clear BK112; clear BK113; clear BK126; clear BK131; clear HB; have BK112 := n0_; have BK113 := n1_; have BK126 := n2_; have BK131 := n3_; have HB := n4_; clear n0_ n1_ n2_ n3_ n4_; (try clear hb); (try clear hb2); (try clear hk); (try clear hi)))
                        go_ret
                        exact ⟨by first | rfl | (simp [errW_none, errW_some] <;> rfl) | (simp [*, errW_none, errW_some] <;> rfl), by repeat (first | (with_reducible first | exact HB.out | apply below_alloc | apply pw_below_drewN | apply below_drew1 | refine below_set ?_ GE112.out | refine below_set ?_ GE113.out | refine below_set ?_ GE126.out | refine below_set ?_ GE131.out) | exact HB.out)⟩
                    · rw [if_neg c85] at H
                      have c85b0 : (t125 == 0) = false := beq_eq_false_iff_ne.mpr c85
                      have c85b1 : (t125 != 0) = true := bne_iff_ne.mpr c85
                      by_cases c145 : t125 = 3
                      · rw [if_pos c145] at H
                        have c145b0 : (t125 == 3) = true := beq_iff_eq.mpr c145
                        have c145b1 : (t125 != 3) = false := bne_eq_false_iff_eq.mpr c145
                        clear c145
                        obtain rfl := Option.some.inj H
                        have hnb146 := NB126_112.out
                        have hnc146 := NB112_126.out
                        have hnb147 := NB126_113.out
                        have hnc147 := NB113_126.out
                        have hnb148 := NB126_131.out
                        have hnc148 := NB131_126.out
                        have hcz149_0 : wc.cell? ⟨gb126, 0, none⟩ = some (.int .i64 t122) := (blk_cell BK126.out 0).trans rfl
                        have hcz149_1 : wc.cell? ⟨gb126, 1, none⟩ = some (.int .i64 t123) := (blk_cell BK126.out 1).trans rfl
                        have hcz149_2 : wc.cell? ⟨gb126, 2, none⟩ = some (.int .i64 t124) := (blk_cell BK126.out 2).trans rfl
                        have hfz149_0 := blk_frozen BK126.out 0
                        have hfz149_1 := blk_frozen BK126.out 1
                        have hfz149_2 := blk_frozen BK126.out 2
                        go_wp2
                        go_ret
                        exact ⟨by first | rfl | (simp [errW_none, errW_some] <;> rfl) | (simp [*, errW_none, errW_some] <;> rfl), by repeat (first | (with_reducible first | exact HB.out | apply below_alloc | apply pw_below_drewN | apply below_drew1 | refine below_set ?_ GE112.out | refine below_set ?_ GE113.out | refine below_set ?_ GE126.out | refine below_set ?_ GE131.out) | exact HB.out)⟩
                      · rw [if_neg c145] at H
                        have c145b0 : (t125 == 3) = false := beq_eq_false_iff_ne.mpr c145
                        have c145b1 : (t125 != 3) = true := bne_iff_ne.mpr c145
                        obtain rfl := Option.some.inj H
                        go_wp2
                        go_ret
                        exact ⟨by first | rfl | (simp [errW_none, errW_some] <;> rfl) | (simp [*, errW_none, errW_some] <;> rfl), by repeat (first | (with_reducible first | exact HB.out | apply below_alloc | apply pw_below_drewN | apply below_drew1 | refine below_set ?_ GE112.out | refine below_set ?_ GE113.out | refine below_set ?_ GE126.out | refine below_set ?_ GE131.out) | exact HB.out)⟩

end Go.Proofs.Ytjopendipackpaa.PTimingNever
