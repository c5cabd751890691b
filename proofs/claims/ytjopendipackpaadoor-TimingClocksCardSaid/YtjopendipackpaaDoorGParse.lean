/- examboard/timing.Parse: what it returns is what its plain function says. No condition but those that the theorem states. -/
import Derived.Test.YtjopendipackpaaDoorPClkx0
import Derived.Test.YtjopendipackpaaDoorPClkx2
namespace Go.Proofs.YtjopendipackpaaDoor.PClk
open Go.RowKit Go.Proofs.YtjopendipackpaaDoorW.PrintWords Go.Proofs.YtjopendipackpaaDoorW.PrintLast Go.Proofs.YtjopendipackpaaDoorW.PrintMore
attribute [local go_sem] max2_int min2_int max_two min_two max_three min_three max_four min_four   -- for this text's walks alone
set_option linter.unusedVariables false
set_option linter.unusedSimpArgs false

/-- The array's three cells in block b, the string's bytes in the block behind it. -/
structure PMem (w : World) (b : Nat) (s : ByteArray) (l : List Int) : Prop where
  len : l.length = 3
  cells : w.heap[b]? = some (.cells (l.map fun z => Value.int .i64 z).toArray 31 (0, 0))
  bytes : ∀ x : Int, 0 ≤ x → x < (s.size : Int) → w.cell? ⟨b + 1, x.toNat, none⟩ = some (.int .u8 (bt s x))
theorem PMem.cell {w : World} {b : Nat} {s : ByteArray} {l : List Int} (h : PMem w b s l) (i : Int) (h0 : 0 ≤ i) (h1 : i < (l.length : Int)) : w.cell? ⟨b, i.toNat, none⟩ = some (.int .i64 (rd l i)) := by
  rw [blk_cell h.cells]
  have : i.toNat < l.length := by omega
  simp [rd, this, List.getD]
theorem PMem.frozen {w : World} {b : Nat} {s : ByteArray} {l : List Int} (h : PMem w b s l) (i : Nat) : w.frozen? ⟨b, i, none⟩ = false := blk_frozen h.cells i
theorem PMem.set {w : World} {b : Nat} {s : ByteArray} {l : List Int} (h : PMem w b s l) (i : Nat) (z : Int) : PMem (w.setCell ⟨b, i, none⟩ (.int .i64 z)) b s (l.set i z) := by
  refine ⟨by rw [List.length_set]; exact h.len, ?_, fun x h0 h1 => ?_⟩
  · rw [blk_set h.cells]
    simp [List.map_set]
  · rw [← h.bytes x h0 h1]
    unfold World.cell?
    have := Below.heap_setCell w ⟨b, i, none⟩ (.int .i64 z) (b + 1) (by simp)
    simp only at this ⊢
    rw [this]
theorem PMem.start (w : World) (s : ByteArray) : PMem (Lib.bytesWorld (w.alloc (.cells #[.int .i64 0, .int .i64 0, .int .i64 0] 31)) 5 s) w.heap.size s (List.replicate 3 0) := by
  have hsz : (w.alloc (.cells #[.int .i64 0, .int .i64 0, .int .i64 0] 31)).heap.size = w.heap.size + 1 := by simp [World.alloc, -World.alloc_eq]
  refine ⟨rfl, ?_, fun x h0 h1 => ?_⟩
  · rw [Lib.bytesWorld_at_old _ _ _ _ (by omega)]
    simp [World.alloc, -World.alloc_eq]
  · have := Lib.bytesWorld_cell (w.alloc (.cells #[.int .i64 0, .int .i64 0, .int .i64 0] 31)) 5 s x.toNat (by omega)
    rw [hsz] at this
    rw [this]
    have hx : x.toNat < s.data.toList.length := by rw [Array.length_toList]; show x.toNat < s.size; omega
    simp only [Option.some.injEq, Value.int.injEq, true_and]
    unfold bt
    rw [dif_pos (by omega)]
    simp only [List.getD, List.getElem?_eq_getElem hx, Option.getD_some, Array.getElem_toList]
    rfl
/-! ### timing_Parse: function 6 -/
mutual
def timing_Parse.j0 : Nat → ByteArray → Bool → Option (Int × Int)
  | 0, _, _ => none
  | k + 1, x0, x18 => if x18 = true then (some (0, 2)) else (if 3 ≤ 35184372088832 then (timing_Parse.l0 k x0 0 (List.replicate 3 0) x0 (x0.size : Int) 0) else (none))
def timing_Parse.l0 : Nat → ByteArray → Int → List Int → ByteArray → Int → Int → Option (Int × Int)
  | 0, _, _, _, _, _, _ => none
  | k + 1, x0, x4, x5, x21, x22, x23 => if x23 < x22 then (if 0 ≤ x23 then (if x23 < (x21.size : Int) then (if (bt x21 x23) = 58 then (timing_Parse.j2 k x0 x4 x5 (bt x21 x23) x21 x22 x23 (decide (x4 < 2))) else (timing_Parse.j2 k x0 x4 x5 (bt x21 x23) x21 x22 x23 false)) else (none)) else (none)) else (if 0 < (x5.length : Int) then (if 1 < (x5.length : Int) then (if 2 < (x5.length : Int) then ((timing_Print.f k (wrap64 ((wrap64 ((wrap64 (3600 * (rd x5 0))) + (wrap64 (60 * (rd x5 1))))) + (rd x5 2)))).bind fun bt113 => (if bt113.2 = 0 then (if bt113.1.toList = x0.toList then (some (wrap64 ((wrap64 ((wrap64 (3600 * (rd x5 0))) + (wrap64 (60 * (rd x5 1))))) + (rd x5 2)), 0)) else (some (0, 2))) else (some (0, 2)))) else (none)) else (none)) else (none))
def timing_Parse.j2 : Nat → ByteArray → Int → List Int → Int → ByteArray → Int → Int → Bool → Option (Int × Int)
  | 0, _, _, _, _, _, _, _, _ => none
  | k + 1, x0, x4, x5, x7, x21, x22, x23, x27 => if x27 = true then (timing_Parse.l0 k x0 (wrap64 (x4 + 1)) x5 x21 x22 (wrap64 (x23 + 1))) else (if x7 ≥ 48 then (if x7 ≤ 57 then (if 0 ≤ x4 then (if x4 < (x5.length : Int) then (timing_Parse.l0 k x0 x4 (x5.set (x4 : Int).toNat (wrap64 ((wrap64 (10 * (rd x5 x4))) + ((x7 - 48) % 256)))) x21 x22 (wrap64 (x23 + 1))) else (none)) else (none)) else (some (0, 2))) else (some (0, 2)))
end
def timing_Parse.f (k : Nat) (a0 : ByteArray) : Option (Int × Int) := if (a0.size : Int) < 7 then (timing_Parse.j0 k a0 true) else (timing_Parse.j0 k a0 (decide ((a0.size : Int) > 8)))
theorem timing_Parse.mono_l : ∀ k, (∀ y0 y1, LeO (timing_Parse.j0 k y0 y1) (timing_Parse.j0 (k + 1) y0 y1)) ∧ (∀ y0 y1 y2 y3 y4 y5, LeO (timing_Parse.l0 k y0 y1 y2 y3 y4 y5) (timing_Parse.l0 (k + 1) y0 y1 y2 y3 y4 y5)) ∧ (∀ y0 y1 y2 y3 y4 y5 y6 y7, LeO (timing_Parse.j2 k y0 y1 y2 y3 y4 y5 y6 y7) (timing_Parse.j2 (k + 1) y0 y1 y2 y3 y4 y5 y6 y7))
  | 0 => ⟨fun _ _ r h => by simp [timing_Parse.j0] at h, fun _ _ _ _ _ _ r h => by simp [timing_Parse.l0] at h, fun _ _ _ _ _ _ _ _ r h => by simp [timing_Parse.j2] at h⟩
  | k + 1 => by
    obtain ⟨ih0, ih1, ih2⟩ := timing_Parse.mono_l k
    refine ⟨?_, ?_, ?_⟩
    · intro y0 y1
      unfold timing_Parse.j0
      repeat' first
      | (with_reducible exact ih0 _ _)
      | (with_reducible exact ih1 _ _ _ _ _ _)
      | (with_reducible exact ih2 _ _ _ _ _ _ _ _)
      | (with_reducible exact timing_Print.mono _ _)
      | (with_reducible exact LeO.refl _)
      | (with_reducible exact LeO.none _)
      | (with_reducible refine LeO.ite ?_ ?_)
      | (with_reducible refine LeO.bind ?_ (fun _ => ?_))
      | exact ih0 _ _
      | exact ih1 _ _ _ _ _ _
      | exact ih2 _ _ _ _ _ _ _ _
      | exact timing_Print.mono _ _
      | exact LeO.none _
      | refine LeO.ite ?_ ?_
      | refine LeO.bind ?_ (fun _ => ?_)
    · intro y0 y1 y2 y3 y4 y5
      unfold timing_Parse.l0
      repeat' first
      | (with_reducible exact ih0 _ _)
      | (with_reducible exact ih1 _ _ _ _ _ _)
      | (with_reducible exact ih2 _ _ _ _ _ _ _ _)
      | (with_reducible exact timing_Print.mono _ _)
      | (with_reducible exact LeO.refl _)
      | (with_reducible exact LeO.none _)
      | (with_reducible refine LeO.ite ?_ ?_)
      | (with_reducible refine LeO.bind ?_ (fun _ => ?_))
      | exact ih0 _ _
      | exact ih1 _ _ _ _ _ _
      | exact ih2 _ _ _ _ _ _ _ _
      | exact timing_Print.mono _ _
      | exact LeO.none _
      | refine LeO.ite ?_ ?_
      | refine LeO.bind ?_ (fun _ => ?_)
    · intro y0 y1 y2 y3 y4 y5 y6 y7
      unfold timing_Parse.j2
      repeat' first
      | (with_reducible exact ih0 _ _)
      | (with_reducible exact ih1 _ _ _ _ _ _)
      | (with_reducible exact ih2 _ _ _ _ _ _ _ _)
      | (with_reducible exact timing_Print.mono _ _)
      | (with_reducible exact LeO.refl _)
      | (with_reducible exact LeO.none _)
      | (with_reducible refine LeO.ite ?_ ?_)
      | (with_reducible refine LeO.bind ?_ (fun _ => ?_))
      | exact ih0 _ _
      | exact ih1 _ _ _ _ _ _
      | exact ih2 _ _ _ _ _ _ _ _
      | exact timing_Print.mono _ _
      | exact LeO.none _
      | refine LeO.ite ?_ ?_
      | refine LeO.bind ?_ (fun _ => ?_)
theorem timing_Parse.mono : ∀ a0 k, LeO (timing_Parse.f k a0) (timing_Parse.f (k + 1) a0) := by
  intro a0 k
  obtain ⟨ih0, ih1, ih2⟩ := timing_Parse.mono_l k
  unfold timing_Parse.f
  repeat' first
      | (with_reducible exact ih0 _ _)
      | (with_reducible exact ih1 _ _ _ _ _ _)
      | (with_reducible exact ih2 _ _ _ _ _ _ _ _)
      | (with_reducible exact timing_Print.mono _ _)
      | (with_reducible exact LeO.refl _)
      | (with_reducible exact LeO.none _)
      | (with_reducible refine LeO.ite ?_ ?_)
      | (with_reducible refine LeO.bind ?_ (fun _ => ?_))
      | exact ih0 _ _
      | exact ih1 _ _ _ _ _ _
      | exact ih2 _ _ _ _ _ _ _ _
      | exact timing_Print.mono _ _
      | exact LeO.none _
      | refine LeO.ite ?_ ?_
      | refine LeO.bind ?_ (fun _ => ?_)
set_option maxHeartbeats 8000000 in
set_option maxRecDepth 100000 in
theorem timing_Parse.calls (k : Nat) (a0 : ByteArray) (r1 : Int) (r2 : Int) (w : World) (h : timing_Parse.f k a0 = some (r1, r2)) :
    Calls Tryd.prog 6 #[.string a0] w fun e w' => e = .returned (.tuple #[.int .i64 r1, .int .i64 r2]) ∧ Below w.heap.size w w' := by
  have HB := Aside0.mk (Below.refl w.heap.size w)
  have H : (if (a0.size : Int) < 7 then (timing_Parse.j0 k a0 true) else (timing_Parse.j0 k a0 (decide ((a0.size : Int) > 8)))) = some (r1, r2) := h
  clear h
  have HC2 := Aside0.mk H
  clear H
  go_enter Tryd.func6, Tryd.ntmps6
  go_upto_region 1 with (fail)
  go_cut [18] (fun v18 wc => ∃ (kq : Nat) (x18_1 : Bool), v18 = .bool x18_1 ∧ Aside0 (timing_Parse.j0 kq a0 x18_1 = some (r1, r2)) ∧ Aside0 (kq ≤ k) ∧ Aside0 (Below w.heap.size w wc))
  case first =>
    have H := HC2.out
    clear HC2
    by_cases c3 : (a0.size : Int) < 7
    · rw [if_pos c3] at H
      have c3b0 : decide ((a0.size : Int) < 7) = true := decide_eq_true c3
      have c3b1 : decide (a0.size < 7) = true := decide_eq_true (by omega)
      clear c3
      (first | rw [c3b0] | (simp only [i64_w, i32_w]; rw [c3b0]) | skip)
      have H' := Aside0.mk H
      clear H
      go_wp2
      go_meet
      case rel => exact ⟨_, (true), (by first | rfl | (simp; done) | (simp [*]; done)), H', ⟨by first | omega | exact Nat.le_refl _⟩, ⟨by repeat (first | (with_reducible first | exact HB.out | apply below_alloc | apply pw_below_drewN | apply below_drew1) | exact HB.out)⟩⟩
    · rw [if_neg c3] at H
      have c3b0 : decide ((a0.size : Int) < 7) = false := decide_eq_false c3
      have c3b1 : decide (a0.size < 7) = false := decide_eq_false (by omega)
      clear c3
      (first | rw [c3b0] | (simp only [i64_w, i32_w]; rw [c3b0]) | skip)
      have H' := Aside0.mk H
      clear H
      go_wp2
      go_meet
      case rel => exact ⟨_, (decide ((a0.size : Int) > 8)), (by first | rfl | (simp; done) | (simp [*]; done)), H', ⟨by first | omega | exact Nat.le_refl _⟩, ⟨by repeat (first | (with_reducible first | exact HB.out | apply below_alloc | apply pw_below_drewN | apply below_drew1) | exact HB.out)⟩⟩
  case rest =>
    clear HC2
    try clear p2
    try clear c3
    try clear c3b0
    try clear c3b1
    obtain ⟨kq, x18_1, rfl, HA, HJ1, HB⟩ := hcut
    cases kq with
    | zero => exact absurd HA.out (by simp [timing_Parse.j0])
    | succ kj1 =>
      have H := HA.out
      clear HA
      simp only [timing_Parse.j0] at H
      by_cases c4 : x18_1 = true
      · subst c4
        have H1 : (some (0, 2)) = some (r1, r2) := by rw [if_pos rfl] at H; exact H
        clear H
        have H := H1
        clear H1
        simp only [Option.some.injEq, Prod.mk.injEq] at H
        obtain ⟨rfl, rfl⟩ := H
        go_wp2
        go_ret2
        exact ⟨by first | rfl | (simp [errW_none, errW_some] <;> rfl) | (simp [*, errW_none, errW_some] <;> rfl), by repeat (first | (with_reducible first | exact HB.out | apply below_alloc | apply pw_below_drewN | apply below_drew1) | exact HB.out)⟩
      · replace c4 := Bool.eq_false_iff.mpr c4
        subst c4
        have H1 : (if 3 ≤ 35184372088832 then (timing_Parse.l0 kj1 a0 0 (List.replicate 3 0) a0 (a0.size : Int) 0) else (none)) = some (r1, r2) := by rw [if_neg (show ¬ (false = true) by decide)] at H; exact H
        clear H
        have H := H1
        clear H1
        by_cases c5 : 3 ≤ 35184372088832
        · rw [if_pos c5] at H
          have c5b0 := eq_true c5
          have c5b1 : decide (3 ≤ 35184372088832) = true := decide_eq_true c5
          clear c5
          obtain ⟨y107, hy107⟩ : ∃ y_ : List Int, y_ = (List.replicate 3 0) := ⟨_, rfl⟩
          replace H : (timing_Parse.l0 kj1 a0 0 y107 a0 (a0.size : Int) 0) = some (r1, r2) := by first | (rw [hy107]; with_reducible exact H) | (have H2_ := (Option.bind_some _ _).symm.trans H; rw [hy107]; with_reducible exact H2_) | (have H2_ := (Option.bind_some _ _).symm.trans H; with_reducible exact H2_) | with_reducible exact H | (rw [hy107]; exact H) | exact H
          have Ny107 := Aside0.mk hy107
          clear hy107
          have H' := Aside0.mk H
          clear H
          have hcv := fun w s => Lib.run_convert_string_bytes (P := Tryd.prog) w 9 32 5 s Tryd.underlying9 Tryd.underlying32 Tryd.underlying5
          have hst := Aside0.mk (PMem.start wc a0)
          have hbs := Aside0.mk (bytes_below (B := w.heap.size) (w := w) (W := wc.alloc (.cells #[.int .i64 0, .int .i64 0, .int .i64 0] 31)) (below_alloc HB.out _) (by have := HB.out.size; simp [World.alloc, -World.alloc_eq]; omega) 5 a0)
          go_wp2
          obtain ⟨B5, hB5⟩ : ∃ b, b = wc.heap.size := ⟨_, rfl⟩
          have h5lt : w.heap.size ≤ B5 := by rw [hB5]; exact HB.out.size
          rw [← hB5] at hst
          try rw [← hB5]
          clear hB5
          go_loopg [4, 23] kj1 (fun kq v4 v23 w' => ∃ (x4_2 : Int) (x5_2 : List Int) (x23_2 : Int), v4 = .int .i64 x4_2 ∧ v23 = .int .i64 x23_2 ∧ Aside0 (timing_Parse.l0 kq a0 x4_2 x5_2 a0 (a0.size : Int) x23_2 = some (r1, r2)) ∧ Aside0 (kq ≤ kj1) ∧ Aside0 (PMem w' B5 a0 x5_2) ∧ Aside0 (Below w.heap.size w w'))
          case atStart => exact ⟨(0), (y107), (0), (by first | rfl | (simp; done) | (simp [*]; done)), (by first | rfl | (simp; done) | (simp [*]; done)), H', ⟨Nat.le_refl _⟩, ⟨by rw [Ny107.out]; exact hst.out⟩, ⟨hbs.out⟩⟩
          case round =>
            clear H'
            try clear p2
            try clear c3
            try clear c3b0
            try clear c3b1
            try clear c4
            try clear c5
            try clear c5b0
            try clear c5b1
            try clear c6
            try clear p2
            obtain ⟨x4_2, x5_2, x23_2, rfl, rfl, HA, HK2, HO_5, HB⟩ := hrel
            cases gk with
            | zero => exact absurd HA.out (by simp [timing_Parse.l0])
            | succ k2 =>
              have H := HA.out
              clear HA
              simp only [timing_Parse.l0] at H
              by_cases c8 : x23_2 < (a0.size : Int)
              · rw [if_pos c8] at H
                have c8b0 : decide (x23_2 < (a0.size : Int)) = true := decide_eq_true c8
                clear c8
                by_cases c9 : 0 ≤ x23_2
                · rw [if_pos c9] at H
                  have c9b0 : decide (0 ≤ x23_2) = true := decide_eq_true c9
                  clear c9
                  by_cases c10 : x23_2 < (a0.size : Int)
                  · rw [if_pos c10] at H
                    have c10b0 : decide (x23_2 < (a0.size : Int)) = true := decide_eq_true c10
                    clear c10
                    have HC12 := Aside0.mk H
                    clear H
                    have p11 : 0 ≤ (x23_2 : Int) := of_decide_eq_true (by first | (with_reducible assumption) | assumption)
                    have q11 : x23_2 < (a0.size : Int) := of_decide_eq_true (by first | (with_reducible assumption) | assumption)
                    have hx11 := HO_5.out.bytes x23_2 p11 q11
                    replace p11 := eq_true p11
                    replace q11 := eq_true q11
                    go_upto_region 8 with (fail)
                    go_cut [27] (fun v27 wc => ∃ (kq : Nat) (x27_11 : Bool), v27 = .bool x27_11 ∧ Aside0 (timing_Parse.j2 kq a0 x4_2 x5_2 (bt a0 x23_2) a0 (a0.size : Int) x23_2 x27_11 = some (r1, r2)) ∧ Aside0 (kq ≤ k2) ∧ Aside0 (PMem wc B5 a0 x5_2) ∧ Aside0 (Below w.heap.size w wc))
                    case first =>
                      have H := HC12.out
                      clear HC12
                      by_cases c13 : (bt a0 x23_2) = 58
                      · rw [if_pos c13] at H
                        have c13b0 : ((bt a0 x23_2) == 58) = true := beq_iff_eq.mpr c13
                        have c13b1 : ((bt a0 x23_2) != 58) = false := bne_eq_false_iff_eq.mpr c13
                        clear c13
                        (first | rw [c13b0] | (simp only [i64_w, i32_w]; rw [c13b0]) | skip)
                        have H' := Aside0.mk H
                        clear H
                        go_wp2
                        go_meet
                        case rel => exact ⟨_, (decide (x4_2 < 2)), (by first | rfl | (simp; done) | (simp [*]; done)), H', ⟨by have := HJ1.out; have := HK2.out; first | omega | exact Nat.le_refl _⟩, ⟨by (with_reducible repeat (first | apply Kd.R_alloc | apply Kd.R_drewN | apply Kd.R_drew)); exact HO_5.out⟩, ⟨by repeat (first | (with_reducible first | exact HB.out | apply below_alloc | apply pw_below_drewN | apply below_drew1) | exact HB.out)⟩⟩
                      · rw [if_neg c13] at H
                        have c13b0 : ((bt a0 x23_2) == 58) = false := beq_eq_false_iff_ne.mpr c13
                        have c13b1 : ((bt a0 x23_2) != 58) = true := bne_iff_ne.mpr c13
                        (first | rw [c13b0] | (simp only [i64_w, i32_w]; rw [c13b0]) | skip)
                        have H' := Aside0.mk H
                        clear H
                        go_wp2
                        go_meet
                        case rel => exact ⟨_, (false), (by first | rfl | (simp; done) | (simp [*]; done)), H', ⟨by have := HJ1.out; have := HK2.out; first | omega | exact Nat.le_refl _⟩, ⟨by (with_reducible repeat (first | apply Kd.R_alloc | apply Kd.R_drewN | apply Kd.R_drew)); exact HO_5.out⟩, ⟨by repeat (first | (with_reducible first | exact HB.out | apply below_alloc | apply pw_below_drewN | apply below_drew1) | exact HB.out)⟩⟩
                    case rest =>
                      clear HC12
                      try clear c1
                      try clear p1
                      try clear q1
                      try clear hx1
                      try clear p2
                      try clear c3
                      try clear c3b0
                      try clear c3b1
                      try clear c4
                      try clear c5
                      try clear c5b0
                      try clear c5b1
                      try clear c6
                      try clear c8
                      try clear c8b0
                      try clear c9
                      try clear c9b0
                      try clear c10
                      try clear c10b0
                      try clear p11
                      try clear q11
                      try clear hx11
                      try clear c13
                      try clear c13b0
                      try clear c13b1
                      try clear p11
                      try clear p2
                      try clear q11
                      obtain ⟨kq, x27_11, rfl, HA, HJ11, HO_5, HB⟩ := hcut
                      cases kq with
                      | zero => exact absurd HA.out (by simp [timing_Parse.j2])
                      | succ kj11 =>
                        have H := HA.out
                        clear HA
                        simp only [timing_Parse.j2] at H
                        by_cases c14 : x27_11 = true
                        · subst c14
                          have H1 : (timing_Parse.l0 kj11 a0 (wrap64 (x4_2 + 1)) x5_2 a0 (a0.size : Int) (wrap64 (x23_2 + 1))) = some (r1, r2) := by rw [if_pos rfl] at H; exact H
                          clear H
                          have H := H1
                          clear H1
                          have H' := Aside0.mk H
                          clear H
                          go_wp2
                          go_roundg kj11
                          case measure => have := HJ1.out; have := HK2.out; have := HJ11.out; omega
                          case rel => exact ⟨(wrap64 (x4_2 + 1)), (x5_2), (wrap64 (x23_2 + 1)), (by first | rfl | (simp; done) | (simp [*]; done)), (by first | rfl | (simp; done) | (simp [*]; done)), H', ⟨by have := HJ1.out; have := HK2.out; have := HJ11.out; omega⟩, ⟨by (with_reducible repeat (first | apply Kd.R_alloc | apply Kd.R_drewN | apply Kd.R_drew)); exact HO_5.out⟩, ⟨by repeat (first | (with_reducible first | exact HB.out | apply below_alloc | apply pw_below_drewN | apply below_drew1) | exact HB.out)⟩⟩
                        · replace c14 := Bool.eq_false_iff.mpr c14
                          subst c14
                          have H1 : (if (bt a0 x23_2) ≥ 48 then (if (bt a0 x23_2) ≤ 57 then (if 0 ≤ x4_2 then (if x4_2 < (x5_2.length : Int) then (timing_Parse.l0 kj11 a0 x4_2 (x5_2.set (x4_2 : Int).toNat (wrap64 ((wrap64 (10 * (rd x5_2 x4_2))) + (((bt a0 x23_2) - 48) % 256)))) a0 (a0.size : Int) (wrap64 (x23_2 + 1))) else (none)) else (none)) else (some (0, 2))) else (some (0, 2))) = some (r1, r2) := by rw [if_neg (show ¬ (false = true) by decide)] at H; exact H
                          clear H
                          have H := H1
                          clear H1
                          by_cases c15 : (bt a0 x23_2) ≥ 48
                          · rw [if_pos c15] at H
                            have c15b0 : decide (48 ≤ (bt a0 x23_2)) = true := decide_eq_true c15
                            clear c15
                            by_cases c16 : (bt a0 x23_2) ≤ 57
                            · rw [if_pos c16] at H
                              have c16b0 : decide ((bt a0 x23_2) ≤ 57) = true := decide_eq_true c16
                              clear c16
                              by_cases c17 : 0 ≤ x4_2
                              · rw [if_pos c17] at H
                                have c17b0 : decide (0 ≤ x4_2) = true := decide_eq_true c17
                                clear c17
                                by_cases c18 : x4_2 < (x5_2.length : Int)
                                · rw [if_pos c18] at H
                                  have c18b0 : decide (x4_2 < (x5_2.length : Int)) = true := decide_eq_true c18
                                  clear c18
                                  obtain ⟨y116, hy116⟩ : ∃ y_ : List Int, y_ = (x5_2.set (x4_2 : Int).toNat (wrap64 ((wrap64 (10 * (rd x5_2 x4_2))) + (((bt a0 x23_2) - 48) % 256)))) := ⟨_, rfl⟩
                                  replace H : (timing_Parse.l0 kj11 a0 x4_2 y116 a0 (a0.size : Int) (wrap64 (x23_2 + 1))) = some (r1, r2) := by first | (rw [hy116]; with_reducible exact H) | (have H2_ := (Option.bind_some _ _).symm.trans H; rw [hy116]; with_reducible exact H2_) | (have H2_ := (Option.bind_some _ _).symm.trans H; with_reducible exact H2_) | with_reducible exact H | (rw [hy116]; exact H) | exact H
                                  have Ny116 := Aside0.mk hy116
                                  clear hy116
                                  have H' := Aside0.mk H
                                  clear H
                                  have p19 : 0 ≤ (x4_2 : Int) := of_decide_eq_true (by first | (with_reducible assumption) | assumption)
                                  have q18 : x4_2 < (x5_2.length : Int) := of_decide_eq_true (by first | (with_reducible assumption) | assumption)
                                  have hc19 := HO_5.out.cell x4_2 p19 q18
                                  have hf19 := HO_5.out.frozen x4_2.toNat
                                  have q19 : x4_2 < 3 := by have := HO_5.out.len; omega
                                  have ho19 := Aside0.mk (HO_5.out.set x4_2.toNat (wrap64 ((wrap64 (10 * (rd x5_2 x4_2))) + (((bt a0 x23_2) - 48) % 256))))
                                  rw [← Ny116.out] at ho19
                                  have hb19 := Aside0.mk (below_set (g := B5) (j := x4_2.toNat) (v := .int .i64 (wrap64 ((wrap64 (10 * (rd x5_2 x4_2))) + (((bt a0 x23_2) - 48) % 256)))) HB.out h5lt)
                                  replace p19 := eq_true p19
                                  replace q19 := eq_true q19
                                  go_wp2
                                  go_roundg kj11
                                  case measure => have := HJ1.out; have := HK2.out; have := HJ11.out; omega
                                  case rel => exact ⟨(x4_2), (y116), (wrap64 (x23_2 + 1)), (by first | rfl | (simp; done) | (simp [*]; done)), (by first | rfl | (simp; done) | (simp [*]; done)), H', ⟨by have := HJ1.out; have := HK2.out; have := HJ11.out; omega⟩, ⟨by (with_reducible repeat (first | apply Kd.R_alloc | apply Kd.R_drewN | apply Kd.R_drew)); exact ho19.out⟩, ⟨hb19.out⟩⟩
                                · rw [if_neg c18] at H
                                  exact absurd H (by simp)
                              · rw [if_neg c17] at H
                                exact absurd H (by simp)
                            · rw [if_neg c16] at H
                              have c16b0 : decide ((bt a0 x23_2) ≤ 57) = false := decide_eq_false c16
                              clear c16
                              simp only [Option.some.injEq, Prod.mk.injEq] at H
                              obtain ⟨rfl, rfl⟩ := H
                              go_wp2
                              go_ret2
                              exact ⟨by first | rfl | (simp [errW_none, errW_some] <;> rfl) | (simp [*, errW_none, errW_some] <;> rfl), by repeat (first | (with_reducible first | exact HB.out | apply below_alloc | apply pw_below_drewN | apply below_drew1) | exact HB.out)⟩
                          · rw [if_neg c15] at H
                            have c15b0 : decide (48 ≤ (bt a0 x23_2)) = false := decide_eq_false c15
                            clear c15
                            simp only [Option.some.injEq, Prod.mk.injEq] at H
                            obtain ⟨rfl, rfl⟩ := H
                            go_wp2
                            go_ret2
                            exact ⟨by first | rfl | (simp [errW_none, errW_some] <;> rfl) | (simp [*, errW_none, errW_some] <;> rfl), by repeat (first | (with_reducible first | exact HB.out | apply below_alloc | apply pw_below_drewN | apply below_drew1) | exact HB.out)⟩
                  · rw [if_neg c10] at H
                    exact absurd H (by simp)
                · rw [if_neg c9] at H
                  exact absurd H (by simp)
              · rw [if_neg c8] at H
                have c8b0 : decide (x23_2 < (a0.size : Int)) = false := decide_eq_false c8
                clear c8
                by_cases c23 : 0 < (x5_2.length : Int)
                · rw [if_pos c23] at H
                  have c23b0 : decide (0 < (x5_2.length : Int)) = true := decide_eq_true c23
                  have c23b1 : decide (0 < x5_2.length) = true := decide_eq_true (by omega)
                  clear c23
                  by_cases c24 : 1 < (x5_2.length : Int)
                  · rw [if_pos c24] at H
                    have c24b0 : decide (1 < (x5_2.length : Int)) = true := decide_eq_true c24
                    have c24b1 : decide (1 < x5_2.length) = true := decide_eq_true (by omega)
                    clear c24
                    by_cases c25 : 2 < (x5_2.length : Int)
                    · rw [if_pos c25] at H
                      have c25b0 : decide (2 < (x5_2.length : Int)) = true := decide_eq_true c25
                      have c25b1 : decide (2 < x5_2.length) = true := decide_eq_true (by omega)
                      clear c25
                      replace H := Option.bind_eq_some_iff.mp H
                      obtain ⟨⟨t113, t114⟩, A260, H⟩ := H
                      replace H : (if t114 = 0 then (if t113.toList = a0.toList then (some (wrap64 ((wrap64 ((wrap64 (3600 * (rd x5_2 0))) + (wrap64 (60 * (rd x5_2 1))))) + (rd x5_2 2)), 0)) else (some (0, 2))) else (some (0, 2))) = some (r1, r2) := H
                      have A26 := Aside0.mk A260
                      clear A260
                      by_cases c27 : t114 = 0
                      · rw [if_pos c27] at H
                        have c27b0 : (t114 == 0) = true := beq_iff_eq.mpr c27
                        have c27b1 : (t114 != 0) = false := bne_eq_false_iff_eq.mpr c27
                        clear c27
                        by_cases c28 : t113.toList = a0.toList
                        · rw [if_pos c28] at H
                          have c28b0 : (t113.toList == a0.toList) = true := beq_iff_eq.mpr c28
                          have c28b1 : (t113.toList != a0.toList) = false := bne_eq_false_iff_eq.mpr c28
                          clear c28
                          simp only [Option.some.injEq, Prod.mk.injEq] at H
                          obtain ⟨rfl, rfl⟩ := H
                          have hl3 := HO_5.out.len
                          have hc0 := HO_5.out.cell 0 (by omega) (by omega)
                          have hc1 := HO_5.out.cell 1 (by omega) (by omega)
                          have hc2 := HO_5.out.cell 2 (by omega) (by omega)
                          simp only [Int.reduceToNat] at hc0 hc1 hc2
                          go_wp2_with (first | ((with_reducible refine gate_callee (f := 5) rfl ?_); refine goesL_ (some 66) rfl rfl Tryd.func5 (by kernel_rfl) rfl #[.int .i64 (wrap64 ((wrap64 ((wrap64 (3600 * (rd x5_2 0))) + (wrap64 (60 * (rd x5_2 1))))) + (rd x5_2 2)))] rfl (by (try simp only [List.map_toArray, List.map_cons, List.map_nil]); first | done | rfl | (simp only [List.length_drop, List.length_take]; rfl)) ?_; (with_reducible refine (timing_Print.calls k2 (wrap64 ((wrap64 ((wrap64 (3600 * (rd x5_2 0))) + (wrap64 (60 * (rd x5_2 1))))) + (rd x5_2 2))) t113 t114 _ A26.out).mono ?_); rintro e w30 ⟨rfl, hb⟩; refine ⟨_, rfl, ?_⟩; have n1_ := Aside0.mk (below_step (by repeat (first | (with_reducible first | exact HB.out | apply below_alloc | apply pw_below_drewN | apply below_drew1) | exact HB.out)) hb); clear HB; have HB := n1_; clear n1_; (try clear hb); (try clear hb2); (try clear hk); (try clear hi)))
                          go_ret2
                          exact ⟨by first | rfl | (simp [errW_none, errW_some] <;> rfl) | (simp [*, errW_none, errW_some] <;> rfl), by repeat (first | (with_reducible first | exact HB.out | apply below_alloc | apply pw_below_drewN | apply below_drew1) | exact HB.out)⟩
                        · rw [if_neg c28] at H
                          have c28b0 : (t113.toList == a0.toList) = false := beq_eq_false_iff_ne.mpr c28
                          have c28b1 : (t113.toList != a0.toList) = true := bne_iff_ne.mpr c28
                          simp only [Option.some.injEq, Prod.mk.injEq] at H
                          obtain ⟨rfl, rfl⟩ := H
                          have hl3 := HO_5.out.len
                          have hc0 := HO_5.out.cell 0 (by omega) (by omega)
                          have hc1 := HO_5.out.cell 1 (by omega) (by omega)
                          have hc2 := HO_5.out.cell 2 (by omega) (by omega)
                          simp only [Int.reduceToNat] at hc0 hc1 hc2
                          go_wp2_with (first | ((with_reducible refine gate_callee (f := 5) rfl ?_); refine goesL_ (some 66) rfl rfl Tryd.func5 (by kernel_rfl) rfl #[.int .i64 (wrap64 ((wrap64 ((wrap64 (3600 * (rd x5_2 0))) + (wrap64 (60 * (rd x5_2 1))))) + (rd x5_2 2)))] rfl (by (try simp only [List.map_toArray, List.map_cons, List.map_nil]); first | done | rfl | (simp only [List.length_drop, List.length_take]; rfl)) ?_; (with_reducible refine (timing_Print.calls k2 (wrap64 ((wrap64 ((wrap64 (3600 * (rd x5_2 0))) + (wrap64 (60 * (rd x5_2 1))))) + (rd x5_2 2))) t113 t114 _ A26.out).mono ?_); rintro e w32 ⟨rfl, hb⟩; refine ⟨_, rfl, ?_⟩; have n1_ := Aside0.mk (below_step (by repeat (first | (with_reducible first | exact HB.out | apply below_alloc | apply pw_below_drewN | apply below_drew1) | exact HB.out)) hb); clear HB; have HB := n1_; clear n1_; (try clear hb); (try clear hb2); (try clear hk); (try clear hi)))
                          go_ret2
                          exact ⟨by first | rfl | (simp [errW_none, errW_some] <;> rfl) | (simp [*, errW_none, errW_some] <;> rfl), by repeat (first | (with_reducible first | exact HB.out | apply below_alloc | apply pw_below_drewN | apply below_drew1) | exact HB.out)⟩
                      · rw [if_neg c27] at H
                        have c27b0 : (t114 == 0) = false := beq_eq_false_iff_ne.mpr c27
                        have c27b1 : (t114 != 0) = true := bne_iff_ne.mpr c27
                        simp only [Option.some.injEq, Prod.mk.injEq] at H
                        obtain ⟨rfl, rfl⟩ := H
                        have hl3 := HO_5.out.len
                        have hc0 := HO_5.out.cell 0 (by omega) (by omega)
                        have hc1 := HO_5.out.cell 1 (by omega) (by omega)
                        have hc2 := HO_5.out.cell 2 (by omega) (by omega)
                        simp only [Int.reduceToNat] at hc0 hc1 hc2
                        go_wp2_with (first | ((with_reducible refine gate_callee (f := 5) rfl ?_); refine goesL_ (some 66) rfl rfl Tryd.func5 (by kernel_rfl) rfl #[.int .i64 (wrap64 ((wrap64 ((wrap64 (3600 * (rd x5_2 0))) + (wrap64 (60 * (rd x5_2 1))))) + (rd x5_2 2)))] rfl (by (try simp only [List.map_toArray, List.map_cons, List.map_nil]); first | done | rfl | (simp only [List.length_drop, List.length_take]; rfl)) ?_; (with_reducible refine (timing_Print.calls k2 (wrap64 ((wrap64 ((wrap64 (3600 * (rd x5_2 0))) + (wrap64 (60 * (rd x5_2 1))))) + (rd x5_2 2))) t113 t114 _ A26.out).mono ?_); rintro e w34 ⟨rfl, hb⟩; refine ⟨_, rfl, ?_⟩; have n1_ := Aside0.mk (below_step (by repeat (first | (with_reducible first | exact HB.out | apply below_alloc | apply pw_below_drewN | apply below_drew1) | exact HB.out)) hb); clear HB; have HB := n1_; clear n1_; (try clear hb); (try clear hb2); (try clear hk); (try clear hi)))
                        go_ret2
                        exact ⟨by first | rfl | (simp [errW_none, errW_some] <;> rfl) | (simp [*, errW_none, errW_some] <;> rfl), by repeat (first | (with_reducible first | exact HB.out | apply below_alloc | apply pw_below_drewN | apply below_drew1) | exact HB.out)⟩
                    · rw [if_neg c25] at H
                      exact absurd H (by simp)
                  · rw [if_neg c24] at H
                    exact absurd H (by simp)
                · rw [if_neg c23] at H
                  exact absurd H (by simp)
        · rw [if_neg c5] at H
          exact absurd H (by simp)

end Go.Proofs.YtjopendipackpaaDoor.PClk
