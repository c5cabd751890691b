/- The contract of awake, which checks the examples of the chapter: it returns true. The walk: written by a program of the session out of the translation (the kit's print program, with contracts given by hand where it has none). Conditions: those that each theorem states. -/
import Derived.KernelRfl
import Derived.Test.YtidehmfaebiebaaDoorPA
import Derived.Test.YtidehmfaebiebaaDoorPIncx8
import Derived.Test.YtidehmfaebiebaaDoorPC
import Derived.Test.YtidehmfaebiebaaDoorPB
import Derived.Test.YtidehmfaebiebaaDoorPD
namespace Go.Proofs.YtidehmfaebiebaaDoor.PInc
open Go.RowKit Go.Proofs.YtidehmfaebiebaaDoorW.PrintWords Go.Proofs.YtidehmfaebiebaaDoorW.PrintLast Go.Proofs.YtidehmfaebiebaaDoorW.PrintMore
attribute [local go_sem] max2_int min2_int max_two min_two max_three min_three max_four min_four   -- for this text's walks alone
set_option linter.unusedVariables false
set_option linter.unusedSimpArgs false

attribute [local go_sem high] eqA23
/-! ### examboardlaw50_awake: function 15 -/
mutual
def examboardlaw50_awake.j0 : Nat → Bool → Int → Int → Int → Int → Int → Int → Int → Int → Int → Int → Int → Int → Option (Bool)
  | 0, _, _, _, _, _, _, _, _, _, _, _, _, _ => none
  | k + 1, x42, x240000, x240001, x240002, x240003, x241000, x241001, x241002, x241003, x242000, x242001, x242002, x242003 => if x42 = true then (some false) else ((incident_Parse.f k (⟨#[112, 111, 119, 101, 114, 32, 97, 116, 32, 48, 55, 32, 108, 111, 115, 116, 32, 48, 32, 103, 114, 97, 118, 101, 32, 48]⟩ : ByteArray)).bind fun bt250 => ((incident_Parse.f k (⟨#[112, 111, 119, 101, 114, 32, 97, 116, 32, 49, 32, 108, 111, 115, 116, 32, 48, 32, 103, 114, 97, 118, 101, 32, 57, 57, 57, 57, 57, 57, 57, 57, 57, 57, 57, 57, 57, 57, 57, 57, 57, 57, 57, 57]⟩ : ByteArray)).bind fun bt255 => (if bt250.2.2.2.2 = 2 then (if bt255.2.2.2.2 = 3 then ((incident_Valid.f k x240000 x240001 x240002 x240003).bind fun t260 => (if t260 = 0 then ((incident_Valid.f k 0 (-1) 0 0).bind fun t261 => (if t261 = 1 then ((incident_Valid.f k 1 0 0 4).bind fun t262 => (examboardlaw50_awake.j1 k (t262 != 3) x240000 x240001 x240002 x240003 x241000 x241001 x241002 x241003 x242000 x242001 x242002 x242003)) else (examboardlaw50_awake.j1 k true x240000 x240001 x240002 x240003 x241000 x241001 x241002 x241003 x242000 x242001 x242002 x242003))) else (examboardlaw50_awake.j1 k true x240000 x240001 x240002 x240003 x241000 x241001 x241002 x241003 x242000 x242001 x242002 x242003))) else (examboardlaw50_awake.j1 k true x240000 x240001 x240002 x240003 x241000 x241001 x241002 x241003 x242000 x242001 x242002 x242003)) else (examboardlaw50_awake.j1 k true x240000 x240001 x240002 x240003 x241000 x241001 x241002 x241003 x242000 x242001 x242002 x242003))))
def examboardlaw50_awake.j1 : Nat → Bool → Int → Int → Int → Int → Int → Int → Int → Int → Int → Int → Int → Int → Option (Bool)
  | 0, _, _, _, _, _, _, _, _, _, _, _, _, _ => none
  | k + 1, x71, x240000, x240001, x240002, x240003, x241000, x241001, x241002, x241003, x242000, x242001, x242002, x242003 => if x71 = true then (some false) else ((incident_Merge.f k (([(⟨x242000, x242001, x242002, x242003⟩ : S23), (⟨x241000, x241001, x241002, x241003⟩ : S23)] : List (S23))) (([(⟨x242000, x242001, x242002, x242003⟩ : S23), (⟨x240000, x240001, x240002, x240003⟩ : S23)] : List (S23)))).bind fun bt269 => (if bt269.2 = 0 then ((examboardref50_Same.f k bt269.1 (([(⟨x241000, x241001, x241002, x241003⟩ : S23), (⟨x242000, x242001, x242002, x242003⟩ : S23), (⟨x240000, x240001, x240002, x240003⟩ : S23)] : List (S23)))).bind fun t276 => (examboardlaw50_awake.j2 k bt269.1 (!t276) x241000 x241001 x241002 x241003)) else (examboardlaw50_awake.j2 k bt269.1 true x241000 x241001 x241002 x241003)))
def examboardlaw50_awake.j2 : Nat → List (S23) → Bool → Int → Int → Int → Int → Option (Bool)
  | 0, _, _, _, _, _, _ => none
  | k + 1, x8, x92, x241000, x241001, x241002, x241003 => if x92 = true then (some false) else ((incident_Lost.f k x8 100).bind fun bt277 => ((incident_Lost.f k x8 20).bind fun bt279 => ((incident_Worst.f k x8).bind fun bt281 => ((incident_Hold.f k x8).bind fun bt283 => (if bt277.2 = 0 then (if bt279.2 = 0 then (if bt281.2 = 0 then (if bt283.2 = 0 then (if bt277.1 = 30 then (if bt279.1 = 20 then (if bt281.1 = 2 then (examboardlaw50_awake.j3 k x8 bt283.1 x241000 x241001 x241002 x241003) else (examboardlaw50_awake.j3 k x8 true x241000 x241001 x241002 x241003)) else (examboardlaw50_awake.j3 k x8 true x241000 x241001 x241002 x241003)) else (examboardlaw50_awake.j3 k x8 true x241000 x241001 x241002 x241003)) else (examboardlaw50_awake.j3 k x8 true x241000 x241001 x241002 x241003)) else (examboardlaw50_awake.j3 k x8 true x241000 x241001 x241002 x241003)) else (examboardlaw50_awake.j3 k x8 true x241000 x241001 x241002 x241003)) else (examboardlaw50_awake.j3 k x8 true x241000 x241001 x241002 x241003))))))
def examboardlaw50_awake.j3 : Nat → List (S23) → Bool → Int → Int → Int → Int → Option (Bool)
  | 0, _, _, _, _, _, _ => none
  | k + 1, x8, x141, x241000, x241001, x241002, x241003 => if x141 = true then (some false) else ((incident_Hold.f k (([(⟨x241000, x241001, x241002, x241003⟩ : S23), (⟨x241000, x241001, x241002, x241003⟩ : S23)] : List (S23)))).bind fun bt288 => ((incident_Counts.f k x8).bind fun bt290 => (if bt288.2 = 0 then (if bt290.2 = 0 then (if bt288.1 = true then ((examboardref13_SameInts.f k bt290.1 (([1, 0, 1, 1, 0, 0] : List Int))).bind fun t297 => (some t297)) else (some false)) else (some false)) else (some false))))
end
def examboardlaw50_awake.f (k : Nat)  : Option (Bool) := (incident_Print.f k 1 120 30 1).bind fun bt242 => ((incident_Parse.f k (⟨#[112, 111, 119, 101, 114, 32, 97, 116, 32, 49, 50, 48, 32, 108, 111, 115, 116, 32, 51, 48, 32, 103, 114, 97, 118, 101, 32, 49]⟩ : ByteArray)).bind fun bt244 => (if bt242.2 = 0 then (if bt244.2.2.2.2 = 0 then (if bt242.1.toList = ([112, 111, 119, 101, 114, 32, 97, 116, 32, 49, 50, 48, 32, 108, 111, 115, 116, 32, 51, 48, 32, 103, 114, 97, 118, 101, 32, 49] : List UInt8) then (examboardlaw50_awake.j0 k (!(bt244.1 == 1) || (!(bt244.2.1 == 120) || (!(bt244.2.2.1 == 30) || (!(bt244.2.2.2.1 == 1))))) 1 120 30 1 4 2 50 2 3 5 0 0) else (examboardlaw50_awake.j0 k true 1 120 30 1 4 2 50 2 3 5 0 0)) else (examboardlaw50_awake.j0 k true 1 120 30 1 4 2 50 2 3 5 0 0)) else (examboardlaw50_awake.j0 k true 1 120 30 1 4 2 50 2 3 5 0 0)))
theorem aw0 {k : Nat} {a b c d e f g h i j l m : Int} {r : Bool} (H : examboardlaw50_awake.j0 k true a b c d e f g h i j l m = some r) : r = false := by
  cases k with
  | zero => rw [examboardlaw50_awake.j0] at H; cases H
  | succ k => rw [examboardlaw50_awake.j0, if_pos rfl] at H; exact (Option.some.inj H).symm
theorem aw1 {k : Nat} {a b c d e f g h i j l m : Int} {r : Bool} (H : examboardlaw50_awake.j1 k true a b c d e f g h i j l m = some r) : r = false := by
  cases k with
  | zero => rw [examboardlaw50_awake.j1] at H; cases H
  | succ k => rw [examboardlaw50_awake.j1, if_pos rfl] at H; exact (Option.some.inj H).symm
theorem aw2 {k : Nat} {x : List S23} {a b c d : Int} {r : Bool} (H : examboardlaw50_awake.j2 k x true a b c d = some r) : r = false := by
  cases k with
  | zero => rw [examboardlaw50_awake.j2] at H; cases H
  | succ k => rw [examboardlaw50_awake.j2, if_pos rfl] at H; exact (Option.some.inj H).symm
theorem aw3 {k : Nat} {x : List S23} {a b c d : Int} {r : Bool} (H : examboardlaw50_awake.j3 k x true a b c d = some r) : r = false := by
  cases k with
  | zero => rw [examboardlaw50_awake.j3] at H; cases H
  | succ k => rw [examboardlaw50_awake.j3, if_pos rfl] at H; exact (Option.some.inj H).symm
set_option maxHeartbeats 8000000 in
set_option maxRecDepth 100000 in
theorem examboardlaw50_awake.calls (k : Nat)  (r : Bool) (w : World) (h : examboardlaw50_awake.f k  = some r) (hG : GW w) (hr : r = true) :
    Calls Tryd.prog 15 #[] w fun e w' => e = .returned (.bool r) ∧ Below w.heap.size w w' := by
  have hu23 := Tryd.underlying23
  have HB := Aside0.mk (Below.refl w.heap.size w)
  have H : ((incident_Print.f k 1 120 30 1).bind fun bt242 => ((incident_Parse.f k (⟨#[112, 111, 119, 101, 114, 32, 97, 116, 32, 49, 50, 48, 32, 108, 111, 115, 116, 32, 51, 48, 32, 103, 114, 97, 118, 101, 32, 49]⟩ : ByteArray)).bind fun bt244 => (if bt242.2 = 0 then (if bt244.2.2.2.2 = 0 then (if bt242.1.toList = ([112, 111, 119, 101, 114, 32, 97, 116, 32, 49, 50, 48, 32, 108, 111, 115, 116, 32, 51, 48, 32, 103, 114, 97, 118, 101, 32, 49] : List UInt8) then (examboardlaw50_awake.j0 k (!(bt244.1 == 1) || (!(bt244.2.1 == 120) || (!(bt244.2.2.1 == 30) || (!(bt244.2.2.2.1 == 1))))) 1 120 30 1 4 2 50 2 3 5 0 0) else (examboardlaw50_awake.j0 k true 1 120 30 1 4 2 50 2 3 5 0 0)) else (examboardlaw50_awake.j0 k true 1 120 30 1 4 2 50 2 3 5 0 0)) else (examboardlaw50_awake.j0 k true 1 120 30 1 4 2 50 2 3 5 0 0)))) = some r := h
  clear h
  replace H := Option.bind_eq_some_iff.mp H
  obtain ⟨⟨t242, t243⟩, A10, H⟩ := H
  replace H : ((incident_Parse.f k (⟨#[112, 111, 119, 101, 114, 32, 97, 116, 32, 49, 50, 48, 32, 108, 111, 115, 116, 32, 51, 48, 32, 103, 114, 97, 118, 101, 32, 49]⟩ : ByteArray)).bind fun bt244 => (if t243 = 0 then (if bt244.2.2.2.2 = 0 then (if t242.toList = ([112, 111, 119, 101, 114, 32, 97, 116, 32, 49, 50, 48, 32, 108, 111, 115, 116, 32, 51, 48, 32, 103, 114, 97, 118, 101, 32, 49] : List UInt8) then (examboardlaw50_awake.j0 k (!(bt244.1 == 1) || (!(bt244.2.1 == 120) || (!(bt244.2.2.1 == 30) || (!(bt244.2.2.2.1 == 1))))) 1 120 30 1 4 2 50 2 3 5 0 0) else (examboardlaw50_awake.j0 k true 1 120 30 1 4 2 50 2 3 5 0 0)) else (examboardlaw50_awake.j0 k true 1 120 30 1 4 2 50 2 3 5 0 0)) else (examboardlaw50_awake.j0 k true 1 120 30 1 4 2 50 2 3 5 0 0))) = some r := H
  have A1 := Aside0.mk A10
  clear A10
  replace H := Option.bind_eq_some_iff.mp H
  obtain ⟨⟨t244, t245, t246, t247, t248⟩, A20, H⟩ := H
  replace H : (if t243 = 0 then (if t248 = 0 then (if t242.toList = ([112, 111, 119, 101, 114, 32, 97, 116, 32, 49, 50, 48, 32, 108, 111, 115, 116, 32, 51, 48, 32, 103, 114, 97, 118, 101, 32, 49] : List UInt8) then (examboardlaw50_awake.j0 k (!(t244 == 1) || (!(t245 == 120) || (!(t246 == 30) || (!(t247 == 1))))) 1 120 30 1 4 2 50 2 3 5 0 0) else (examboardlaw50_awake.j0 k true 1 120 30 1 4 2 50 2 3 5 0 0)) else (examboardlaw50_awake.j0 k true 1 120 30 1 4 2 50 2 3 5 0 0)) else (examboardlaw50_awake.j0 k true 1 120 30 1 4 2 50 2 3 5 0 0)) = some r := H
  have A2 := Aside0.mk A20
  clear A20
  have HC3 := Aside0.mk H
  clear H
  go_enter Tryd.func15, Tryd.ntmps15
  go_upto_region 6 with (first | ((with_reducible refine gate_dst (N := 1) rfl ?_); (try (refine gate_guard (by rfl) ?_; dsimp only)); refine box_event ?hg (N := 1) ?hd (cs := #[.int .i64 0, .int .i64 0, .int .i64 0, .int .i64 0]) (t := 23) ?hr ?_; (case hd => rfl); (case hg => rfl); (case hr => first | (go_simp; done) | (go_simp; rfl)); intro gb239 hg w4 hbox hb; have n0_ := Aside0.mk (below_step (by repeat (first | (with_reducible first | exact HB.out | apply below_alloc | apply pw_below_drewN | apply below_drew1) | exact HB.out)) hb); have n1_ := Aside0.mk (hbox); have n2_ := Aside0.mk ((by rw [hg]; exact (below_size (by repeat (first | (with_reducible first | exact HB.out | apply below_alloc | apply pw_below_drewN | apply below_drew1) | exact HB.out))) : w.heap.size ≤ gb239)); have n3_ := Aside0.mk ((by rw [hg]; exact (below_size (by repeat (first | (with_reducible first | exact HB.out | apply below_alloc | apply pw_below_drewN | apply below_drew1) | exact HB.out))) : w.heap.size ≤ gb239)); clear HB; have HB := n0_; have BK239 := n1_; have GW239 := n2_; have GE239 := n3_; clear n0_ n1_ n2_ n3_; clear hb hbox hg; have hcz5_0 : w4.cell? ⟨gb239, 0, none⟩ = some (.int .i64 0) := (blk_cell BK239.out 0).trans rfl; have hcz5_1 : w4.cell? ⟨gb239, 1, none⟩ = some (.int .i64 0) := (blk_cell BK239.out 1).trans rfl; have hcz5_2 : w4.cell? ⟨gb239, 2, none⟩ = some (.int .i64 0) := (blk_cell BK239.out 2).trans rfl; have hcz5_3 : w4.cell? ⟨gb239, 3, none⟩ = some (.int .i64 0) := (blk_cell BK239.out 3).trans rfl; have hfz5_0 := blk_frozen BK239.out 0; have hfz5_1 := blk_frozen BK239.out 1; have hfz5_2 := blk_frozen BK239.out 2; have hfz5_3 := blk_frozen BK239.out 3) | ((with_reducible refine gate_dst (N := 2) rfl ?_); (try (refine gate_guard (by rfl) ?_; dsimp only)); refine box_event ?hg (N := 2) ?hd (cs := #[.int .i64 0, .int .i64 0, .int .i64 0, .int .i64 0]) (t := 23) ?hr ?_; (case hd => rfl); (case hg => rfl); (case hr => first | (go_simp; done) | (go_simp; rfl)); intro gb240 hg w6 hbox hb; have n0_ := Aside0.mk (blk_below (g := gb239) (o := .cells #[.int .i64 1, .int .i64 120, .int .i64 30, .int .i64 1] 23 (0, 0)) (by (with_reducible repeat (first | refine blk_drewN ?_ _ | refine blk_drew ?_ | refine blk_alloc ?_ _)); refine blk_put (cs := #[.int .i64 1, .int .i64 120, .int .i64 30, .int .i64 0]) ?_ 3 _ rfl; (with_reducible repeat (first | refine blk_drewN ?_ _ | refine blk_drew ?_ | refine blk_alloc ?_ _)); refine blk_put (cs := #[.int .i64 1, .int .i64 120, .int .i64 0, .int .i64 0]) ?_ 2 _ rfl; (with_reducible repeat (first | refine blk_drewN ?_ _ | refine blk_drew ?_ | refine blk_alloc ?_ _)); refine blk_put (cs := #[.int .i64 1, .int .i64 0, .int .i64 0, .int .i64 0]) ?_ 1 _ rfl; (with_reducible repeat (first | refine blk_drewN ?_ _ | refine blk_drew ?_ | refine blk_alloc ?_ _)); refine blk_put (cs := #[.int .i64 0, .int .i64 0, .int .i64 0, .int .i64 0]) ?_ 0 _ rfl; (with_reducible repeat (first | refine blk_drewN ?_ _ | refine blk_drew ?_ | refine blk_alloc ?_ _)); exact BK239.out) hb); have n1_ := Aside0.mk (below_step (by repeat (first | (with_reducible first | exact HB.out | apply below_alloc | apply pw_below_drewN | apply below_drew1 | refine below_set ?_ GE239.out) | exact HB.out)) hb); have n2_ := Aside0.mk (hbox); have n3_ := Aside0.mk ((by rw [hg]; exact (below_size (by repeat (first | (with_reducible first | exact HB.out | apply below_alloc | apply pw_below_drewN | apply below_drew1 | refine below_set ?_ GE239.out) | exact HB.out))) : w.heap.size ≤ gb240)); have n4_ := Aside0.mk ((by rw [hg]; exact (below_size (by repeat (first | (with_reducible first | exact HB.out | apply below_alloc | apply pw_below_drewN | apply below_drew1 | refine below_set ?_ GE239.out) | exact HB.out))) : w.heap.size ≤ gb240)); have n5_ := Aside0.mk ((by rw [hg]; exact Nat.ne_of_lt (blk_lt (g := gb239) (o := .cells #[.int .i64 1, .int .i64 120, .int .i64 30, .int .i64 1] 23 (0, 0)) (by (with_reducible repeat (first | refine blk_drewN ?_ _ | refine blk_drew ?_ | refine blk_alloc ?_ _)); refine blk_put (cs := #[.int .i64 1, .int .i64 120, .int .i64 30, .int .i64 0]) ?_ 3 _ rfl; (with_reducible repeat (first | refine blk_drewN ?_ _ | refine blk_drew ?_ | refine blk_alloc ?_ _)); refine blk_put (cs := #[.int .i64 1, .int .i64 120, .int .i64 0, .int .i64 0]) ?_ 2 _ rfl; (with_reducible repeat (first | refine blk_drewN ?_ _ | refine blk_drew ?_ | refine blk_alloc ?_ _)); refine blk_put (cs := #[.int .i64 1, .int .i64 0, .int .i64 0, .int .i64 0]) ?_ 1 _ rfl; (with_reducible repeat (first | refine blk_drewN ?_ _ | refine blk_drew ?_ | refine blk_alloc ?_ _)); refine blk_put (cs := #[.int .i64 0, .int .i64 0, .int .i64 0, .int .i64 0]) ?_ 0 _ rfl; (with_reducible repeat (first | refine blk_drewN ?_ _ | refine blk_drew ?_ | refine blk_alloc ?_ _)); exact BK239.out)) : gb239 ≠ gb240)); have n6_ := Aside0.mk ((by rw [hg]; exact Nat.ne_of_gt (blk_lt (g := gb239) (o := .cells #[.int .i64 1, .int .i64 120, .int .i64 30, .int .i64 1] 23 (0, 0)) (by (with_reducible repeat (first | refine blk_drewN ?_ _ | refine blk_drew ?_ | refine blk_alloc ?_ _)); refine blk_put (cs := #[.int .i64 1, .int .i64 120, .int .i64 30, .int .i64 0]) ?_ 3 _ rfl; (with_reducible repeat (first | refine blk_drewN ?_ _ | refine blk_drew ?_ | refine blk_alloc ?_ _)); refine blk_put (cs := #[.int .i64 1, .int .i64 120, .int .i64 0, .int .i64 0]) ?_ 2 _ rfl; (with_reducible repeat (first | refine blk_drewN ?_ _ | refine blk_drew ?_ | refine blk_alloc ?_ _)); refine blk_put (cs := #[.int .i64 1, .int .i64 0, .int .i64 0, .int .i64 0]) ?_ 1 _ rfl; (with_reducible repeat (first | refine blk_drewN ?_ _ | refine blk_drew ?_ | refine blk_alloc ?_ _)); refine blk_put (cs := #[.int .i64 0, .int .i64 0, .int .i64 0, .int .i64 0]) ?_ 0 _ rfl; (with_reducible repeat (first | refine blk_drewN ?_ _ | refine blk_drew ?_ | refine blk_alloc ?_ _)); exact BK239.out)) : gb240 ≠ gb239)); clear BK239; clear HB; have BK239 := n0_; have HB := n1_; have BK240 := n2_; have GW240 := n3_; have GE240 := n4_; have NB239_240 := n5_; have NB240_239 := n6_; clear n0_ n1_ n2_ n3_ n4_ n5_ n6_; clear hb hbox hg; have hnb7 := NB240_239.out; have hnc7 := NB239_240.out; have hcz8_0 : w6.cell? ⟨gb240, 0, none⟩ = some (.int .i64 0) := (blk_cell BK240.out 0).trans rfl; have hcz8_1 : w6.cell? ⟨gb240, 1, none⟩ = some (.int .i64 0) := (blk_cell BK240.out 1).trans rfl; have hcz8_2 : w6.cell? ⟨gb240, 2, none⟩ = some (.int .i64 0) := (blk_cell BK240.out 2).trans rfl; have hcz8_3 : w6.cell? ⟨gb240, 3, none⟩ = some (.int .i64 0) := (blk_cell BK240.out 3).trans rfl; have hfz8_0 := blk_frozen BK240.out 0; have hfz8_1 := blk_frozen BK240.out 1; have hfz8_2 := blk_frozen BK240.out 2; have hfz8_3 := blk_frozen BK240.out 3) | ((with_reducible refine gate_dst (N := 3) rfl ?_); (try (refine gate_guard (by rfl) ?_; dsimp only)); refine box_event ?hg (N := 3) ?hd (cs := #[.int .i64 0, .int .i64 0, .int .i64 0, .int .i64 0]) (t := 23) ?hr ?_; (case hd => rfl); (case hg => rfl); (case hr => first | (go_simp; done) | (go_simp; rfl)); intro gb241 hg w9 hbox hb; have n0_ := Aside0.mk (blk_below (g := gb239) (o := .cells #[.int .i64 1, .int .i64 120, .int .i64 30, .int .i64 1] 23 (0, 0)) (by (with_reducible repeat (first | refine blk_drewN ?_ _ | refine blk_drew ?_ | refine blk_alloc ?_ _)); refine blk_far ?_ NB239_240.out _; (with_reducible repeat (first | refine blk_drewN ?_ _ | refine blk_drew ?_ | refine blk_alloc ?_ _)); refine blk_far ?_ NB239_240.out _; (with_reducible repeat (first | refine blk_drewN ?_ _ | refine blk_drew ?_ | refine blk_alloc ?_ _)); refine blk_far ?_ NB239_240.out _; (with_reducible repeat (first | refine blk_drewN ?_ _ | refine blk_drew ?_ | refine blk_alloc ?_ _)); refine blk_far ?_ NB239_240.out _; (with_reducible repeat (first | refine blk_drewN ?_ _ | refine blk_drew ?_ | refine blk_alloc ?_ _)); exact BK239.out) hb); have n1_ := Aside0.mk (blk_below (g := gb240) (o := .cells #[.int .i64 4, .int .i64 2, .int .i64 50, .int .i64 2] 23 (0, 0)) (by (with_reducible repeat (first | refine blk_drewN ?_ _ | refine blk_drew ?_ | refine blk_alloc ?_ _)); refine blk_put (cs := #[.int .i64 4, .int .i64 2, .int .i64 50, .int .i64 0]) ?_ 3 _ rfl; (with_reducible repeat (first | refine blk_drewN ?_ _ | refine blk_drew ?_ | refine blk_alloc ?_ _)); refine blk_put (cs := #[.int .i64 4, .int .i64 2, .int .i64 0, .int .i64 0]) ?_ 2 _ rfl; (with_reducible repeat (first | refine blk_drewN ?_ _ | refine blk_drew ?_ | refine blk_alloc ?_ _)); refine blk_put (cs := #[.int .i64 4, .int .i64 0, .int .i64 0, .int .i64 0]) ?_ 1 _ rfl; (with_reducible repeat (first | refine blk_drewN ?_ _ | refine blk_drew ?_ | refine blk_alloc ?_ _)); refine blk_put (cs := #[.int .i64 0, .int .i64 0, .int .i64 0, .int .i64 0]) ?_ 0 _ rfl; (with_reducible repeat (first | refine blk_drewN ?_ _ | refine blk_drew ?_ | refine blk_alloc ?_ _)); exact BK240.out) hb); have n2_ := Aside0.mk (below_step (by repeat (first | (with_reducible first | exact HB.out | apply below_alloc | apply pw_below_drewN | apply below_drew1 | refine below_set ?_ GE239.out | refine below_set ?_ GE240.out) | exact HB.out)) hb); have n3_ := Aside0.mk (hbox); have n4_ := Aside0.mk ((by rw [hg]; exact (below_size (by repeat (first | (with_reducible first | exact HB.out | apply below_alloc | apply pw_below_drewN | apply below_drew1 | refine below_set ?_ GE239.out | refine below_set ?_ GE240.out) | exact HB.out))) : w.heap.size ≤ gb241)); have n5_ := Aside0.mk ((by rw [hg]; exact (below_size (by repeat (first | (with_reducible first | exact HB.out | apply below_alloc | apply pw_below_drewN | apply below_drew1 | refine below_set ?_ GE239.out | refine below_set ?_ GE240.out) | exact HB.out))) : w.heap.size ≤ gb241)); have n6_ := Aside0.mk ((by rw [hg]; exact Nat.ne_of_lt (blk_lt (g := gb239) (o := .cells #[.int .i64 1, .int .i64 120, .int .i64 30, .int .i64 1] 23 (0, 0)) (by (with_reducible repeat (first | refine blk_drewN ?_ _ | refine blk_drew ?_ | refine blk_alloc ?_ _)); refine blk_far ?_ NB239_240.out _; (with_reducible repeat (first | refine blk_drewN ?_ _ | refine blk_drew ?_ | refine blk_alloc ?_ _)); refine blk_far ?_ NB239_240.out _; (with_reducible repeat (first | refine blk_drewN ?_ _ | refine blk_drew ?_ | refine blk_alloc ?_ _)); refine blk_far ?_ NB239_240.out _; (with_reducible repeat (first | refine blk_drewN ?_ _ | refine blk_drew ?_ | refine blk_alloc ?_ _)); refine blk_far ?_ NB239_240.out _; (with_reducible repeat (first | refine blk_drewN ?_ _ | refine blk_drew ?_ | refine blk_alloc ?_ _)); exact BK239.out)) : gb239 ≠ gb241)); have n7_ := Aside0.mk ((by rw [hg]; exact Nat.ne_of_gt (blk_lt (g := gb239) (o := .cells #[.int .i64 1, .int .i64 120, .int .i64 30, .int .i64 1] 23 (0, 0)) (by (with_reducible repeat (first | refine blk_drewN ?_ _ | refine blk_drew ?_ | refine blk_alloc ?_ _)); refine blk_far ?_ NB239_240.out _; (with_reducible repeat (first | refine blk_drewN ?_ _ | refine blk_drew ?_ | refine blk_alloc ?_ _)); refine blk_far ?_ NB239_240.out _; (with_reducible repeat (first | refine blk_drewN ?_ _ | refine blk_drew ?_ | refine blk_alloc ?_ _)); refine blk_far ?_ NB239_240.out _; (with_reducible repeat (first | refine blk_drewN ?_ _ | refine blk_drew ?_ | refine blk_alloc ?_ _)); refine blk_far ?_ NB239_240.out _; (with_reducible repeat (first | refine blk_drewN ?_ _ | refine blk_drew ?_ | refine blk_alloc ?_ _)); exact BK239.out)) : gb241 ≠ gb239)); have n8_ := Aside0.mk ((by rw [hg]; exact Nat.ne_of_lt (blk_lt (g := gb240) (o := .cells #[.int .i64 4, .int .i64 2, .int .i64 50, .int .i64 2] 23 (0, 0)) (by (with_reducible repeat (first | refine blk_drewN ?_ _ | refine blk_drew ?_ | refine blk_alloc ?_ _)); refine blk_put (cs := #[.int .i64 4, .int .i64 2, .int .i64 50, .int .i64 0]) ?_ 3 _ rfl; (with_reducible repeat (first | refine blk_drewN ?_ _ | refine blk_drew ?_ | refine blk_alloc ?_ _)); refine blk_put (cs := #[.int .i64 4, .int .i64 2, .int .i64 0, .int .i64 0]) ?_ 2 _ rfl; (with_reducible repeat (first | refine blk_drewN ?_ _ | refine blk_drew ?_ | refine blk_alloc ?_ _)); refine blk_put (cs := #[.int .i64 4, .int .i64 0, .int .i64 0, .int .i64 0]) ?_ 1 _ rfl; (with_reducible repeat (first | refine blk_drewN ?_ _ | refine blk_drew ?_ | refine blk_alloc ?_ _)); refine blk_put (cs := #[.int .i64 0, .int .i64 0, .int .i64 0, .int .i64 0]) ?_ 0 _ rfl; (with_reducible repeat (first | refine blk_drewN ?_ _ | refine blk_drew ?_ | refine blk_alloc ?_ _)); exact BK240.out)) : gb240 ≠ gb241)); have n9_ := Aside0.mk ((by rw [hg]; exact Nat.ne_of_gt (blk_lt (g := gb240) (o := .cells #[.int .i64 4, .int .i64 2, .int .i64 50, .int .i64 2] 23 (0, 0)) (by (with_reducible repeat (first | refine blk_drewN ?_ _ | refine blk_drew ?_ | refine blk_alloc ?_ _)); refine blk_put (cs := #[.int .i64 4, .int .i64 2, .int .i64 50, .int .i64 0]) ?_ 3 _ rfl; (with_reducible repeat (first | refine blk_drewN ?_ _ | refine blk_drew ?_ | refine blk_alloc ?_ _)); refine blk_put (cs := #[.int .i64 4, .int .i64 2, .int .i64 0, .int .i64 0]) ?_ 2 _ rfl; (with_reducible repeat (first | refine blk_drewN ?_ _ | refine blk_drew ?_ | refine blk_alloc ?_ _)); refine blk_put (cs := #[.int .i64 4, .int .i64 0, .int .i64 0, .int .i64 0]) ?_ 1 _ rfl; (with_reducible repeat (first | refine blk_drewN ?_ _ | refine blk_drew ?_ | refine blk_alloc ?_ _)); refine blk_put (cs := #[.int .i64 0, .int .i64 0, .int .i64 0, .int .i64 0]) ?_ 0 _ rfl; (with_reducible repeat (first | refine blk_drewN ?_ _ | refine blk_drew ?_ | refine blk_alloc ?_ _)); exact BK240.out)) : gb241 ≠ gb240)); clear BK239; clear BK240; clear HB; have BK239 := n0_; have BK240 := n1_; have HB := n2_; have BK241 := n3_; have GW241 := n4_; have GE241 := n5_; have NB239_241 := n6_; have NB241_239 := n7_; have NB240_241 := n8_; have NB241_240 := n9_; clear n0_ n1_ n2_ n3_ n4_ n5_ n6_ n7_ n8_ n9_; clear hb hbox hg; have hnb10 := NB241_239.out; have hnc10 := NB239_241.out; have hnb11 := NB241_240.out; have hnc11 := NB240_241.out; have hcz12_0 : w9.cell? ⟨gb241, 0, none⟩ = some (.int .i64 0) := (blk_cell BK241.out 0).trans rfl; have hcz12_1 : w9.cell? ⟨gb241, 1, none⟩ = some (.int .i64 0) := (blk_cell BK241.out 1).trans rfl; have hcz12_2 : w9.cell? ⟨gb241, 2, none⟩ = some (.int .i64 0) := (blk_cell BK241.out 2).trans rfl; have hcz12_3 : w9.cell? ⟨gb241, 3, none⟩ = some (.int .i64 0) := (blk_cell BK241.out 3).trans rfl; have hfz12_0 := blk_frozen BK241.out 0; have hfz12_1 := blk_frozen BK241.out 1; have hfz12_2 := blk_frozen BK241.out 2; have hfz12_3 := blk_frozen BK241.out 3; have hcz13_0 : w9.cell? ⟨gb239, 0, none⟩ = some (.int .i64 1) := (blk_cell BK239.out 0).trans rfl; have hcz13_1 : w9.cell? ⟨gb239, 1, none⟩ = some (.int .i64 120) := (blk_cell BK239.out 1).trans rfl; have hcz13_2 : w9.cell? ⟨gb239, 2, none⟩ = some (.int .i64 30) := (blk_cell BK239.out 2).trans rfl; have hcz13_3 : w9.cell? ⟨gb239, 3, none⟩ = some (.int .i64 1) := (blk_cell BK239.out 3).trans rfl; have hfz13_0 := blk_frozen BK239.out 0; have hfz13_1 := blk_frozen BK239.out 1; have hfz13_2 := blk_frozen BK239.out 2; have hfz13_3 := blk_frozen BK239.out 3) | ((with_reducible refine gate_callee (f := 25) rfl ?_); refine goesL_ (some 21) rfl rfl Tryd.func25 (by kernel_rfl) rfl #[.agg #[.int .i64 1, .int .i64 120, .int .i64 30, .int .i64 1]] rfl (by (try simp only [List.map_toArray, List.map_cons, List.map_nil]); first | done | rfl | (simp only [List.length_drop, List.length_take]; rfl)) ?_; (with_reducible refine (incident_Print.calls k 1 120 30 1 t242 t243 _ A1.out (hG.below (by repeat (first | (with_reducible first | exact HB.out | apply below_alloc | apply pw_below_drewN | apply below_drew1 | refine below_set ?_ GE239.out | refine below_set ?_ GE240.out | refine below_set ?_ GE241.out) | exact HB.out)))).mono ?_); rintro e w14 ⟨rfl, hb⟩; refine ⟨_, rfl, ?_⟩; have n0_ := Aside0.mk (blk_below (g := gb239) (o := .cells #[.int .i64 1, .int .i64 120, .int .i64 30, .int .i64 1] 23 (0, 0)) (by (with_reducible repeat (first | refine blk_drewN ?_ _ | refine blk_drew ?_ | refine blk_alloc ?_ _)); refine blk_far ?_ NB239_241.out _; (with_reducible repeat (first | refine blk_drewN ?_ _ | refine blk_drew ?_ | refine blk_alloc ?_ _)); refine blk_far ?_ NB239_241.out _; (with_reducible repeat (first | refine blk_drewN ?_ _ | refine blk_drew ?_ | refine blk_alloc ?_ _)); refine blk_far ?_ NB239_241.out _; (with_reducible repeat (first | refine blk_drewN ?_ _ | refine blk_drew ?_ | refine blk_alloc ?_ _)); refine blk_far ?_ NB239_241.out _; (with_reducible repeat (first | refine blk_drewN ?_ _ | refine blk_drew ?_ | refine blk_alloc ?_ _)); exact BK239.out) hb); have n1_ := Aside0.mk (blk_below (g := gb240) (o := .cells #[.int .i64 4, .int .i64 2, .int .i64 50, .int .i64 2] 23 (0, 0)) (by (with_reducible repeat (first | refine blk_drewN ?_ _ | refine blk_drew ?_ | refine blk_alloc ?_ _)); refine blk_far ?_ NB240_241.out _; (with_reducible repeat (first | refine blk_drewN ?_ _ | refine blk_drew ?_ | refine blk_alloc ?_ _)); refine blk_far ?_ NB240_241.out _; (with_reducible repeat (first | refine blk_drewN ?_ _ | refine blk_drew ?_ | refine blk_alloc ?_ _)); refine blk_far ?_ NB240_241.out _; (with_reducible repeat (first | refine blk_drewN ?_ _ | refine blk_drew ?_ | refine blk_alloc ?_ _)); refine blk_far ?_ NB240_241.out _; (with_reducible repeat (first | refine blk_drewN ?_ _ | refine blk_drew ?_ | refine blk_alloc ?_ _)); exact BK240.out) hb); have n2_ := Aside0.mk (blk_below (g := gb241) (o := .cells #[.int .i64 3, .int .i64 5, .int .i64 0, .int .i64 0] 23 (0, 0)) (by (with_reducible repeat (first | refine blk_drewN ?_ _ | refine blk_drew ?_ | refine blk_alloc ?_ _)); refine blk_put (cs := #[.int .i64 3, .int .i64 5, .int .i64 0, .int .i64 0]) ?_ 3 _ rfl; (with_reducible repeat (first | refine blk_drewN ?_ _ | refine blk_drew ?_ | refine blk_alloc ?_ _)); refine blk_put (cs := #[.int .i64 3, .int .i64 5, .int .i64 0, .int .i64 0]) ?_ 2 _ rfl; (with_reducible repeat (first | refine blk_drewN ?_ _ | refine blk_drew ?_ | refine blk_alloc ?_ _)); refine blk_put (cs := #[.int .i64 3, .int .i64 0, .int .i64 0, .int .i64 0]) ?_ 1 _ rfl; (with_reducible repeat (first | refine blk_drewN ?_ _ | refine blk_drew ?_ | refine blk_alloc ?_ _)); refine blk_put (cs := #[.int .i64 0, .int .i64 0, .int .i64 0, .int .i64 0]) ?_ 0 _ rfl; (with_reducible repeat (first | refine blk_drewN ?_ _ | refine blk_drew ?_ | refine blk_alloc ?_ _)); exact BK241.out) hb); have n3_ := Aside0.mk (below_step (by repeat (first | (with_reducible first | exact HB.out | apply below_alloc | apply pw_below_drewN | apply below_drew1 | refine below_set ?_ GE239.out | refine below_set ?_ GE240.out | refine below_set ?_ GE241.out) | exact HB.out)) hb); clear BK239; clear BK240; clear BK241; clear HB; have BK239 := n0_; have BK240 := n1_; have BK241 := n2_; have HB := n3_; clear n0_ n1_ n2_ n3_; (try clear hb); (try clear hb2); (try clear hk); (try clear hi)) | ((with_reducible refine gate_callee (f := 27) rfl ?_); refine goesL_ (some 25) rfl rfl Tryd.func27 (by kernel_rfl) rfl #[.string (⟨#[112, 111, 119, 101, 114, 32, 97, 116, 32, 49, 50, 48, 32, 108, 111, 115, 116, 32, 51, 48, 32, 103, 114, 97, 118, 101, 32, 49]⟩ : ByteArray)] rfl (by (try simp only [List.map_toArray, List.map_cons, List.map_nil]); first | done | rfl | (simp only [List.length_drop, List.length_take]; rfl)) ?_; (with_reducible refine (incident_Parse.calls k (⟨#[112, 111, 119, 101, 114, 32, 97, 116, 32, 49, 50, 48, 32, 108, 111, 115, 116, 32, 51, 48, 32, 103, 114, 97, 118, 101, 32, 49]⟩ : ByteArray) t244 t245 t246 t247 t248 _ A2.out (hG.below (by repeat (first | (with_reducible first | exact HB.out | apply below_alloc | apply pw_below_drewN | apply below_drew1 | refine below_set ?_ GE239.out | refine below_set ?_ GE240.out | refine below_set ?_ GE241.out) | exact HB.out)))).mono ?_); rintro e w15 ⟨rfl, hb⟩; refine ⟨_, rfl, ?_⟩; have n0_ := Aside0.mk (blk_below (g := gb239) (o := .cells #[.int .i64 1, .int .i64 120, .int .i64 30, .int .i64 1] 23 (0, 0)) (by (with_reducible repeat (first | refine blk_drewN ?_ _ | refine blk_drew ?_ | refine blk_alloc ?_ _)); exact BK239.out) hb); have n1_ := Aside0.mk (blk_below (g := gb240) (o := .cells #[.int .i64 4, .int .i64 2, .int .i64 50, .int .i64 2] 23 (0, 0)) (by (with_reducible repeat (first | refine blk_drewN ?_ _ | refine blk_drew ?_ | refine blk_alloc ?_ _)); exact BK240.out) hb); have n2_ := Aside0.mk (blk_below (g := gb241) (o := .cells #[.int .i64 3, .int .i64 5, .int .i64 0, .int .i64 0] 23 (0, 0)) (by (with_reducible repeat (first | refine blk_drewN ?_ _ | refine blk_drew ?_ | refine blk_alloc ?_ _)); exact BK241.out) hb); have n3_ := Aside0.mk (below_step (by repeat (first | (with_reducible first | exact HB.out | apply below_alloc | apply pw_below_drewN | apply below_drew1 | refine below_set ?_ GE239.out | refine below_set ?_ GE240.out | refine below_set ?_ GE241.out) | exact HB.out)) hb); clear BK239; clear BK240; clear BK241; clear HB; have BK239 := n0_; have BK240 := n1_; have BK241 := n2_; have HB := n3_; clear n0_ n1_ n2_ n3_; (try clear hb); (try clear hb2); (try clear hk); (try clear hi)) | ((with_reducible refine gate_dst (N := 6) rfl ?_); (try (refine gate_guard (by rfl) ?_; dsimp only)); refine box_event ?hg (N := 6) ?hd (cs := #[.int .i64 0, .int .i64 0, .int .i64 0, .int .i64 0]) (t := 23) ?hr ?_; (case hd => rfl); (case hg => rfl); (case hr => first | (go_simp; done) | (go_simp; rfl)); intro gb249 hg w16 hbox hb; have n0_ := Aside0.mk (blk_below (g := gb239) (o := .cells #[.int .i64 1, .int .i64 120, .int .i64 30, .int .i64 1] 23 (0, 0)) (by (with_reducible repeat (first | refine blk_drewN ?_ _ | refine blk_drew ?_ | refine blk_alloc ?_ _)); exact BK239.out) hb); have n1_ := Aside0.mk (blk_below (g := gb240) (o := .cells #[.int .i64 4, .int .i64 2, .int .i64 50, .int .i64 2] 23 (0, 0)) (by (with_reducible repeat (first | refine blk_drewN ?_ _ | refine blk_drew ?_ | refine blk_alloc ?_ _)); exact BK240.out) hb); have n2_ := Aside0.mk (blk_below (g := gb241) (o := .cells #[.int .i64 3, .int .i64 5, .int .i64 0, .int .i64 0] 23 (0, 0)) (by (with_reducible repeat (first | refine blk_drewN ?_ _ | refine blk_drew ?_ | refine blk_alloc ?_ _)); exact BK241.out) hb); have n3_ := Aside0.mk (below_step (by repeat (first | (with_reducible first | exact HB.out | apply below_alloc | apply pw_below_drewN | apply below_drew1 | refine below_set ?_ GE239.out | refine below_set ?_ GE240.out | refine below_set ?_ GE241.out) | exact HB.out)) hb); have n4_ := Aside0.mk (hbox); have n5_ := Aside0.mk ((by rw [hg]; exact (below_size (by repeat (first | (with_reducible first | exact HB.out | apply below_alloc | apply pw_below_drewN | apply below_drew1 | refine below_set ?_ GE239.out | refine below_set ?_ GE240.out | refine below_set ?_ GE241.out) | exact HB.out))) : w.heap.size ≤ gb249)); have n6_ := Aside0.mk ((by rw [hg]; exact (below_size (by repeat (first | (with_reducible first | exact HB.out | apply below_alloc | apply pw_below_drewN | apply below_drew1 | refine below_set ?_ GE239.out | refine below_set ?_ GE240.out | refine below_set ?_ GE241.out) | exact HB.out))) : w.heap.size ≤ gb249)); have n7_ := Aside0.mk ((by rw [hg]; exact Nat.ne_of_lt (blk_lt (g := gb239) (o := .cells #[.int .i64 1, .int .i64 120, .int .i64 30, .int .i64 1] 23 (0, 0)) (by (with_reducible repeat (first | refine blk_drewN ?_ _ | refine blk_drew ?_ | refine blk_alloc ?_ _)); exact BK239.out)) : gb239 ≠ gb249)); have n8_ := Aside0.mk ((by rw [hg]; exact Nat.ne_of_gt (blk_lt (g := gb239) (o := .cells #[.int .i64 1, .int .i64 120, .int .i64 30, .int .i64 1] 23 (0, 0)) (by (with_reducible repeat (first | refine blk_drewN ?_ _ | refine blk_drew ?_ | refine blk_alloc ?_ _)); exact BK239.out)) : gb249 ≠ gb239)); have n9_ := Aside0.mk ((by rw [hg]; exact Nat.ne_of_lt (blk_lt (g := gb240) (o := .cells #[.int .i64 4, .int .i64 2, .int .i64 50, .int .i64 2] 23 (0, 0)) (by (with_reducible repeat (first | refine blk_drewN ?_ _ | refine blk_drew ?_ | refine blk_alloc ?_ _)); exact BK240.out)) : gb240 ≠ gb249)); have n10_ := Aside0.mk ((by rw [hg]; exact Nat.ne_of_gt (blk_lt (g := gb240) (o := .cells #[.int .i64 4, .int .i64 2, .int .i64 50, .int .i64 2] 23 (0, 0)) (by (with_reducible repeat (first | refine blk_drewN ?_ _ | refine blk_drew ?_ | refine blk_alloc ?_ _)); exact BK240.out)) : gb249 ≠ gb240)); have n11_ := Aside0.mk ((by rw [hg]; exact Nat.ne_of_lt (blk_lt (g := gb241) (o := .cells #[.int .i64 3, .int .i64 5, .int .i64 0, .int .i64 0] 23 (0, 0)) (by (with_reducible repeat (first | refine blk_drewN ?_ _ | refine blk_drew ?_ | refine blk_alloc ?_ _)); exact BK241.out)) : gb241 ≠ gb249)); have n12_ := Aside0.mk ((by rw [hg]; exact Nat.ne_of_gt (blk_lt (g := gb241) (o := .cells #[.int .i64 3, .int .i64 5, .int .i64 0, .int .i64 0] 23 (0, 0)) (by (with_reducible repeat (first | refine blk_drewN ?_ _ | refine blk_drew ?_ | refine blk_alloc ?_ _)); exact BK241.out)) : gb249 ≠ gb241)); clear BK239; clear BK240; clear BK241; clear HB; have BK239 := n0_; have BK240 := n1_; have BK241 := n2_; have HB := n3_; have BK249 := n4_; have GW249 := n5_; have GE249 := n6_; have NB239_249 := n7_; have NB249_239 := n8_; have NB240_249 := n9_; have NB249_240 := n10_; have NB241_249 := n11_; have NB249_241 := n12_; clear n0_ n1_ n2_ n3_ n4_ n5_ n6_ n7_ n8_ n9_ n10_ n11_ n12_; clear hb hbox hg; have hnb17 := NB249_239.out; have hnc17 := NB239_249.out; have hnb18 := NB249_240.out; have hnc18 := NB240_249.out; have hnb19 := NB249_241.out; have hnc19 := NB241_249.out; have hcz20_0 : w16.cell? ⟨gb249, 0, none⟩ = some (.int .i64 0) := (blk_cell BK249.out 0).trans rfl; have hcz20_1 : w16.cell? ⟨gb249, 1, none⟩ = some (.int .i64 0) := (blk_cell BK249.out 1).trans rfl; have hcz20_2 : w16.cell? ⟨gb249, 2, none⟩ = some (.int .i64 0) := (blk_cell BK249.out 2).trans rfl; have hcz20_3 : w16.cell? ⟨gb249, 3, none⟩ = some (.int .i64 0) := (blk_cell BK249.out 3).trans rfl; have hfz20_0 := blk_frozen BK249.out 0; have hfz20_1 := blk_frozen BK249.out 1; have hfz20_2 := blk_frozen BK249.out 2; have hfz20_3 := blk_frozen BK249.out 3))
  (try simp only [Act.put, List.setIfInBounds_toArray, List.set_cons_zero, List.set_cons_succ])
  go_cut [42] (fun v42 wc => ∃ (kq : Nat) (x42_2 : Bool), v42 = .bool x42_2 ∧ Aside0 (examboardlaw50_awake.j0 kq x42_2 1 120 30 1 4 2 50 2 3 5 0 0 = some r) ∧ Aside0 (kq ≤ k) ∧ Aside0 (wc.heap[gb239]? = some (.cells #[.int .i64 1, .int .i64 120, .int .i64 30, .int .i64 1] 23 (0, 0))) ∧ Aside0 (wc.heap[gb240]? = some (.cells #[.int .i64 4, .int .i64 2, .int .i64 50, .int .i64 2] 23 (0, 0))) ∧ Aside0 (wc.heap[gb241]? = some (.cells #[.int .i64 3, .int .i64 5, .int .i64 0, .int .i64 0] 23 (0, 0))) ∧ Aside0 (wc.heap[gb249]? = some (.cells #[.int .i64 t244, .int .i64 t245, .int .i64 t246, .int .i64 t247] 23 (0, 0))) ∧ Aside0 (Below w.heap.size w wc))
  case first =>
    have H := HC3.out
    clear HC3
    by_cases c21 : t243 = 0
    · rw [if_pos c21] at H
      have c21b0 : (t243 == 0) = true := beq_iff_eq.mpr c21
      have c21b1 : (t243 != 0) = false := bne_eq_false_iff_eq.mpr c21
      clear c21
      (first | rw [c21b0] | (simp only [i64_w, i32_w]; rw [c21b0]) | skip)
      by_cases c22 : t248 = 0
      · rw [if_pos c22] at H
        have c22b0 : (t248 == 0) = true := beq_iff_eq.mpr c22
        have c22b1 : (t248 != 0) = false := bne_eq_false_iff_eq.mpr c22
        clear c22
        by_cases c23 : t242.toList = ([112, 111, 119, 101, 114, 32, 97, 116, 32, 49, 50, 48, 32, 108, 111, 115, 116, 32, 51, 48, 32, 103, 114, 97, 118, 101, 32, 49] : List UInt8)
        · rw [if_pos c23] at H
          have c23b0 : (t242.toList == ([112, 111, 119, 101, 114, 32, 97, 116, 32, 49, 50, 48, 32, 108, 111, 115, 116, 32, 51, 48, 32, 103, 114, 97, 118, 101, 32, 49] : List UInt8)) = true := beq_iff_eq.mpr c23
          have c23b1 : (t242.toList != ([112, 111, 119, 101, 114, 32, 97, 116, 32, 49, 50, 48, 32, 108, 111, 115, 116, 32, 51, 48, 32, 103, 114, 97, 118, 101, 32, 49] : List UInt8)) = false := bne_eq_false_iff_eq.mpr c23
          clear c23
          have H' := Aside0.mk H
          clear H
          have hnb24 := NB249_239.out
          have hnc24 := NB239_249.out
          have hnb25 := NB249_240.out
          have hnc25 := NB240_249.out
          have hnb26 := NB249_241.out
          have hnc26 := NB241_249.out
          have hcz27_0 : w16.cell? ⟨gb249, 0, none⟩ = some (.int .i64 0) := (blk_cell BK249.out 0).trans rfl
          have hcz27_1 : w16.cell? ⟨gb249, 1, none⟩ = some (.int .i64 0) := (blk_cell BK249.out 1).trans rfl
          have hcz27_2 : w16.cell? ⟨gb249, 2, none⟩ = some (.int .i64 0) := (blk_cell BK249.out 2).trans rfl
          have hcz27_3 : w16.cell? ⟨gb249, 3, none⟩ = some (.int .i64 0) := (blk_cell BK249.out 3).trans rfl
          have hfz27_0 := blk_frozen BK249.out 0
          have hfz27_1 := blk_frozen BK249.out 1
          have hfz27_2 := blk_frozen BK249.out 2
          have hfz27_3 := blk_frozen BK249.out 3
          have hnb28 := NB239_240.out
          have hnc28 := NB240_239.out
          have hnb29 := NB239_241.out
          have hnc29 := NB241_239.out
          have hcz30_0 : w16.cell? ⟨gb239, 0, none⟩ = some (.int .i64 1) := (blk_cell BK239.out 0).trans rfl
          have hcz30_1 : w16.cell? ⟨gb239, 1, none⟩ = some (.int .i64 120) := (blk_cell BK239.out 1).trans rfl
          have hcz30_2 : w16.cell? ⟨gb239, 2, none⟩ = some (.int .i64 30) := (blk_cell BK239.out 2).trans rfl
          have hcz30_3 : w16.cell? ⟨gb239, 3, none⟩ = some (.int .i64 1) := (blk_cell BK239.out 3).trans rfl
          have hfz30_0 := blk_frozen BK239.out 0
          have hfz30_1 := blk_frozen BK239.out 1
          have hfz30_2 := blk_frozen BK239.out 2
          have hfz30_3 := blk_frozen BK239.out 3
          go_wp2
          go_meet
          case rel => exact ⟨_, ((!(t244 == 1) || (!(t245 == 120) || (!(t246 == 30) || (!(t247 == 1)))))), (by first | rfl | (simp; done) | (simp [*]; done)), H', ⟨by first | omega | exact Nat.le_refl _⟩, ⟨by (with_reducible repeat (first | refine blk_drewN ?_ _ | refine blk_drew ?_ | refine blk_alloc ?_ _)); refine blk_far ?_ NB239_249.out _; (with_reducible repeat (first | refine blk_drewN ?_ _ | refine blk_drew ?_ | refine blk_alloc ?_ _)); refine blk_far ?_ NB239_249.out _; (with_reducible repeat (first | refine blk_drewN ?_ _ | refine blk_drew ?_ | refine blk_alloc ?_ _)); refine blk_far ?_ NB239_249.out _; (with_reducible repeat (first | refine blk_drewN ?_ _ | refine blk_drew ?_ | refine blk_alloc ?_ _)); refine blk_far ?_ NB239_249.out _; (with_reducible repeat (first | refine blk_drewN ?_ _ | refine blk_drew ?_ | refine blk_alloc ?_ _)); exact BK239.out⟩, ⟨by (with_reducible repeat (first | refine blk_drewN ?_ _ | refine blk_drew ?_ | refine blk_alloc ?_ _)); refine blk_far ?_ NB240_249.out _; (with_reducible repeat (first | refine blk_drewN ?_ _ | refine blk_drew ?_ | refine blk_alloc ?_ _)); refine blk_far ?_ NB240_249.out _; (with_reducible repeat (first | refine blk_drewN ?_ _ | refine blk_drew ?_ | refine blk_alloc ?_ _)); refine blk_far ?_ NB240_249.out _; (with_reducible repeat (first | refine blk_drewN ?_ _ | refine blk_drew ?_ | refine blk_alloc ?_ _)); refine blk_far ?_ NB240_249.out _; (with_reducible repeat (first | refine blk_drewN ?_ _ | refine blk_drew ?_ | refine blk_alloc ?_ _)); exact BK240.out⟩, ⟨by (with_reducible repeat (first | refine blk_drewN ?_ _ | refine blk_drew ?_ | refine blk_alloc ?_ _)); refine blk_far ?_ NB241_249.out _; (with_reducible repeat (first | refine blk_drewN ?_ _ | refine blk_drew ?_ | refine blk_alloc ?_ _)); refine blk_far ?_ NB241_249.out _; (with_reducible repeat (first | refine blk_drewN ?_ _ | refine blk_drew ?_ | refine blk_alloc ?_ _)); refine blk_far ?_ NB241_249.out _; (with_reducible repeat (first | refine blk_drewN ?_ _ | refine blk_drew ?_ | refine blk_alloc ?_ _)); refine blk_far ?_ NB241_249.out _; (with_reducible repeat (first | refine blk_drewN ?_ _ | refine blk_drew ?_ | refine blk_alloc ?_ _)); exact BK241.out⟩, ⟨by (with_reducible repeat (first | refine blk_drewN ?_ _ | refine blk_drew ?_ | refine blk_alloc ?_ _)); refine blk_put (cs := #[.int .i64 t244, .int .i64 t245, .int .i64 t246, .int .i64 0]) ?_ 3 _ rfl; (with_reducible repeat (first | refine blk_drewN ?_ _ | refine blk_drew ?_ | refine blk_alloc ?_ _)); refine blk_put (cs := #[.int .i64 t244, .int .i64 t245, .int .i64 0, .int .i64 0]) ?_ 2 _ rfl; (with_reducible repeat (first | refine blk_drewN ?_ _ | refine blk_drew ?_ | refine blk_alloc ?_ _)); refine blk_put (cs := #[.int .i64 t244, .int .i64 0, .int .i64 0, .int .i64 0]) ?_ 1 _ rfl; (with_reducible repeat (first | refine blk_drewN ?_ _ | refine blk_drew ?_ | refine blk_alloc ?_ _)); refine blk_put (cs := #[.int .i64 0, .int .i64 0, .int .i64 0, .int .i64 0]) ?_ 0 _ rfl; (with_reducible repeat (first | refine blk_drewN ?_ _ | refine blk_drew ?_ | refine blk_alloc ?_ _)); exact BK249.out⟩, ⟨by repeat (first | (with_reducible first | exact HB.out | apply below_alloc | apply pw_below_drewN | apply below_drew1 | refine below_set ?_ GE239.out | refine below_set ?_ GE240.out | refine below_set ?_ GE241.out | refine below_set ?_ GE249.out) | exact HB.out)⟩⟩
        · rw [if_neg c23] at H
          first | exact absurd (hr.symm.trans (aw0 H)) (by decide) | exact absurd (hr.symm.trans (aw1 H)) (by decide) | exact absurd (hr.symm.trans (aw2 H)) (by decide) | exact absurd (hr.symm.trans (aw3 H)) (by decide)
      · rw [if_neg c22] at H
        first | exact absurd (hr.symm.trans (aw0 H)) (by decide) | exact absurd (hr.symm.trans (aw1 H)) (by decide) | exact absurd (hr.symm.trans (aw2 H)) (by decide) | exact absurd (hr.symm.trans (aw3 H)) (by decide)
    · rw [if_neg c21] at H
      first | exact absurd (hr.symm.trans (aw0 H)) (by decide) | exact absurd (hr.symm.trans (aw1 H)) (by decide) | exact absurd (hr.symm.trans (aw2 H)) (by decide) | exact absurd (hr.symm.trans (aw3 H)) (by decide)
  case rest =>
    clear HC3
    try clear c1
    try clear c2
    try clear p2
    try clear c7
    try clear c10
    try clear c11
    try clear c15
    try clear c17
    try clear c18
    try clear c19
    try clear c21
    try clear c21b0
    try clear c21b1
    try clear c22
    try clear c22b0
    try clear c22b1
    try clear c23
    try clear c23b0
    try clear c23b1
    try clear c24
    try clear c25
    try clear c26
    try clear c27
    try clear c28
    try clear c29
    try clear hcz12_0
    try clear hcz12_1
    try clear hcz12_2
    try clear hcz12_3
    try clear hcz13_0
    try clear hcz13_1
    try clear hcz13_2
    try clear hcz13_3
    try clear hcz20_0
    try clear hcz20_1
    try clear hcz20_2
    try clear hcz20_3
    try clear hcz27_0
    try clear hcz27_1
    try clear hcz27_2
    try clear hcz27_3
    try clear hcz30_0
    try clear hcz30_1
    try clear hcz30_2
    try clear hcz30_3
    try clear hcz5_0
    try clear hcz5_1
    try clear hcz5_2
    try clear hcz5_3
    try clear hcz8_0
    try clear hcz8_1
    try clear hcz8_2
    try clear hcz8_3
    try clear hfz12_0
    try clear hfz12_1
    try clear hfz12_2
    try clear hfz12_3
    try clear hfz13_0
    try clear hfz13_1
    try clear hfz13_2
    try clear hfz13_3
    try clear hfz20_0
    try clear hfz20_1
    try clear hfz20_2
    try clear hfz20_3
    try clear hfz27_0
    try clear hfz27_1
    try clear hfz27_2
    try clear hfz27_3
    try clear hfz30_0
    try clear hfz30_1
    try clear hfz30_2
    try clear hfz30_3
    try clear hfz5_0
    try clear hfz5_1
    try clear hfz5_2
    try clear hfz5_3
    try clear hfz8_0
    try clear hfz8_1
    try clear hfz8_2
    try clear hfz8_3
    obtain ⟨kq, x42_2, rfl, HA, HJ2, BK239, BK240, BK241, BK249, HB⟩ := hcut
    cases kq with
    | zero => exact absurd HA.out (by simp [examboardlaw50_awake.j0])
    | succ kj2 =>
      have H := HA.out
      clear HA
      simp only [examboardlaw50_awake.j0] at H
      by_cases c31 : x42_2 = true
      · subst c31
        have H1 : (some false) = some r := by rw [if_pos rfl] at H; exact H
        exact absurd (hr.symm.trans (Option.some.inj H1).symm) (by decide)
      · replace c31 := Bool.eq_false_iff.mpr c31
        subst c31
        have H1 : ((incident_Parse.f kj2 (⟨#[112, 111, 119, 101, 114, 32, 97, 116, 32, 48, 55, 32, 108, 111, 115, 116, 32, 48, 32, 103, 114, 97, 118, 101, 32, 48]⟩ : ByteArray)).bind fun bt250 => ((incident_Parse.f kj2 (⟨#[112, 111, 119, 101, 114, 32, 97, 116, 32, 49, 32, 108, 111, 115, 116, 32, 48, 32, 103, 114, 97, 118, 101, 32, 57, 57, 57, 57, 57, 57, 57, 57, 57, 57, 57, 57, 57, 57, 57, 57, 57, 57, 57, 57]⟩ : ByteArray)).bind fun bt255 => (if bt250.2.2.2.2 = 2 then (if bt255.2.2.2.2 = 3 then ((incident_Valid.f kj2 1 120 30 1).bind fun t260 => (if t260 = 0 then ((incident_Valid.f kj2 0 (-1) 0 0).bind fun t261 => (if t261 = 1 then ((incident_Valid.f kj2 1 0 0 4).bind fun t262 => (examboardlaw50_awake.j1 kj2 (t262 != 3) 1 120 30 1 4 2 50 2 3 5 0 0)) else (examboardlaw50_awake.j1 kj2 true 1 120 30 1 4 2 50 2 3 5 0 0))) else (examboardlaw50_awake.j1 kj2 true 1 120 30 1 4 2 50 2 3 5 0 0))) else (examboardlaw50_awake.j1 kj2 true 1 120 30 1 4 2 50 2 3 5 0 0)) else (examboardlaw50_awake.j1 kj2 true 1 120 30 1 4 2 50 2 3 5 0 0)))) = some r := by rw [if_neg (show ¬ (false = true) by decide)] at H; exact H
        clear H
        have H := H1
        clear H1
        replace H := Option.bind_eq_some_iff.mp H
        obtain ⟨⟨t250, t251, t252, t253, t254⟩, A320, H⟩ := H
        replace H : ((incident_Parse.f kj2 (⟨#[112, 111, 119, 101, 114, 32, 97, 116, 32, 49, 32, 108, 111, 115, 116, 32, 48, 32, 103, 114, 97, 118, 101, 32, 57, 57, 57, 57, 57, 57, 57, 57, 57, 57, 57, 57, 57, 57, 57, 57, 57, 57, 57, 57]⟩ : ByteArray)).bind fun bt255 => (if t254 = 2 then (if bt255.2.2.2.2 = 3 then ((incident_Valid.f kj2 1 120 30 1).bind fun t260 => (if t260 = 0 then ((incident_Valid.f kj2 0 (-1) 0 0).bind fun t261 => (if t261 = 1 then ((incident_Valid.f kj2 1 0 0 4).bind fun t262 => (examboardlaw50_awake.j1 kj2 (t262 != 3) 1 120 30 1 4 2 50 2 3 5 0 0)) else (examboardlaw50_awake.j1 kj2 true 1 120 30 1 4 2 50 2 3 5 0 0))) else (examboardlaw50_awake.j1 kj2 true 1 120 30 1 4 2 50 2 3 5 0 0))) else (examboardlaw50_awake.j1 kj2 true 1 120 30 1 4 2 50 2 3 5 0 0)) else (examboardlaw50_awake.j1 kj2 true 1 120 30 1 4 2 50 2 3 5 0 0))) = some r := H
        have A32 := Aside0.mk A320
        clear A320
        replace H := Option.bind_eq_some_iff.mp H
        obtain ⟨⟨t255, t256, t257, t258, t259⟩, A330, H⟩ := H
        replace H : (if t254 = 2 then (if t259 = 3 then ((incident_Valid.f kj2 1 120 30 1).bind fun t260 => (if t260 = 0 then ((incident_Valid.f kj2 0 (-1) 0 0).bind fun t261 => (if t261 = 1 then ((incident_Valid.f kj2 1 0 0 4).bind fun t262 => (examboardlaw50_awake.j1 kj2 (t262 != 3) 1 120 30 1 4 2 50 2 3 5 0 0)) else (examboardlaw50_awake.j1 kj2 true 1 120 30 1 4 2 50 2 3 5 0 0))) else (examboardlaw50_awake.j1 kj2 true 1 120 30 1 4 2 50 2 3 5 0 0))) else (examboardlaw50_awake.j1 kj2 true 1 120 30 1 4 2 50 2 3 5 0 0)) else (examboardlaw50_awake.j1 kj2 true 1 120 30 1 4 2 50 2 3 5 0 0)) = some r := H
        have A33 := Aside0.mk A330
        clear A330
        have HC34 := Aside0.mk H
        clear H
        go_upto_region 10 with (first | ((with_reducible refine gate_callee (f := 27) rfl ?_); refine goesL_ (some 44) rfl rfl Tryd.func27 (by kernel_rfl) rfl #[.string (⟨#[112, 111, 119, 101, 114, 32, 97, 116, 32, 48, 55, 32, 108, 111, 115, 116, 32, 48, 32, 103, 114, 97, 118, 101, 32, 48]⟩ : ByteArray)] rfl (by (try simp only [List.map_toArray, List.map_cons, List.map_nil]); first | done | rfl | (simp only [List.length_drop, List.length_take]; rfl)) ?_; (with_reducible refine (incident_Parse.calls kj2 (⟨#[112, 111, 119, 101, 114, 32, 97, 116, 32, 48, 55, 32, 108, 111, 115, 116, 32, 48, 32, 103, 114, 97, 118, 101, 32, 48]⟩ : ByteArray) t250 t251 t252 t253 t254 _ A32.out (hG.below (by repeat (first | (with_reducible first | exact HB.out | apply below_alloc | apply pw_below_drewN | apply below_drew1 | refine below_set ?_ GE239.out | refine below_set ?_ GE240.out | refine below_set ?_ GE241.out | refine below_set ?_ GE249.out) | exact HB.out)))).mono ?_); rintro e w35 ⟨rfl, hb⟩; refine ⟨_, rfl, ?_⟩; have n0_ := Aside0.mk (blk_below (g := gb239) (o := .cells #[.int .i64 1, .int .i64 120, .int .i64 30, .int .i64 1] 23 (0, 0)) (by (with_reducible repeat (first | refine blk_drewN ?_ _ | refine blk_drew ?_ | refine blk_alloc ?_ _)); exact BK239.out) hb); have n1_ := Aside0.mk (blk_below (g := gb240) (o := .cells #[.int .i64 4, .int .i64 2, .int .i64 50, .int .i64 2] 23 (0, 0)) (by (with_reducible repeat (first | refine blk_drewN ?_ _ | refine blk_drew ?_ | refine blk_alloc ?_ _)); exact BK240.out) hb); have n2_ := Aside0.mk (blk_below (g := gb241) (o := .cells #[.int .i64 3, .int .i64 5, .int .i64 0, .int .i64 0] 23 (0, 0)) (by (with_reducible repeat (first | refine blk_drewN ?_ _ | refine blk_drew ?_ | refine blk_alloc ?_ _)); exact BK241.out) hb); have n3_ := Aside0.mk (blk_below (g := gb249) (o := .cells #[.int .i64 t244, .int .i64 t245, .int .i64 t246, .int .i64 t247] 23 (0, 0)) (by (with_reducible repeat (first | refine blk_drewN ?_ _ | refine blk_drew ?_ | refine blk_alloc ?_ _)); exact BK249.out) hb); have n4_ := Aside0.mk (below_step (by repeat (first | (with_reducible first | exact HB.out | apply below_alloc | apply pw_below_drewN | apply below_drew1 | refine below_set ?_ GE239.out | refine below_set ?_ GE240.out | refine below_set ?_ GE241.out | refine below_set ?_ GE249.out) | exact HB.out)) hb); clear BK239; clear BK240; clear BK241; clear BK249; clear HB; have BK239 := n0_; have BK240 := n1_; have BK241 := n2_; have BK249 := n3_; have HB := n4_; clear n0_ n1_ n2_ n3_ n4_; (try clear hb); (try clear hb2); (try clear hk); (try clear hi)) | ((with_reducible refine gate_callee (f := 27) rfl ?_); refine goesL_ (some 48) rfl rfl Tryd.func27 (by kernel_rfl) rfl #[.string (⟨#[112, 111, 119, 101, 114, 32, 97, 116, 32, 49, 32, 108, 111, 115, 116, 32, 48, 32, 103, 114, 97, 118, 101, 32, 57, 57, 57, 57, 57, 57, 57, 57, 57, 57, 57, 57, 57, 57, 57, 57, 57, 57, 57, 57]⟩ : ByteArray)] rfl (by (try simp only [List.map_toArray, List.map_cons, List.map_nil]); first | done | rfl | (simp only [List.length_drop, List.length_take]; rfl)) ?_; (with_reducible refine (incident_Parse.calls kj2 (⟨#[112, 111, 119, 101, 114, 32, 97, 116, 32, 49, 32, 108, 111, 115, 116, 32, 48, 32, 103, 114, 97, 118, 101, 32, 57, 57, 57, 57, 57, 57, 57, 57, 57, 57, 57, 57, 57, 57, 57, 57, 57, 57, 57, 57]⟩ : ByteArray) t255 t256 t257 t258 t259 _ A33.out (hG.below (by repeat (first | (with_reducible first | exact HB.out | apply below_alloc | apply pw_below_drewN | apply below_drew1 | refine below_set ?_ GE239.out | refine below_set ?_ GE240.out | refine below_set ?_ GE241.out | refine below_set ?_ GE249.out) | exact HB.out)))).mono ?_); rintro e w36 ⟨rfl, hb⟩; refine ⟨_, rfl, ?_⟩; have n0_ := Aside0.mk (blk_below (g := gb239) (o := .cells #[.int .i64 1, .int .i64 120, .int .i64 30, .int .i64 1] 23 (0, 0)) (by (with_reducible repeat (first | refine blk_drewN ?_ _ | refine blk_drew ?_ | refine blk_alloc ?_ _)); exact BK239.out) hb); have n1_ := Aside0.mk (blk_below (g := gb240) (o := .cells #[.int .i64 4, .int .i64 2, .int .i64 50, .int .i64 2] 23 (0, 0)) (by (with_reducible repeat (first | refine blk_drewN ?_ _ | refine blk_drew ?_ | refine blk_alloc ?_ _)); exact BK240.out) hb); have n2_ := Aside0.mk (blk_below (g := gb241) (o := .cells #[.int .i64 3, .int .i64 5, .int .i64 0, .int .i64 0] 23 (0, 0)) (by (with_reducible repeat (first | refine blk_drewN ?_ _ | refine blk_drew ?_ | refine blk_alloc ?_ _)); exact BK241.out) hb); have n3_ := Aside0.mk (blk_below (g := gb249) (o := .cells #[.int .i64 t244, .int .i64 t245, .int .i64 t246, .int .i64 t247] 23 (0, 0)) (by (with_reducible repeat (first | refine blk_drewN ?_ _ | refine blk_drew ?_ | refine blk_alloc ?_ _)); exact BK249.out) hb); have n4_ := Aside0.mk (below_step (by repeat (first | (with_reducible first | exact HB.out | apply below_alloc | apply pw_below_drewN | apply below_drew1 | refine below_set ?_ GE239.out | refine below_set ?_ GE240.out | refine below_set ?_ GE241.out | refine below_set ?_ GE249.out) | exact HB.out)) hb); clear BK239; clear BK240; clear BK241; clear BK249; clear HB; have BK239 := n0_; have BK240 := n1_; have BK241 := n2_; have BK249 := n3_; have HB := n4_; clear n0_ n1_ n2_ n3_ n4_; (try clear hb); (try clear hb2); (try clear hk); (try clear hi)))
        (try simp only [Act.put, List.setIfInBounds_toArray, List.set_cons_zero, List.set_cons_succ])
        go_cut [71] (fun v71 wc => ∃ (kq : Nat) (x71_33 : Bool), v71 = .bool x71_33 ∧ Aside0 (examboardlaw50_awake.j1 kq x71_33 1 120 30 1 4 2 50 2 3 5 0 0 = some r) ∧ Aside0 (kq ≤ kj2) ∧ Aside0 (wc.heap[gb239]? = some (.cells #[.int .i64 1, .int .i64 120, .int .i64 30, .int .i64 1] 23 (0, 0))) ∧ Aside0 (wc.heap[gb240]? = some (.cells #[.int .i64 4, .int .i64 2, .int .i64 50, .int .i64 2] 23 (0, 0))) ∧ Aside0 (wc.heap[gb241]? = some (.cells #[.int .i64 3, .int .i64 5, .int .i64 0, .int .i64 0] 23 (0, 0))) ∧ Aside0 (wc.heap[gb249]? = some (.cells #[.int .i64 t244, .int .i64 t245, .int .i64 t246, .int .i64 t247] 23 (0, 0))) ∧ Aside0 (Below w.heap.size w wc))
        case first =>
          have H := HC34.out
          clear HC34
          by_cases c37 : t254 = 2
          · rw [if_pos c37] at H
            have c37b0 : (t254 == 2) = true := beq_iff_eq.mpr c37
            have c37b1 : (t254 != 2) = false := bne_eq_false_iff_eq.mpr c37
            clear c37
            (first | rw [c37b0] | (simp only [i64_w, i32_w]; rw [c37b0]) | skip)
            by_cases c38 : t259 = 3
            · rw [if_pos c38] at H
              have c38b0 : (t259 == 3) = true := beq_iff_eq.mpr c38
              have c38b1 : (t259 != 3) = false := bne_eq_false_iff_eq.mpr c38
              clear c38
              replace H := Option.bind_eq_some_iff.mp H
              obtain ⟨t260, A390, H⟩ := H
              replace H : (if t260 = 0 then ((incident_Valid.f kj2 0 (-1) 0 0).bind fun t261 => (if t261 = 1 then ((incident_Valid.f kj2 1 0 0 4).bind fun t262 => (examboardlaw50_awake.j1 kj2 (t262 != 3) 1 120 30 1 4 2 50 2 3 5 0 0)) else (examboardlaw50_awake.j1 kj2 true 1 120 30 1 4 2 50 2 3 5 0 0))) else (examboardlaw50_awake.j1 kj2 true 1 120 30 1 4 2 50 2 3 5 0 0)) = some r := H
              have A39 := Aside0.mk A390
              clear A390
              by_cases c40 : t260 = 0
              · rw [if_pos c40] at H
                have c40b0 : (t260 == 0) = true := beq_iff_eq.mpr c40
                have c40b1 : (t260 != 0) = false := bne_eq_false_iff_eq.mpr c40
                clear c40
                replace H := Option.bind_eq_some_iff.mp H
                obtain ⟨t261, A410, H⟩ := H
                replace H : (if t261 = 1 then ((incident_Valid.f kj2 1 0 0 4).bind fun t262 => (examboardlaw50_awake.j1 kj2 (t262 != 3) 1 120 30 1 4 2 50 2 3 5 0 0)) else (examboardlaw50_awake.j1 kj2 true 1 120 30 1 4 2 50 2 3 5 0 0)) = some r := H
                have A41 := Aside0.mk A410
                clear A410
                by_cases c42 : t261 = 1
                · rw [if_pos c42] at H
                  have c42b0 : (t261 == 1) = true := beq_iff_eq.mpr c42
                  have c42b1 : (t261 != 1) = false := bne_eq_false_iff_eq.mpr c42
                  clear c42
                  replace H := Option.bind_eq_some_iff.mp H
                  obtain ⟨t262, A430, H⟩ := H
                  replace H : (examboardlaw50_awake.j1 kj2 (t262 != 3) 1 120 30 1 4 2 50 2 3 5 0 0) = some r := H
                  have A43 := Aside0.mk A430
                  clear A430
                  have H' := Aside0.mk H
                  clear H
                  have hnb44 := NB239_240.out
                  have hnc44 := NB240_239.out
                  have hnb45 := NB239_241.out
                  have hnc45 := NB241_239.out
                  have hnb46 := NB239_249.out
                  have hnc46 := NB249_239.out
                  have hcz47_0 : w36.cell? ⟨gb239, 0, none⟩ = some (.int .i64 1) := (blk_cell BK239.out 0).trans rfl
                  have hcz47_1 : w36.cell? ⟨gb239, 1, none⟩ = some (.int .i64 120) := (blk_cell BK239.out 1).trans rfl
                  have hcz47_2 : w36.cell? ⟨gb239, 2, none⟩ = some (.int .i64 30) := (blk_cell BK239.out 2).trans rfl
                  have hcz47_3 : w36.cell? ⟨gb239, 3, none⟩ = some (.int .i64 1) := (blk_cell BK239.out 3).trans rfl
                  have hfz47_0 := blk_frozen BK239.out 0
                  have hfz47_1 := blk_frozen BK239.out 1
                  have hfz47_2 := blk_frozen BK239.out 2
                  have hfz47_3 := blk_frozen BK239.out 3
                  go_wp2_with (first | (go_at_call 13; (with_reducible refine (incident_Valid.calls kj2 1 120 30 1 t260 _ A39.out).mono ?_); rintro e w48 ⟨rfl, hb⟩; have n0_ := Aside0.mk (blk_below (g := gb239) (o := .cells #[.int .i64 1, .int .i64 120, .int .i64 30, .int .i64 1] 23 (0, 0)) (by (with_reducible repeat (first | refine blk_drewN ?_ _ | refine blk_drew ?_ | refine blk_alloc ?_ _)); exact BK239.out) hb); have n1_ := Aside0.mk (blk_below (g := gb240) (o := .cells #[.int .i64 4, .int .i64 2, .int .i64 50, .int .i64 2] 23 (0, 0)) (by (with_reducible repeat (first | refine blk_drewN ?_ _ | refine blk_drew ?_ | refine blk_alloc ?_ _)); exact BK240.out) hb); have n2_ := Aside0.mk (blk_below (g := gb241) (o := .cells #[.int .i64 3, .int .i64 5, .int .i64 0, .int .i64 0] 23 (0, 0)) (by (with_reducible repeat (first | refine blk_drewN ?_ _ | refine blk_drew ?_ | refine blk_alloc ?_ _)); exact BK241.out) hb); have n3_ := Aside0.mk (blk_below (g := gb249) (o := .cells #[.int .i64 t244, .int .i64 t245, .int .i64 t246, .int .i64 t247] 23 (0, 0)) (by (with_reducible repeat (first | refine blk_drewN ?_ _ | refine blk_drew ?_ | refine blk_alloc ?_ _)); exact BK249.out) hb); have n4_ := Aside0.mk (below_step (by repeat (first | (with_reducible first | exact HB.out | apply below_alloc | apply pw_below_drewN | apply below_drew1 | refine below_set ?_ GE239.out | refine below_set ?_ GE240.out | refine below_set ?_ GE241.out | refine below_set ?_ GE249.out) | exact HB.out)) hb); clear BK239; clear BK240; clear BK241; clear BK249; clear HB; have BK239 := n0_; have BK240 := n1_; have BK241 := n2_; have BK249 := n3_; have HB := n4_; clear n0_ n1_ n2_ n3_ n4_; (try clear hb); (try clear hb2); (try clear hk); (try clear hi)) | (go_at_call 13; (with_reducible refine (incident_Valid.calls kj2 0 (-1) 0 0 t261 _ A41.out).mono ?_); rintro e w49 ⟨rfl, hb⟩; have n0_ := Aside0.mk (blk_below (g := gb239) (o := .cells #[.int .i64 1, .int .i64 120, .int .i64 30, .int .i64 1] 23 (0, 0)) (by (with_reducible repeat (first | refine blk_drewN ?_ _ | refine blk_drew ?_ | refine blk_alloc ?_ _)); exact BK239.out) hb); have n1_ := Aside0.mk (blk_below (g := gb240) (o := .cells #[.int .i64 4, .int .i64 2, .int .i64 50, .int .i64 2] 23 (0, 0)) (by (with_reducible repeat (first | refine blk_drewN ?_ _ | refine blk_drew ?_ | refine blk_alloc ?_ _)); exact BK240.out) hb); have n2_ := Aside0.mk (blk_below (g := gb241) (o := .cells #[.int .i64 3, .int .i64 5, .int .i64 0, .int .i64 0] 23 (0, 0)) (by (with_reducible repeat (first | refine blk_drewN ?_ _ | refine blk_drew ?_ | refine blk_alloc ?_ _)); exact BK241.out) hb); have n3_ := Aside0.mk (blk_below (g := gb249) (o := .cells #[.int .i64 t244, .int .i64 t245, .int .i64 t246, .int .i64 t247] 23 (0, 0)) (by (with_reducible repeat (first | refine blk_drewN ?_ _ | refine blk_drew ?_ | refine blk_alloc ?_ _)); exact BK249.out) hb); have n4_ := Aside0.mk (below_step (by repeat (first | (with_reducible first | exact HB.out | apply below_alloc | apply pw_below_drewN | apply below_drew1 | refine below_set ?_ GE239.out | refine below_set ?_ GE240.out | refine below_set ?_ GE241.out | refine below_set ?_ GE249.out) | exact HB.out)) hb); clear BK239; clear BK240; clear BK241; clear BK249; clear HB; have BK239 := n0_; have BK240 := n1_; have BK241 := n2_; have BK249 := n3_; have HB := n4_; clear n0_ n1_ n2_ n3_ n4_; (try clear hb); (try clear hb2); (try clear hk); (try clear hi)) | (go_at_call 13; (with_reducible refine (incident_Valid.calls kj2 1 0 0 4 t262 _ A43.out).mono ?_); rintro e w50 ⟨rfl, hb⟩; have n0_ := Aside0.mk (blk_below (g := gb239) (o := .cells #[.int .i64 1, .int .i64 120, .int .i64 30, .int .i64 1] 23 (0, 0)) (by (with_reducible repeat (first | refine blk_drewN ?_ _ | refine blk_drew ?_ | refine blk_alloc ?_ _)); exact BK239.out) hb); have n1_ := Aside0.mk (blk_below (g := gb240) (o := .cells #[.int .i64 4, .int .i64 2, .int .i64 50, .int .i64 2] 23 (0, 0)) (by (with_reducible repeat (first | refine blk_drewN ?_ _ | refine blk_drew ?_ | refine blk_alloc ?_ _)); exact BK240.out) hb); have n2_ := Aside0.mk (blk_below (g := gb241) (o := .cells #[.int .i64 3, .int .i64 5, .int .i64 0, .int .i64 0] 23 (0, 0)) (by (with_reducible repeat (first | refine blk_drewN ?_ _ | refine blk_drew ?_ | refine blk_alloc ?_ _)); exact BK241.out) hb); have n3_ := Aside0.mk (blk_below (g := gb249) (o := .cells #[.int .i64 t244, .int .i64 t245, .int .i64 t246, .int .i64 t247] 23 (0, 0)) (by (with_reducible repeat (first | refine blk_drewN ?_ _ | refine blk_drew ?_ | refine blk_alloc ?_ _)); exact BK249.out) hb); have n4_ := Aside0.mk (below_step (by repeat (first | (with_reducible first | exact HB.out | apply below_alloc | apply pw_below_drewN | apply below_drew1 | refine below_set ?_ GE239.out | refine below_set ?_ GE240.out | refine below_set ?_ GE241.out | refine below_set ?_ GE249.out) | exact HB.out)) hb); clear BK239; clear BK240; clear BK241; clear BK249; clear HB; have BK239 := n0_; have BK240 := n1_; have BK241 := n2_; have BK249 := n3_; have HB := n4_; clear n0_ n1_ n2_ n3_ n4_; (try clear hb); (try clear hb2); (try clear hk); (try clear hi)))
                  go_meet
                  case rel => exact ⟨_, ((t262 != 3)), (by first | rfl | (simp; done) | (simp [*]; done)), H', ⟨by have := HJ2.out; first | omega | exact Nat.le_refl _⟩, ⟨by (with_reducible repeat (first | refine blk_drewN ?_ _ | refine blk_drew ?_ | refine blk_alloc ?_ _)); exact BK239.out⟩, ⟨by (with_reducible repeat (first | refine blk_drewN ?_ _ | refine blk_drew ?_ | refine blk_alloc ?_ _)); exact BK240.out⟩, ⟨by (with_reducible repeat (first | refine blk_drewN ?_ _ | refine blk_drew ?_ | refine blk_alloc ?_ _)); exact BK241.out⟩, ⟨by (with_reducible repeat (first | refine blk_drewN ?_ _ | refine blk_drew ?_ | refine blk_alloc ?_ _)); exact BK249.out⟩, ⟨by repeat (first | (with_reducible first | exact HB.out | apply below_alloc | apply pw_below_drewN | apply below_drew1 | refine below_set ?_ GE239.out | refine below_set ?_ GE240.out | refine below_set ?_ GE241.out | refine below_set ?_ GE249.out) | exact HB.out)⟩⟩
                · rw [if_neg c42] at H
                  first | exact absurd (hr.symm.trans (aw0 H)) (by decide) | exact absurd (hr.symm.trans (aw1 H)) (by decide) | exact absurd (hr.symm.trans (aw2 H)) (by decide) | exact absurd (hr.symm.trans (aw3 H)) (by decide)
              · rw [if_neg c40] at H
                first | exact absurd (hr.symm.trans (aw0 H)) (by decide) | exact absurd (hr.symm.trans (aw1 H)) (by decide) | exact absurd (hr.symm.trans (aw2 H)) (by decide) | exact absurd (hr.symm.trans (aw3 H)) (by decide)
            · rw [if_neg c38] at H
              first | exact absurd (hr.symm.trans (aw0 H)) (by decide) | exact absurd (hr.symm.trans (aw1 H)) (by decide) | exact absurd (hr.symm.trans (aw2 H)) (by decide) | exact absurd (hr.symm.trans (aw3 H)) (by decide)
          · rw [if_neg c37] at H
            first | exact absurd (hr.symm.trans (aw0 H)) (by decide) | exact absurd (hr.symm.trans (aw1 H)) (by decide) | exact absurd (hr.symm.trans (aw2 H)) (by decide) | exact absurd (hr.symm.trans (aw3 H)) (by decide)
        case rest =>
          clear HC34
          try clear c1
          try clear c2
          try clear p2
          try clear c3
          try clear c4
          try clear c5
          try clear c7
          try clear c10
          try clear c11
          try clear c15
          try clear c17
          try clear c18
          try clear c19
          try clear c21
          try clear c21b0
          try clear c21b1
          try clear c22
          try clear c22b0
          try clear c22b1
          try clear c23
          try clear c23b0
          try clear c23b1
          try clear c24
          try clear c25
          try clear c26
          try clear c27
          try clear c28
          try clear c29
          try clear c31
          try clear c37
          try clear c37b0
          try clear c37b1
          try clear c38
          try clear c38b0
          try clear c38b1
          try clear c40
          try clear c40b0
          try clear c40b1
          try clear c42
          try clear c42b0
          try clear c42b1
          try clear c44
          try clear c45
          try clear c46
          try clear c51
          try clear c52
          try clear c53
          try clear c57
          try clear c58
          try clear c59
          try clear hcz12_0
          try clear hcz12_1
          try clear hcz12_2
          try clear hcz12_3
          try clear hcz13_0
          try clear hcz13_1
          try clear hcz13_2
          try clear hcz13_3
          try clear hcz20_0
          try clear hcz20_1
          try clear hcz20_2
          try clear hcz20_3
          try clear hcz27_0
          try clear hcz27_1
          try clear hcz27_2
          try clear hcz27_3
          try clear hcz30_0
          try clear hcz30_1
          try clear hcz30_2
          try clear hcz30_3
          try clear hcz47_0
          try clear hcz47_1
          try clear hcz47_2
          try clear hcz47_3
          try clear hcz54_0
          try clear hcz54_1
          try clear hcz54_2
          try clear hcz54_3
          try clear hcz5_0
          try clear hcz5_1
          try clear hcz5_2
          try clear hcz5_3
          try clear hcz60_0
          try clear hcz60_1
          try clear hcz60_2
          try clear hcz60_3
          try clear hcz8_0
          try clear hcz8_1
          try clear hcz8_2
          try clear hcz8_3
          try clear hfz12_0
          try clear hfz12_1
          try clear hfz12_2
          try clear hfz12_3
          try clear hfz13_0
          try clear hfz13_1
          try clear hfz13_2
          try clear hfz13_3
          try clear hfz20_0
          try clear hfz20_1
          try clear hfz20_2
          try clear hfz20_3
          try clear hfz27_0
          try clear hfz27_1
          try clear hfz27_2
          try clear hfz27_3
          try clear hfz30_0
          try clear hfz30_1
          try clear hfz30_2
          try clear hfz30_3
          try clear hfz47_0
          try clear hfz47_1
          try clear hfz47_2
          try clear hfz47_3
          try clear hfz54_0
          try clear hfz54_1
          try clear hfz54_2
          try clear hfz54_3
          try clear hfz5_0
          try clear hfz5_1
          try clear hfz5_2
          try clear hfz5_3
          try clear hfz60_0
          try clear hfz60_1
          try clear hfz60_2
          try clear hfz60_3
          try clear hfz8_0
          try clear hfz8_1
          try clear hfz8_2
          try clear hfz8_3
          try clear p2
          obtain ⟨kq, x71_33, rfl, HA, HJ33, BK239, BK240, BK241, BK249, HB⟩ := hcut
          cases kq with
          | zero => exact absurd HA.out (by simp [examboardlaw50_awake.j1])
          | succ kj33 =>
            have H := HA.out
            clear HA
            simp only [examboardlaw50_awake.j1] at H
            by_cases c62 : x71_33 = true
            · subst c62
              have H1 : (some false) = some r := by rw [if_pos rfl] at H; exact H
              exact absurd (hr.symm.trans (Option.some.inj H1).symm) (by decide)
            · replace c62 := Bool.eq_false_iff.mpr c62
              subst c62
              have H1 : ((incident_Merge.f kj33 (([(⟨3, 5, 0, 0⟩ : S23), (⟨4, 2, 50, 2⟩ : S23)] : List (S23))) (([(⟨3, 5, 0, 0⟩ : S23), (⟨1, 120, 30, 1⟩ : S23)] : List (S23)))).bind fun bt269 => (if bt269.2 = 0 then ((examboardref50_Same.f kj33 bt269.1 (([(⟨4, 2, 50, 2⟩ : S23), (⟨3, 5, 0, 0⟩ : S23), (⟨1, 120, 30, 1⟩ : S23)] : List (S23)))).bind fun t276 => (examboardlaw50_awake.j2 kj33 bt269.1 (!t276) 4 2 50 2)) else (examboardlaw50_awake.j2 kj33 bt269.1 true 4 2 50 2))) = some r := by rw [if_neg (show ¬ (false = true) by decide)] at H; exact H
              clear H
              have H := H1
              clear H1
              obtain ⟨y263, hy263⟩ : ∃ y_ : List (S23), y_ = (([(⟨3, 5, 0, 0⟩ : S23), (⟨4, 2, 50, 2⟩ : S23)] : List (S23))) := ⟨_, rfl⟩
              replace H : ((incident_Merge.f kj33 y263 (([(⟨3, 5, 0, 0⟩ : S23), (⟨1, 120, 30, 1⟩ : S23)] : List (S23)))).bind fun bt269 => (if bt269.2 = 0 then ((examboardref50_Same.f kj33 bt269.1 (([(⟨4, 2, 50, 2⟩ : S23), (⟨3, 5, 0, 0⟩ : S23), (⟨1, 120, 30, 1⟩ : S23)] : List (S23)))).bind fun t276 => (examboardlaw50_awake.j2 kj33 bt269.1 (!t276) 4 2 50 2)) else (examboardlaw50_awake.j2 kj33 bt269.1 true 4 2 50 2))) = some r := by first | (rw [hy263]; with_reducible exact H) | (have H2_ := (Option.bind_some _ _).symm.trans H; rw [hy263]; with_reducible exact H2_) | (have H2_ := (Option.bind_some _ _).symm.trans H; with_reducible exact H2_) | with_reducible exact H | (rw [hy263]; exact H) | exact H
              have Ny263 := Aside0.mk hy263
              clear hy263
              obtain ⟨y266, hy266⟩ : ∃ y_ : List (S23), y_ = (([(⟨3, 5, 0, 0⟩ : S23), (⟨1, 120, 30, 1⟩ : S23)] : List (S23))) := ⟨_, rfl⟩
              replace H : ((incident_Merge.f kj33 y263 y266).bind fun bt269 => (if bt269.2 = 0 then ((examboardref50_Same.f kj33 bt269.1 (([(⟨4, 2, 50, 2⟩ : S23), (⟨3, 5, 0, 0⟩ : S23), (⟨1, 120, 30, 1⟩ : S23)] : List (S23)))).bind fun t276 => (examboardlaw50_awake.j2 kj33 bt269.1 (!t276) 4 2 50 2)) else (examboardlaw50_awake.j2 kj33 bt269.1 true 4 2 50 2))) = some r := by first | (rw [hy266]; with_reducible exact H) | (have H2_ := (Option.bind_some _ _).symm.trans H; rw [hy266]; with_reducible exact H2_) | (have H2_ := (Option.bind_some _ _).symm.trans H; with_reducible exact H2_) | with_reducible exact H | (rw [hy266]; exact H) | exact H
              have Ny266 := Aside0.mk hy266
              clear hy266
              replace H := Option.bind_eq_some_iff.mp H
              obtain ⟨⟨t269, t270⟩, A630, H⟩ := H
              replace H : (if t270 = 0 then ((examboardref50_Same.f kj33 t269 (([(⟨4, 2, 50, 2⟩ : S23), (⟨3, 5, 0, 0⟩ : S23), (⟨1, 120, 30, 1⟩ : S23)] : List (S23)))).bind fun t276 => (examboardlaw50_awake.j2 kj33 t269 (!t276) 4 2 50 2)) else (examboardlaw50_awake.j2 kj33 t269 true 4 2 50 2)) = some r := H
              have A63 := Aside0.mk A630
              clear A630
              have HC64 := Aside0.mk H
              clear H
              have hnb65 := NB241_239.out
              have hnc65 := NB239_241.out
              have hnb66 := NB241_240.out
              have hnc66 := NB240_241.out
              have hnb67 := NB241_249.out
              have hnc67 := NB249_241.out
              have hcz68_0 : wc.cell? ⟨gb241, 0, none⟩ = some (.int .i64 3) := (blk_cell BK241.out 0).trans rfl
              have hcz68_1 : wc.cell? ⟨gb241, 1, none⟩ = some (.int .i64 5) := (blk_cell BK241.out 1).trans rfl
              have hcz68_2 : wc.cell? ⟨gb241, 2, none⟩ = some (.int .i64 0) := (blk_cell BK241.out 2).trans rfl
              have hcz68_3 : wc.cell? ⟨gb241, 3, none⟩ = some (.int .i64 0) := (blk_cell BK241.out 3).trans rfl
              have hfz68_0 := blk_frozen BK241.out 0
              have hfz68_1 := blk_frozen BK241.out 1
              have hfz68_2 := blk_frozen BK241.out 2
              have hfz68_3 := blk_frozen BK241.out 3
              have hnb69 := NB240_239.out
              have hnc69 := NB239_240.out
              have hnb70 := NB240_249.out
              have hnc70 := NB249_240.out
              have hcz71_0 : wc.cell? ⟨gb240, 0, none⟩ = some (.int .i64 4) := (blk_cell BK240.out 0).trans rfl
              have hcz71_1 : wc.cell? ⟨gb240, 1, none⟩ = some (.int .i64 2) := (blk_cell BK240.out 1).trans rfl
              have hcz71_2 : wc.cell? ⟨gb240, 2, none⟩ = some (.int .i64 50) := (blk_cell BK240.out 2).trans rfl
              have hcz71_3 : wc.cell? ⟨gb240, 3, none⟩ = some (.int .i64 2) := (blk_cell BK240.out 3).trans rfl
              have hfz71_0 := blk_frozen BK240.out 0
              have hfz71_1 := blk_frozen BK240.out 1
              have hfz71_2 := blk_frozen BK240.out 2
              have hfz71_3 := blk_frozen BK240.out 3
              go_upto_region 13 with (first | ((with_reducible refine gate_dst (N := 75) rfl ?_); (try (refine gate_guard (by rfl) ?_; dsimp only)); refine Kd.R_lit k23 _ 23 ?hg (N := 75) ?hd (xs := ([(⟨3, 5, 0, 0⟩ : S23), (⟨4, 2, 50, 2⟩ : S23)] : List (S23))) (inner := [.int .i64 3, .int .i64 5, .int .i64 0, .int .i64 0, .int .i64 4, .int .i64 2, .int .i64 50, .int .i64 2]) (ok := fun _ => True) (okp := fun _ => True) ?hr ?hp (fun _ hk => hk) trivial (Below.refl _ _) (Nat.le_refl _) (by simp) ?_; (case hd => rfl); (case hg => rfl); (case hr => first | (go_simp; done) | (go_simp; rfl)); (case hp => exact (Reps.c4 (show Kd.M k23 _ _ _ (⟨3, 5, 0, 0⟩ : S23) [.int .i64 3, .int .i64 5, .int .i64 0, .int .i64 0] from (k23_mkM _ _ _ (⟨3, 5, 0, 0⟩ : S23) )) (Reps.c4 (show Kd.M k23 _ _ _ (⟨4, 2, 50, 2⟩ : S23) [.int .i64 4, .int .i64 2, .int .i64 50, .int .i64 2] from (k23_mkM _ _ _ (⟨4, 2, 50, 2⟩ : S23) )) (Reps.none _ _)))); intro v264 w72 ho73 hb hg_ hnew_; clear hg_ hnew_; (first | rw [← Ny263.out] at ho73 | (simp only [Int.reduceToNat] at ho73; rw [← Ny263.out] at ho73)); have n0_ := Aside0.mk (Kd.R_lower (Kd.R_newB (Kd.R_newB (Kd.R_newB (Kd.R_newB ho73 (g := gb239) (o := .cells #[.int .i64 1, .int .i64 120, .int .i64 30, .int .i64 1] 23 (0, 0)) (by (with_reducible repeat (first | refine blk_drewN ?_ _ | refine blk_drew ?_ | refine blk_alloc ?_ _)); exact BK239.out)) (g := gb240) (o := .cells #[.int .i64 4, .int .i64 2, .int .i64 50, .int .i64 2] 23 (0, 0)) (by (with_reducible repeat (first | refine blk_drewN ?_ _ | refine blk_drew ?_ | refine blk_alloc ?_ _)); exact BK240.out)) (g := gb241) (o := .cells #[.int .i64 3, .int .i64 5, .int .i64 0, .int .i64 0] 23 (0, 0)) (by (with_reducible repeat (first | refine blk_drewN ?_ _ | refine blk_drew ?_ | refine blk_alloc ?_ _)); exact BK241.out)) (g := gb249) (o := .cells #[.int .i64 t244, .int .i64 t245, .int .i64 t246, .int .i64 t247] 23 (0, 0)) (by (with_reducible repeat (first | refine blk_drewN ?_ _ | refine blk_drew ?_ | refine blk_alloc ?_ _)); exact BK249.out)) (below_size (by repeat (first | (with_reducible first | exact HB.out | apply below_alloc | apply pw_below_drewN | apply below_drew1 | refine below_set ?_ GE239.out | refine below_set ?_ GE240.out | refine below_set ?_ GE241.out | refine below_set ?_ GE249.out) | exact HB.out)))); have n1_ := Aside0.mk (blk_below (g := gb239) (o := .cells #[.int .i64 1, .int .i64 120, .int .i64 30, .int .i64 1] 23 (0, 0)) (by (with_reducible repeat (first | refine blk_drewN ?_ _ | refine blk_drew ?_ | refine blk_alloc ?_ _)); exact BK239.out) hb); have n2_ := Aside0.mk (blk_below (g := gb240) (o := .cells #[.int .i64 4, .int .i64 2, .int .i64 50, .int .i64 2] 23 (0, 0)) (by (with_reducible repeat (first | refine blk_drewN ?_ _ | refine blk_drew ?_ | refine blk_alloc ?_ _)); exact BK240.out) hb); have n3_ := Aside0.mk (blk_below (g := gb241) (o := .cells #[.int .i64 3, .int .i64 5, .int .i64 0, .int .i64 0] 23 (0, 0)) (by (with_reducible repeat (first | refine blk_drewN ?_ _ | refine blk_drew ?_ | refine blk_alloc ?_ _)); exact BK241.out) hb); have n4_ := Aside0.mk (blk_below (g := gb249) (o := .cells #[.int .i64 t244, .int .i64 t245, .int .i64 t246, .int .i64 t247] 23 (0, 0)) (by (with_reducible repeat (first | refine blk_drewN ?_ _ | refine blk_drew ?_ | refine blk_alloc ?_ _)); exact BK249.out) hb); have n5_ := Aside0.mk (below_step (by repeat (first | (with_reducible first | exact HB.out | apply below_alloc | apply pw_below_drewN | apply below_drew1 | refine below_set ?_ GE239.out | refine below_set ?_ GE240.out | refine below_set ?_ GE241.out | refine below_set ?_ GE249.out) | exact HB.out)) hb); clear BK239; clear BK240; clear BK241; clear BK249; clear HB; have HO265 := n0_; have BK239 := n1_; have BK240 := n2_; have BK241 := n3_; have BK249 := n4_; have HB := n5_; clear n0_ n1_ n2_ n3_ n4_ n5_; clear hb ho73; have hcz74_0 : w72.cell? ⟨gb241, 0, none⟩ = some (.int .i64 3) := (blk_cell BK241.out 0).trans rfl; have hcz74_1 : w72.cell? ⟨gb241, 1, none⟩ = some (.int .i64 5) := (blk_cell BK241.out 1).trans rfl; have hcz74_2 : w72.cell? ⟨gb241, 2, none⟩ = some (.int .i64 0) := (blk_cell BK241.out 2).trans rfl; have hcz74_3 : w72.cell? ⟨gb241, 3, none⟩ = some (.int .i64 0) := (blk_cell BK241.out 3).trans rfl; have hfz74_0 := blk_frozen BK241.out 0; have hfz74_1 := blk_frozen BK241.out 1; have hfz74_2 := blk_frozen BK241.out 2; have hfz74_3 := blk_frozen BK241.out 3; have hnb75 := NB239_249.out; have hnc75 := NB249_239.out; have hcz76_0 : w72.cell? ⟨gb239, 0, none⟩ = some (.int .i64 1) := (blk_cell BK239.out 0).trans rfl; have hcz76_1 : w72.cell? ⟨gb239, 1, none⟩ = some (.int .i64 120) := (blk_cell BK239.out 1).trans rfl; have hcz76_2 : w72.cell? ⟨gb239, 2, none⟩ = some (.int .i64 30) := (blk_cell BK239.out 2).trans rfl; have hcz76_3 : w72.cell? ⟨gb239, 3, none⟩ = some (.int .i64 1) := (blk_cell BK239.out 3).trans rfl; have hfz76_0 := blk_frozen BK239.out 0; have hfz76_1 := blk_frozen BK239.out 1; have hfz76_2 := blk_frozen BK239.out 2; have hfz76_3 := blk_frozen BK239.out 3) | ((with_reducible refine gate_dst (N := 78) rfl ?_); (try (refine gate_guard (by rfl) ?_; dsimp only)); refine Kd.R_lit k23 _ 23 ?hg (N := 78) ?hd (xs := ([(⟨3, 5, 0, 0⟩ : S23), (⟨1, 120, 30, 1⟩ : S23)] : List (S23))) (inner := [.int .i64 3, .int .i64 5, .int .i64 0, .int .i64 0, .int .i64 1, .int .i64 120, .int .i64 30, .int .i64 1]) (ok := fun _ => True) (okp := fun _ => True) ?hr ?hp (fun _ hk => hk) trivial (Below.refl _ _) (Nat.le_refl _) (by simp) ?_; (case hd => rfl); (case hg => rfl); (case hr => first | (go_simp; done) | (go_simp; rfl)); (case hp => exact (Reps.c4 (show Kd.M k23 _ _ _ (⟨3, 5, 0, 0⟩ : S23) [.int .i64 3, .int .i64 5, .int .i64 0, .int .i64 0] from (k23_mkM _ _ _ (⟨3, 5, 0, 0⟩ : S23) )) (Reps.c4 (show Kd.M k23 _ _ _ (⟨1, 120, 30, 1⟩ : S23) [.int .i64 1, .int .i64 120, .int .i64 30, .int .i64 1] from (k23_mkM _ _ _ (⟨1, 120, 30, 1⟩ : S23) )) (Reps.none _ _)))); intro v267 w77 ho78 hb hg_ hnew_; clear hg_ hnew_; (first | rw [← Ny266.out] at ho78 | (simp only [Int.reduceToNat] at ho78; rw [← Ny266.out] at ho78)); have n0_ := Aside0.mk (Kd.R_elder' (by (with_reducible repeat (first | apply Kd.R_alloc | apply Kd.R_drewN | apply Kd.R_drew)); exact HO265.out) (Kd.R_base ho78) hb); have n1_ := Aside0.mk (Kd.R_lower (Kd.R_newB (Kd.R_newB (Kd.R_newB (Kd.R_newB (Kd.R_new' ho78 (Kd.R_lt (by (with_reducible repeat (first | apply Kd.R_alloc | apply Kd.R_drewN | apply Kd.R_drew)); exact HO265.out))) (g := gb239) (o := .cells #[.int .i64 1, .int .i64 120, .int .i64 30, .int .i64 1] 23 (0, 0)) (by (with_reducible repeat (first | refine blk_drewN ?_ _ | refine blk_drew ?_ | refine blk_alloc ?_ _)); exact BK239.out)) (g := gb240) (o := .cells #[.int .i64 4, .int .i64 2, .int .i64 50, .int .i64 2] 23 (0, 0)) (by (with_reducible repeat (first | refine blk_drewN ?_ _ | refine blk_drew ?_ | refine blk_alloc ?_ _)); exact BK240.out)) (g := gb241) (o := .cells #[.int .i64 3, .int .i64 5, .int .i64 0, .int .i64 0] 23 (0, 0)) (by (with_reducible repeat (first | refine blk_drewN ?_ _ | refine blk_drew ?_ | refine blk_alloc ?_ _)); exact BK241.out)) (g := gb249) (o := .cells #[.int .i64 t244, .int .i64 t245, .int .i64 t246, .int .i64 t247] 23 (0, 0)) (by (with_reducible repeat (first | refine blk_drewN ?_ _ | refine blk_drew ?_ | refine blk_alloc ?_ _)); exact BK249.out)) (below_size (by repeat (first | (with_reducible first | exact HB.out | apply below_alloc | apply pw_below_drewN | apply below_drew1 | refine below_set ?_ GE239.out | refine below_set ?_ GE240.out | refine below_set ?_ GE241.out | refine below_set ?_ GE249.out) | exact HB.out)))); have n2_ := Aside0.mk (blk_below (g := gb239) (o := .cells #[.int .i64 1, .int .i64 120, .int .i64 30, .int .i64 1] 23 (0, 0)) (by (with_reducible repeat (first | refine blk_drewN ?_ _ | refine blk_drew ?_ | refine blk_alloc ?_ _)); exact BK239.out) hb); have n3_ := Aside0.mk (blk_below (g := gb240) (o := .cells #[.int .i64 4, .int .i64 2, .int .i64 50, .int .i64 2] 23 (0, 0)) (by (with_reducible repeat (first | refine blk_drewN ?_ _ | refine blk_drew ?_ | refine blk_alloc ?_ _)); exact BK240.out) hb); have n4_ := Aside0.mk (blk_below (g := gb241) (o := .cells #[.int .i64 3, .int .i64 5, .int .i64 0, .int .i64 0] 23 (0, 0)) (by (with_reducible repeat (first | refine blk_drewN ?_ _ | refine blk_drew ?_ | refine blk_alloc ?_ _)); exact BK241.out) hb); have n5_ := Aside0.mk (blk_below (g := gb249) (o := .cells #[.int .i64 t244, .int .i64 t245, .int .i64 t246, .int .i64 t247] 23 (0, 0)) (by (with_reducible repeat (first | refine blk_drewN ?_ _ | refine blk_drew ?_ | refine blk_alloc ?_ _)); exact BK249.out) hb); have n6_ := Aside0.mk (below_step (by repeat (first | (with_reducible first | exact HB.out | apply below_alloc | apply pw_below_drewN | apply below_drew1 | refine below_set ?_ GE239.out | refine below_set ?_ GE240.out | refine below_set ?_ GE241.out | refine below_set ?_ GE249.out) | exact HB.out)) hb); clear HO265; clear BK239; clear BK240; clear BK241; clear BK249; clear HB; have HO265 := n0_; have HO268 := n1_; have BK239 := n2_; have BK240 := n3_; have BK241 := n4_; have BK249 := n5_; have HB := n6_; clear n0_ n1_ n2_ n3_ n4_ n5_ n6_; clear hb ho78; obtain ⟨Ao79, co79, eo79⟩ := Kd.R_slice HO265.out; subst eo79; obtain ⟨Ao80, co80, eo80⟩ := Kd.R_slice HO268.out; subst eo80) | ((with_reducible refine gate_callee (f := 10) rfl ?_); refine goesL_ (some 79) rfl rfl Tryd.func10 (by kernel_rfl) rfl #[.slice Ao79 y263.length co79, .slice Ao80 y266.length co80] rfl (by (try simp only [List.map_toArray, List.map_cons, List.map_nil]); first | done | rfl | (simp only [List.length_drop, List.length_take]; rfl)) ?_; (with_reducible refine (incident_Merge.calls kj33 _ _ y263 _ _ y266 t269 t270 _ ?side1 ?side2 ?side3 ?side4 A63.out).mono ?_); (case side1 => repeat (first | exact (Kd.R_reads' HO265.out).2.2 | (with_reducible refine Kd.C_alloc ?_ _) | (with_reducible refine Kd.C_drewN ?_ _) | (with_reducible refine Kd.C_drew ?_))); (case side2 => exact (Kd.R_reads' HO265.out).2.1); (case side3 => repeat (first | exact (Kd.R_reads' HO268.out).2.2 | (with_reducible refine Kd.C_alloc ?_ _) | (with_reducible refine Kd.C_drewN ?_ _) | (with_reducible refine Kd.C_drew ?_))); (case side4 => exact (Kd.R_reads' HO268.out).2.1); rintro e w81 ⟨v271, rfl, ho0, hb⟩; refine ⟨_, rfl, ?_⟩; have n0_ := Aside0.mk (Kd.R_elder' (by (with_reducible repeat (first | apply Kd.R_alloc | apply Kd.R_drewN | apply Kd.R_drew)); exact HO265.out) (Kd.R_base ho0) hb); have n1_ := Aside0.mk (Kd.R_elder' (by (with_reducible repeat (first | apply Kd.R_alloc | apply Kd.R_drewN | apply Kd.R_drew)); exact HO268.out) (Kd.R_base ho0) hb); have n2_ := Aside0.mk (Kd.R_lower (Kd.R_newB (Kd.R_newB (Kd.R_newB (Kd.R_newB (Kd.R_new' (Kd.R_new' ho0 (Kd.R_lt (by (with_reducible repeat (first | apply Kd.R_alloc | apply Kd.R_drewN | apply Kd.R_drew)); exact HO265.out))) (Kd.R_lt (by (with_reducible repeat (first | apply Kd.R_alloc | apply Kd.R_drewN | apply Kd.R_drew)); exact HO268.out))) (g := gb239) (o := .cells #[.int .i64 1, .int .i64 120, .int .i64 30, .int .i64 1] 23 (0, 0)) (by (with_reducible repeat (first | refine blk_drewN ?_ _ | refine blk_drew ?_ | refine blk_alloc ?_ _)); exact BK239.out)) (g := gb240) (o := .cells #[.int .i64 4, .int .i64 2, .int .i64 50, .int .i64 2] 23 (0, 0)) (by (with_reducible repeat (first | refine blk_drewN ?_ _ | refine blk_drew ?_ | refine blk_alloc ?_ _)); exact BK240.out)) (g := gb241) (o := .cells #[.int .i64 3, .int .i64 5, .int .i64 0, .int .i64 0] 23 (0, 0)) (by (with_reducible repeat (first | refine blk_drewN ?_ _ | refine blk_drew ?_ | refine blk_alloc ?_ _)); exact BK241.out)) (g := gb249) (o := .cells #[.int .i64 t244, .int .i64 t245, .int .i64 t246, .int .i64 t247] 23 (0, 0)) (by (with_reducible repeat (first | refine blk_drewN ?_ _ | refine blk_drew ?_ | refine blk_alloc ?_ _)); exact BK249.out)) (below_size (by repeat (first | (with_reducible first | exact HB.out | apply below_alloc | apply pw_below_drewN | apply below_drew1 | refine below_set ?_ GE239.out | refine below_set ?_ GE240.out | refine below_set ?_ GE241.out | refine below_set ?_ GE249.out) | exact HB.out)))); have n3_ := Aside0.mk (blk_below (g := gb239) (o := .cells #[.int .i64 1, .int .i64 120, .int .i64 30, .int .i64 1] 23 (0, 0)) (by (with_reducible repeat (first | refine blk_drewN ?_ _ | refine blk_drew ?_ | refine blk_alloc ?_ _)); exact BK239.out) hb); have n4_ := Aside0.mk (blk_below (g := gb240) (o := .cells #[.int .i64 4, .int .i64 2, .int .i64 50, .int .i64 2] 23 (0, 0)) (by (with_reducible repeat (first | refine blk_drewN ?_ _ | refine blk_drew ?_ | refine blk_alloc ?_ _)); exact BK240.out) hb); have n5_ := Aside0.mk (blk_below (g := gb241) (o := .cells #[.int .i64 3, .int .i64 5, .int .i64 0, .int .i64 0] 23 (0, 0)) (by (with_reducible repeat (first | refine blk_drewN ?_ _ | refine blk_drew ?_ | refine blk_alloc ?_ _)); exact BK241.out) hb); have n6_ := Aside0.mk (blk_below (g := gb249) (o := .cells #[.int .i64 t244, .int .i64 t245, .int .i64 t246, .int .i64 t247] 23 (0, 0)) (by (with_reducible repeat (first | refine blk_drewN ?_ _ | refine blk_drew ?_ | refine blk_alloc ?_ _)); exact BK249.out) hb); have n7_ := Aside0.mk (below_step (by repeat (first | (with_reducible first | exact HB.out | apply below_alloc | apply pw_below_drewN | apply below_drew1 | refine below_set ?_ GE239.out | refine below_set ?_ GE240.out | refine below_set ?_ GE241.out | refine below_set ?_ GE249.out) | exact HB.out)) hb); clear HO265; clear HO268; clear BK239; clear BK240; clear BK241; clear BK249; clear HB; have HO265 := n0_; have HO268 := n1_; have HO272 := n2_; have BK239 := n3_; have BK240 := n4_; have BK241 := n5_; have BK249 := n6_; have HB := n7_; clear n0_ n1_ n2_ n3_ n4_ n5_ n6_ n7_; (try clear hb); (try clear hb2); (try clear hk); (try clear hi); (try clear ho0)))
              (try simp only [Act.put, List.setIfInBounds_toArray, List.set_cons_zero, List.set_cons_succ])
              go_cut [92] (fun v92 wc => ∃ (kq : Nat) (x92_63 : Bool), v92 = .bool x92_63 ∧ Aside0 (examboardlaw50_awake.j2 kq t269 x92_63 4 2 50 2 = some r) ∧ Aside0 (kq ≤ kj33) ∧ Aside0 (Kd.R k23 23 wc w.heap.size (fun k_ => k_ ≠ gb239 ∧ k_ ≠ gb240 ∧ k_ ≠ gb241 ∧ k_ ≠ gb249) v271 t269) ∧ Aside0 (wc.heap[gb239]? = some (.cells #[.int .i64 1, .int .i64 120, .int .i64 30, .int .i64 1] 23 (0, 0))) ∧ Aside0 (wc.heap[gb240]? = some (.cells #[.int .i64 4, .int .i64 2, .int .i64 50, .int .i64 2] 23 (0, 0))) ∧ Aside0 (wc.heap[gb241]? = some (.cells #[.int .i64 3, .int .i64 5, .int .i64 0, .int .i64 0] 23 (0, 0))) ∧ Aside0 (wc.heap[gb249]? = some (.cells #[.int .i64 t244, .int .i64 t245, .int .i64 t246, .int .i64 t247] 23 (0, 0))) ∧ Aside0 (Below w.heap.size w wc))
              case first =>
                have H := HC64.out
                clear HC64
                by_cases c82 : t270 = 0
                · rw [if_pos c82] at H
                  have c82b0 : (t270 == 0) = true := beq_iff_eq.mpr c82
                  have c82b1 : (t270 != 0) = false := bne_eq_false_iff_eq.mpr c82
                  clear c82
                  (first | rw [c82b0] | (simp only [i64_w, i32_w]; rw [c82b0]) | skip)
                  obtain ⟨y273, hy273⟩ : ∃ y_ : List (S23), y_ = (([(⟨4, 2, 50, 2⟩ : S23), (⟨3, 5, 0, 0⟩ : S23), (⟨1, 120, 30, 1⟩ : S23)] : List (S23))) := ⟨_, rfl⟩
                  replace H : ((examboardref50_Same.f kj33 t269 y273).bind fun t276 => (examboardlaw50_awake.j2 kj33 t269 (!t276) 4 2 50 2)) = some r := by first | (rw [hy273]; with_reducible exact H) | (have H2_ := (Option.bind_some _ _).symm.trans H; rw [hy273]; with_reducible exact H2_) | (have H2_ := (Option.bind_some _ _).symm.trans H; with_reducible exact H2_) | with_reducible exact H | (rw [hy273]; exact H) | exact H
                  have Ny273 := Aside0.mk hy273
                  clear hy273
                  replace H := Option.bind_eq_some_iff.mp H
                  obtain ⟨t276, A830, H⟩ := H
                  replace H : (examboardlaw50_awake.j2 kj33 t269 (!t276) 4 2 50 2) = some r := H
                  have A83 := Aside0.mk A830
                  clear A830
                  have H' := Aside0.mk H
                  clear H
                  have hnb84 := NB240_239.out
                  have hnc84 := NB239_240.out
                  have hnb85 := NB240_241.out
                  have hnc85 := NB241_240.out
                  have hnb86 := NB240_249.out
                  have hnc86 := NB249_240.out
                  have hcz87_0 : w81.cell? ⟨gb240, 0, none⟩ = some (.int .i64 4) := (blk_cell BK240.out 0).trans rfl
                  have hcz87_1 : w81.cell? ⟨gb240, 1, none⟩ = some (.int .i64 2) := (blk_cell BK240.out 1).trans rfl
                  have hcz87_2 : w81.cell? ⟨gb240, 2, none⟩ = some (.int .i64 50) := (blk_cell BK240.out 2).trans rfl
                  have hcz87_3 : w81.cell? ⟨gb240, 3, none⟩ = some (.int .i64 2) := (blk_cell BK240.out 3).trans rfl
                  have hfz87_0 := blk_frozen BK240.out 0
                  have hfz87_1 := blk_frozen BK240.out 1
                  have hfz87_2 := blk_frozen BK240.out 2
                  have hfz87_3 := blk_frozen BK240.out 3
                  have hnb88 := NB241_239.out
                  have hnc88 := NB239_241.out
                  have hnb89 := NB241_249.out
                  have hnc89 := NB249_241.out
                  have hcz90_0 : w81.cell? ⟨gb241, 0, none⟩ = some (.int .i64 3) := (blk_cell BK241.out 0).trans rfl
                  have hcz90_1 : w81.cell? ⟨gb241, 1, none⟩ = some (.int .i64 5) := (blk_cell BK241.out 1).trans rfl
                  have hcz90_2 : w81.cell? ⟨gb241, 2, none⟩ = some (.int .i64 0) := (blk_cell BK241.out 2).trans rfl
                  have hcz90_3 : w81.cell? ⟨gb241, 3, none⟩ = some (.int .i64 0) := (blk_cell BK241.out 3).trans rfl
                  have hfz90_0 := blk_frozen BK241.out 0
                  have hfz90_1 := blk_frozen BK241.out 1
                  have hfz90_2 := blk_frozen BK241.out 2
                  have hfz90_3 := blk_frozen BK241.out 3
                  have hnb91 := NB239_249.out
                  have hnc91 := NB249_239.out
                  have hcz92_0 : w81.cell? ⟨gb239, 0, none⟩ = some (.int .i64 1) := (blk_cell BK239.out 0).trans rfl
                  have hcz92_1 : w81.cell? ⟨gb239, 1, none⟩ = some (.int .i64 120) := (blk_cell BK239.out 1).trans rfl
                  have hcz92_2 : w81.cell? ⟨gb239, 2, none⟩ = some (.int .i64 30) := (blk_cell BK239.out 2).trans rfl
                  have hcz92_3 : w81.cell? ⟨gb239, 3, none⟩ = some (.int .i64 1) := (blk_cell BK239.out 3).trans rfl
                  have hfz92_0 := blk_frozen BK239.out 0
                  have hfz92_1 := blk_frozen BK239.out 1
                  have hfz92_2 := blk_frozen BK239.out 2
                  have hfz92_3 := blk_frozen BK239.out 3
                  go_wp2_with (first | ((with_reducible refine gate_dst (N := 89) rfl ?_); (try (refine gate_guard (by rfl) ?_; dsimp only)); refine Kd.R_lit k23 _ 23 ?hg (N := 89) ?hd (xs := ([(⟨4, 2, 50, 2⟩ : S23), (⟨3, 5, 0, 0⟩ : S23), (⟨1, 120, 30, 1⟩ : S23)] : List (S23))) (inner := [.int .i64 4, .int .i64 2, .int .i64 50, .int .i64 2, .int .i64 3, .int .i64 5, .int .i64 0, .int .i64 0, .int .i64 1, .int .i64 120, .int .i64 30, .int .i64 1]) (ok := fun _ => True) (okp := fun _ => True) ?hr ?hp (fun _ hk => hk) trivial (Below.refl _ _) (Nat.le_refl _) (by simp) ?_; (case hd => rfl); (case hg => rfl); (case hr => first | (go_simp; done) | (go_simp; rfl)); (case hp => exact (Reps.c4 (show Kd.M k23 _ _ _ (⟨4, 2, 50, 2⟩ : S23) [.int .i64 4, .int .i64 2, .int .i64 50, .int .i64 2] from (k23_mkM _ _ _ (⟨4, 2, 50, 2⟩ : S23) )) (Reps.c4 (show Kd.M k23 _ _ _ (⟨3, 5, 0, 0⟩ : S23) [.int .i64 3, .int .i64 5, .int .i64 0, .int .i64 0] from (k23_mkM _ _ _ (⟨3, 5, 0, 0⟩ : S23) )) (Reps.c4 (show Kd.M k23 _ _ _ (⟨1, 120, 30, 1⟩ : S23) [.int .i64 1, .int .i64 120, .int .i64 30, .int .i64 1] from (k23_mkM _ _ _ (⟨1, 120, 30, 1⟩ : S23) )) (Reps.none _ _))))); intro v274 w93 ho94 hb hg_ hnew_; clear hg_ hnew_; (first | rw [← Ny273.out] at ho94 | (simp only [Int.reduceToNat] at ho94; rw [← Ny273.out] at ho94)); have n0_ := Aside0.mk (Kd.R_elder' (by (with_reducible repeat (first | apply Kd.R_alloc | apply Kd.R_drewN | apply Kd.R_drew)); exact HO265.out) (Kd.R_base ho94) hb); have n1_ := Aside0.mk (Kd.R_elder' (by (with_reducible repeat (first | apply Kd.R_alloc | apply Kd.R_drewN | apply Kd.R_drew)); exact HO268.out) (Kd.R_base ho94) hb); have n2_ := Aside0.mk (Kd.R_elder' (by (with_reducible repeat (first | apply Kd.R_alloc | apply Kd.R_drewN | apply Kd.R_drew)); exact HO272.out) (Kd.R_base ho94) hb); have n3_ := Aside0.mk (Kd.R_lower (Kd.R_newB (Kd.R_newB (Kd.R_newB (Kd.R_newB (Kd.R_new' (Kd.R_new' (Kd.R_new' ho94 (Kd.R_lt (by (with_reducible repeat (first | apply Kd.R_alloc | apply Kd.R_drewN | apply Kd.R_drew)); exact HO265.out))) (Kd.R_lt (by (with_reducible repeat (first | apply Kd.R_alloc | apply Kd.R_drewN | apply Kd.R_drew)); exact HO268.out))) (Kd.R_lt (by (with_reducible repeat (first | apply Kd.R_alloc | apply Kd.R_drewN | apply Kd.R_drew)); exact HO272.out))) (g := gb239) (o := .cells #[.int .i64 1, .int .i64 120, .int .i64 30, .int .i64 1] 23 (0, 0)) (by (with_reducible repeat (first | refine blk_drewN ?_ _ | refine blk_drew ?_ | refine blk_alloc ?_ _)); exact BK239.out)) (g := gb240) (o := .cells #[.int .i64 4, .int .i64 2, .int .i64 50, .int .i64 2] 23 (0, 0)) (by (with_reducible repeat (first | refine blk_drewN ?_ _ | refine blk_drew ?_ | refine blk_alloc ?_ _)); exact BK240.out)) (g := gb241) (o := .cells #[.int .i64 3, .int .i64 5, .int .i64 0, .int .i64 0] 23 (0, 0)) (by (with_reducible repeat (first | refine blk_drewN ?_ _ | refine blk_drew ?_ | refine blk_alloc ?_ _)); exact BK241.out)) (g := gb249) (o := .cells #[.int .i64 t244, .int .i64 t245, .int .i64 t246, .int .i64 t247] 23 (0, 0)) (by (with_reducible repeat (first | refine blk_drewN ?_ _ | refine blk_drew ?_ | refine blk_alloc ?_ _)); exact BK249.out)) (below_size (by repeat (first | (with_reducible first | exact HB.out | apply below_alloc | apply pw_below_drewN | apply below_drew1 | refine below_set ?_ GE239.out | refine below_set ?_ GE240.out | refine below_set ?_ GE241.out | refine below_set ?_ GE249.out) | exact HB.out)))); have n4_ := Aside0.mk (blk_below (g := gb239) (o := .cells #[.int .i64 1, .int .i64 120, .int .i64 30, .int .i64 1] 23 (0, 0)) (by (with_reducible repeat (first | refine blk_drewN ?_ _ | refine blk_drew ?_ | refine blk_alloc ?_ _)); exact BK239.out) hb); have n5_ := Aside0.mk (blk_below (g := gb240) (o := .cells #[.int .i64 4, .int .i64 2, .int .i64 50, .int .i64 2] 23 (0, 0)) (by (with_reducible repeat (first | refine blk_drewN ?_ _ | refine blk_drew ?_ | refine blk_alloc ?_ _)); exact BK240.out) hb); have n6_ := Aside0.mk (blk_below (g := gb241) (o := .cells #[.int .i64 3, .int .i64 5, .int .i64 0, .int .i64 0] 23 (0, 0)) (by (with_reducible repeat (first | refine blk_drewN ?_ _ | refine blk_drew ?_ | refine blk_alloc ?_ _)); exact BK241.out) hb); have n7_ := Aside0.mk (blk_below (g := gb249) (o := .cells #[.int .i64 t244, .int .i64 t245, .int .i64 t246, .int .i64 t247] 23 (0, 0)) (by (with_reducible repeat (first | refine blk_drewN ?_ _ | refine blk_drew ?_ | refine blk_alloc ?_ _)); exact BK249.out) hb); have n8_ := Aside0.mk (below_step (by repeat (first | (with_reducible first | exact HB.out | apply below_alloc | apply pw_below_drewN | apply below_drew1 | refine below_set ?_ GE239.out | refine below_set ?_ GE240.out | refine below_set ?_ GE241.out | refine below_set ?_ GE249.out) | exact HB.out)) hb); clear HO265; clear HO268; clear HO272; clear BK239; clear BK240; clear BK241; clear BK249; clear HB; have HO265 := n0_; have HO268 := n1_; have HO272 := n2_; have HO275 := n3_; have BK239 := n4_; have BK240 := n5_; have BK241 := n6_; have BK249 := n7_; have HB := n8_; clear n0_ n1_ n2_ n3_ n4_ n5_ n6_ n7_ n8_; clear hb ho94; obtain ⟨Ao95, co95, eo95⟩ := Kd.R_slice HO272.out; subst eo95; obtain ⟨Ao96, co96, eo96⟩ := Kd.R_slice HO275.out; subst eo96) | (go_at_call 12; (with_reducible refine (examboardref50_Same.calls kj33 _ _ t269 _ _ y273 t276 _ ?side1 ?side2 ?side3 ?side4 A83.out).mono ?_); (case side1 => repeat (first | exact (Kd.R_reads' HO272.out).2.2 | (with_reducible refine Kd.C_alloc ?_ _) | (with_reducible refine Kd.C_drewN ?_ _) | (with_reducible refine Kd.C_drew ?_))); (case side2 => exact (Kd.R_reads' HO272.out).2.1); (case side3 => repeat (first | exact (Kd.R_reads' HO275.out).2.2 | (with_reducible refine Kd.C_alloc ?_ _) | (with_reducible refine Kd.C_drewN ?_ _) | (with_reducible refine Kd.C_drew ?_))); (case side4 => exact (Kd.R_reads' HO275.out).2.1); rintro e w' ⟨rfl, ⟨nd, rfl⟩⟩))
                  go_meet
                  case rel => exact ⟨_, (!t276), (by first | rfl | (simp; done) | (simp [*]; done)), H', ⟨by have := HJ2.out; have := HJ33.out; first | omega | exact Nat.le_refl _⟩, ⟨by (with_reducible repeat (first | apply Kd.R_alloc | apply Kd.R_drewN | apply Kd.R_drew)); exact Kd.R_mono HO272.out (fun _ hk => ⟨hk.1.1.1.1.2, ⟨hk.1.1.1.2, ⟨hk.1.1.2, hk.1.2⟩⟩⟩)⟩, ⟨by (with_reducible repeat (first | refine blk_drewN ?_ _ | refine blk_drew ?_ | refine blk_alloc ?_ _)); exact BK239.out⟩, ⟨by (with_reducible repeat (first | refine blk_drewN ?_ _ | refine blk_drew ?_ | refine blk_alloc ?_ _)); exact BK240.out⟩, ⟨by (with_reducible repeat (first | refine blk_drewN ?_ _ | refine blk_drew ?_ | refine blk_alloc ?_ _)); exact BK241.out⟩, ⟨by (with_reducible repeat (first | refine blk_drewN ?_ _ | refine blk_drew ?_ | refine blk_alloc ?_ _)); exact BK249.out⟩, ⟨by repeat (first | (with_reducible first | exact HB.out | apply below_alloc | apply pw_below_drewN | apply below_drew1 | refine below_set ?_ GE239.out | refine below_set ?_ GE240.out | refine below_set ?_ GE241.out | refine below_set ?_ GE249.out) | exact HB.out)⟩⟩
                · rw [if_neg c82] at H
                  first | exact absurd (hr.symm.trans (aw0 H)) (by decide) | exact absurd (hr.symm.trans (aw1 H)) (by decide) | exact absurd (hr.symm.trans (aw2 H)) (by decide) | exact absurd (hr.symm.trans (aw3 H)) (by decide)
              case rest =>
                clear HC64
                try clear c1
                try clear c2
                try clear p2
                try clear c3
                try clear c4
                try clear c5
                try clear c6
                try clear c7
                try clear c8
                try clear c9
                try clear c10
                try clear c11
                try clear c15
                try clear c17
                try clear c18
                try clear c19
                try clear c21
                try clear c21b0
                try clear c21b1
                try clear c22
                try clear c22b0
                try clear c22b1
                try clear c23
                try clear c23b0
                try clear c23b1
                try clear c24
                try clear c25
                try clear c26
                try clear c27
                try clear c28
                try clear c29
                try clear c31
                try clear c37
                try clear c37b0
                try clear c37b1
                try clear c38
                try clear c38b0
                try clear c38b1
                try clear c40
                try clear c40b0
                try clear c40b1
                try clear c42
                try clear c42b0
                try clear c42b1
                try clear c44
                try clear c45
                try clear c46
                try clear c51
                try clear c52
                try clear c53
                try clear c57
                try clear c58
                try clear c59
                try clear c62
                try clear c65
                try clear c66
                try clear c67
                try clear c69
                try clear c70
                try clear c75
                try clear c82
                try clear c82b0
                try clear c82b1
                try clear c84
                try clear c85
                try clear c86
                try clear c88
                try clear c89
                try clear c91
                try clear hcz12_0
                try clear hcz12_1
                try clear hcz12_2
                try clear hcz12_3
                try clear hcz13_0
                try clear hcz13_1
                try clear hcz13_2
                try clear hcz13_3
                try clear hcz20_0
                try clear hcz20_1
                try clear hcz20_2
                try clear hcz20_3
                try clear hcz27_0
                try clear hcz27_1
                try clear hcz27_2
                try clear hcz27_3
                try clear hcz30_0
                try clear hcz30_1
                try clear hcz30_2
                try clear hcz30_3
                try clear hcz47_0
                try clear hcz47_1
                try clear hcz47_2
                try clear hcz47_3
                try clear hcz54_0
                try clear hcz54_1
                try clear hcz54_2
                try clear hcz54_3
                try clear hcz5_0
                try clear hcz5_1
                try clear hcz5_2
                try clear hcz5_3
                try clear hcz60_0
                try clear hcz60_1
                try clear hcz60_2
                try clear hcz60_3
                try clear hcz68_0
                try clear hcz68_1
                try clear hcz68_2
                try clear hcz68_3
                try clear hcz71_0
                try clear hcz71_1
                try clear hcz71_2
                try clear hcz71_3
                try clear hcz74_0
                try clear hcz74_1
                try clear hcz74_2
                try clear hcz74_3
                try clear hcz76_0
                try clear hcz76_1
                try clear hcz76_2
                try clear hcz76_3
                try clear hcz87_0
                try clear hcz87_1
                try clear hcz87_2
                try clear hcz87_3
                try clear hcz8_0
                try clear hcz8_1
                try clear hcz8_2
                try clear hcz8_3
                try clear hcz90_0
                try clear hcz90_1
                try clear hcz90_2
                try clear hcz90_3
                try clear hcz92_0
                try clear hcz92_1
                try clear hcz92_2
                try clear hcz92_3
                try clear hfz12_0
                try clear hfz12_1
                try clear hfz12_2
                try clear hfz12_3
                try clear hfz13_0
                try clear hfz13_1
                try clear hfz13_2
                try clear hfz13_3
                try clear hfz20_0
                try clear hfz20_1
                try clear hfz20_2
                try clear hfz20_3
                try clear hfz27_0
                try clear hfz27_1
                try clear hfz27_2
                try clear hfz27_3
                try clear hfz30_0
                try clear hfz30_1
                try clear hfz30_2
                try clear hfz30_3
                try clear hfz47_0
                try clear hfz47_1
                try clear hfz47_2
                try clear hfz47_3
                try clear hfz54_0
                try clear hfz54_1
                try clear hfz54_2
                try clear hfz54_3
                try clear hfz5_0
                try clear hfz5_1
                try clear hfz5_2
                try clear hfz5_3
                try clear hfz60_0
                try clear hfz60_1
                try clear hfz60_2
                try clear hfz60_3
                try clear hfz68_0
                try clear hfz68_1
                try clear hfz68_2
                try clear hfz68_3
                try clear hfz71_0
                try clear hfz71_1
                try clear hfz71_2
                try clear hfz71_3
                try clear hfz74_0
                try clear hfz74_1
                try clear hfz74_2
                try clear hfz74_3
                try clear hfz76_0
                try clear hfz76_1
                try clear hfz76_2
                try clear hfz76_3
                try clear hfz87_0
                try clear hfz87_1
                try clear hfz87_2
                try clear hfz87_3
                try clear hfz8_0
                try clear hfz8_1
                try clear hfz8_2
                try clear hfz8_3
                try clear hfz90_0
                try clear hfz90_1
                try clear hfz90_2
                try clear hfz90_3
                try clear hfz92_0
                try clear hfz92_1
                try clear hfz92_2
                try clear hfz92_3
                try clear p2
                obtain ⟨kq, x92_63, rfl, HA, HJ63, HO_8, BK239, BK240, BK241, BK249, HB⟩ := hcut
                cases kq with
                | zero => exact absurd HA.out (by simp [examboardlaw50_awake.j2])
                | succ kj63 =>
                  have H := HA.out
                  clear HA
                  simp only [examboardlaw50_awake.j2] at H
                  by_cases c97 : x92_63 = true
                  · subst c97
                    have H1 : (some false) = some r := by rw [if_pos rfl] at H; exact H
                    exact absurd (hr.symm.trans (Option.some.inj H1).symm) (by decide)
                  · replace c97 := Bool.eq_false_iff.mpr c97
                    subst c97
                    have H1 : ((incident_Lost.f kj63 t269 100).bind fun bt277 => ((incident_Lost.f kj63 t269 20).bind fun bt279 => ((incident_Worst.f kj63 t269).bind fun bt281 => ((incident_Hold.f kj63 t269).bind fun bt283 => (if bt277.2 = 0 then (if bt279.2 = 0 then (if bt281.2 = 0 then (if bt283.2 = 0 then (if bt277.1 = 30 then (if bt279.1 = 20 then (if bt281.1 = 2 then (examboardlaw50_awake.j3 kj63 t269 bt283.1 4 2 50 2) else (examboardlaw50_awake.j3 kj63 t269 true 4 2 50 2)) else (examboardlaw50_awake.j3 kj63 t269 true 4 2 50 2)) else (examboardlaw50_awake.j3 kj63 t269 true 4 2 50 2)) else (examboardlaw50_awake.j3 kj63 t269 true 4 2 50 2)) else (examboardlaw50_awake.j3 kj63 t269 true 4 2 50 2)) else (examboardlaw50_awake.j3 kj63 t269 true 4 2 50 2)) else (examboardlaw50_awake.j3 kj63 t269 true 4 2 50 2)))))) = some r := by rw [if_neg (show ¬ (false = true) by decide)] at H; exact H
                    clear H
                    have H := H1
                    clear H1
                    replace H := Option.bind_eq_some_iff.mp H
                    obtain ⟨⟨t277, t278⟩, A980, H⟩ := H
                    replace H : ((incident_Lost.f kj63 t269 20).bind fun bt279 => ((incident_Worst.f kj63 t269).bind fun bt281 => ((incident_Hold.f kj63 t269).bind fun bt283 => (if t278 = 0 then (if bt279.2 = 0 then (if bt281.2 = 0 then (if bt283.2 = 0 then (if t277 = 30 then (if bt279.1 = 20 then (if bt281.1 = 2 then (examboardlaw50_awake.j3 kj63 t269 bt283.1 4 2 50 2) else (examboardlaw50_awake.j3 kj63 t269 true 4 2 50 2)) else (examboardlaw50_awake.j3 kj63 t269 true 4 2 50 2)) else (examboardlaw50_awake.j3 kj63 t269 true 4 2 50 2)) else (examboardlaw50_awake.j3 kj63 t269 true 4 2 50 2)) else (examboardlaw50_awake.j3 kj63 t269 true 4 2 50 2)) else (examboardlaw50_awake.j3 kj63 t269 true 4 2 50 2)) else (examboardlaw50_awake.j3 kj63 t269 true 4 2 50 2))))) = some r := H
                    have A98 := Aside0.mk A980
                    clear A980
                    replace H := Option.bind_eq_some_iff.mp H
                    obtain ⟨⟨t279, t280⟩, A990, H⟩ := H
                    replace H : ((incident_Worst.f kj63 t269).bind fun bt281 => ((incident_Hold.f kj63 t269).bind fun bt283 => (if t278 = 0 then (if t280 = 0 then (if bt281.2 = 0 then (if bt283.2 = 0 then (if t277 = 30 then (if t279 = 20 then (if bt281.1 = 2 then (examboardlaw50_awake.j3 kj63 t269 bt283.1 4 2 50 2) else (examboardlaw50_awake.j3 kj63 t269 true 4 2 50 2)) else (examboardlaw50_awake.j3 kj63 t269 true 4 2 50 2)) else (examboardlaw50_awake.j3 kj63 t269 true 4 2 50 2)) else (examboardlaw50_awake.j3 kj63 t269 true 4 2 50 2)) else (examboardlaw50_awake.j3 kj63 t269 true 4 2 50 2)) else (examboardlaw50_awake.j3 kj63 t269 true 4 2 50 2)) else (examboardlaw50_awake.j3 kj63 t269 true 4 2 50 2)))) = some r := H
                    have A99 := Aside0.mk A990
                    clear A990
                    replace H := Option.bind_eq_some_iff.mp H
                    obtain ⟨⟨t281, t282⟩, A1000, H⟩ := H
                    replace H : ((incident_Hold.f kj63 t269).bind fun bt283 => (if t278 = 0 then (if t280 = 0 then (if t282 = 0 then (if bt283.2 = 0 then (if t277 = 30 then (if t279 = 20 then (if t281 = 2 then (examboardlaw50_awake.j3 kj63 t269 bt283.1 4 2 50 2) else (examboardlaw50_awake.j3 kj63 t269 true 4 2 50 2)) else (examboardlaw50_awake.j3 kj63 t269 true 4 2 50 2)) else (examboardlaw50_awake.j3 kj63 t269 true 4 2 50 2)) else (examboardlaw50_awake.j3 kj63 t269 true 4 2 50 2)) else (examboardlaw50_awake.j3 kj63 t269 true 4 2 50 2)) else (examboardlaw50_awake.j3 kj63 t269 true 4 2 50 2)) else (examboardlaw50_awake.j3 kj63 t269 true 4 2 50 2))) = some r := H
                    have A100 := Aside0.mk A1000
                    clear A1000
                    replace H := Option.bind_eq_some_iff.mp H
                    obtain ⟨⟨t283, t284⟩, A1010, H⟩ := H
                    replace H : (if t278 = 0 then (if t280 = 0 then (if t282 = 0 then (if t284 = 0 then (if t277 = 30 then (if t279 = 20 then (if t281 = 2 then (examboardlaw50_awake.j3 kj63 t269 t283 4 2 50 2) else (examboardlaw50_awake.j3 kj63 t269 true 4 2 50 2)) else (examboardlaw50_awake.j3 kj63 t269 true 4 2 50 2)) else (examboardlaw50_awake.j3 kj63 t269 true 4 2 50 2)) else (examboardlaw50_awake.j3 kj63 t269 true 4 2 50 2)) else (examboardlaw50_awake.j3 kj63 t269 true 4 2 50 2)) else (examboardlaw50_awake.j3 kj63 t269 true 4 2 50 2)) else (examboardlaw50_awake.j3 kj63 t269 true 4 2 50 2)) = some r := H
                    have A101 := Aside0.mk A1010
                    clear A1010
                    have HC102 := Aside0.mk H
                    clear H
                    obtain ⟨Ao103, co103, eo103⟩ := Kd.R_slice HO_8.out
                    subst eo103
                    go_upto_region 19 with (first | ((with_reducible refine gate_callee (f := 16) rfl ?_); refine goesL_ (some 95) rfl rfl Tryd.func16 (by kernel_rfl) rfl #[.slice Ao103 t269.length co103, .int .i64 100] rfl (by (try simp only [List.map_toArray, List.map_cons, List.map_nil]); first | done | rfl | (simp only [List.length_drop, List.length_take]; rfl)) ?_; (with_reducible refine (incident_Lost.calls kj63 _ _ t269 100 t277 t278 _ ?side1 ?side2 A98.out).mono ?_); (case side1 => repeat (first | exact (Kd.R_reads' HO_8.out).2.2 | (with_reducible refine Kd.C_alloc ?_ _) | (with_reducible refine Kd.C_drewN ?_ _) | (with_reducible refine Kd.C_drew ?_))); (case side2 => exact (Kd.R_reads' HO_8.out).2.1); rintro e w104 ⟨rfl, hb⟩; refine ⟨_, rfl, ?_⟩; have n0_ := Aside0.mk (Kd.R_below (by (with_reducible repeat (first | apply Kd.R_alloc | apply Kd.R_drewN | apply Kd.R_drew)); exact HO_8.out) hb); have n1_ := Aside0.mk (blk_below (g := gb239) (o := .cells #[.int .i64 1, .int .i64 120, .int .i64 30, .int .i64 1] 23 (0, 0)) (by (with_reducible repeat (first | refine blk_drewN ?_ _ | refine blk_drew ?_ | refine blk_alloc ?_ _)); exact BK239.out) hb); have n2_ := Aside0.mk (blk_below (g := gb240) (o := .cells #[.int .i64 4, .int .i64 2, .int .i64 50, .int .i64 2] 23 (0, 0)) (by (with_reducible repeat (first | refine blk_drewN ?_ _ | refine blk_drew ?_ | refine blk_alloc ?_ _)); exact BK240.out) hb); have n3_ := Aside0.mk (blk_below (g := gb241) (o := .cells #[.int .i64 3, .int .i64 5, .int .i64 0, .int .i64 0] 23 (0, 0)) (by (with_reducible repeat (first | refine blk_drewN ?_ _ | refine blk_drew ?_ | refine blk_alloc ?_ _)); exact BK241.out) hb); have n4_ := Aside0.mk (blk_below (g := gb249) (o := .cells #[.int .i64 t244, .int .i64 t245, .int .i64 t246, .int .i64 t247] 23 (0, 0)) (by (with_reducible repeat (first | refine blk_drewN ?_ _ | refine blk_drew ?_ | refine blk_alloc ?_ _)); exact BK249.out) hb); have n5_ := Aside0.mk (below_step (by repeat (first | (with_reducible first | exact HB.out | apply below_alloc | apply pw_below_drewN | apply below_drew1 | refine below_set ?_ GE239.out | refine below_set ?_ GE240.out | refine below_set ?_ GE241.out | refine below_set ?_ GE249.out) | exact HB.out)) hb); clear HO_8; clear BK239; clear BK240; clear BK241; clear BK249; clear HB; have HO_8 := n0_; have BK239 := n1_; have BK240 := n2_; have BK241 := n3_; have BK249 := n4_; have HB := n5_; clear n0_ n1_ n2_ n3_ n4_ n5_; (try clear hb); (try clear hb2); (try clear hk); (try clear hi)) | ((with_reducible refine gate_callee (f := 16) rfl ?_); refine goesL_ (some 100) rfl rfl Tryd.func16 (by kernel_rfl) rfl #[.slice Ao103 t269.length co103, .int .i64 20] rfl (by (try simp only [List.map_toArray, List.map_cons, List.map_nil]); first | done | rfl | (simp only [List.length_drop, List.length_take]; rfl)) ?_; (with_reducible refine (incident_Lost.calls kj63 _ _ t269 20 t279 t280 _ ?side1 ?side2 A99.out).mono ?_); (case side1 => repeat (first | exact (Kd.R_reads' HO_8.out).2.2 | (with_reducible refine Kd.C_alloc ?_ _) | (with_reducible refine Kd.C_drewN ?_ _) | (with_reducible refine Kd.C_drew ?_))); (case side2 => exact (Kd.R_reads' HO_8.out).2.1); rintro e w105 ⟨rfl, hb⟩; refine ⟨_, rfl, ?_⟩; have n0_ := Aside0.mk (Kd.R_below (by (with_reducible repeat (first | apply Kd.R_alloc | apply Kd.R_drewN | apply Kd.R_drew)); exact HO_8.out) hb); have n1_ := Aside0.mk (blk_below (g := gb239) (o := .cells #[.int .i64 1, .int .i64 120, .int .i64 30, .int .i64 1] 23 (0, 0)) (by (with_reducible repeat (first | refine blk_drewN ?_ _ | refine blk_drew ?_ | refine blk_alloc ?_ _)); exact BK239.out) hb); have n2_ := Aside0.mk (blk_below (g := gb240) (o := .cells #[.int .i64 4, .int .i64 2, .int .i64 50, .int .i64 2] 23 (0, 0)) (by (with_reducible repeat (first | refine blk_drewN ?_ _ | refine blk_drew ?_ | refine blk_alloc ?_ _)); exact BK240.out) hb); have n3_ := Aside0.mk (blk_below (g := gb241) (o := .cells #[.int .i64 3, .int .i64 5, .int .i64 0, .int .i64 0] 23 (0, 0)) (by (with_reducible repeat (first | refine blk_drewN ?_ _ | refine blk_drew ?_ | refine blk_alloc ?_ _)); exact BK241.out) hb); have n4_ := Aside0.mk (blk_below (g := gb249) (o := .cells #[.int .i64 t244, .int .i64 t245, .int .i64 t246, .int .i64 t247] 23 (0, 0)) (by (with_reducible repeat (first | refine blk_drewN ?_ _ | refine blk_drew ?_ | refine blk_alloc ?_ _)); exact BK249.out) hb); have n5_ := Aside0.mk (below_step (by repeat (first | (with_reducible first | exact HB.out | apply below_alloc | apply pw_below_drewN | apply below_drew1 | refine below_set ?_ GE239.out | refine below_set ?_ GE240.out | refine below_set ?_ GE241.out | refine below_set ?_ GE249.out) | exact HB.out)) hb); clear HO_8; clear BK239; clear BK240; clear BK241; clear BK249; clear HB; have HO_8 := n0_; have BK239 := n1_; have BK240 := n2_; have BK241 := n3_; have BK249 := n4_; have HB := n5_; clear n0_ n1_ n2_ n3_ n4_ n5_; (try clear hb); (try clear hb2); (try clear hk); (try clear hi)) | ((with_reducible refine gate_callee (f := 18) rfl ?_); refine goesL_ (some 105) rfl rfl Tryd.func18 (by kernel_rfl) rfl #[.slice Ao103 t269.length co103] rfl (by (try simp only [List.map_toArray, List.map_cons, List.map_nil]); first | done | rfl | (simp only [List.length_drop, List.length_take]; rfl)) ?_; (with_reducible refine (incident_Worst.calls kj63 _ _ t269 t281 t282 _ ?side1 ?side2 A100.out).mono ?_); (case side1 => repeat (first | exact (Kd.R_reads' HO_8.out).2.2 | (with_reducible refine Kd.C_alloc ?_ _) | (with_reducible refine Kd.C_drewN ?_ _) | (with_reducible refine Kd.C_drew ?_))); (case side2 => exact (Kd.R_reads' HO_8.out).2.1); rintro e w106 ⟨rfl, hb⟩; refine ⟨_, rfl, ?_⟩; have n0_ := Aside0.mk (Kd.R_below (by (with_reducible repeat (first | apply Kd.R_alloc | apply Kd.R_drewN | apply Kd.R_drew)); exact HO_8.out) hb); have n1_ := Aside0.mk (blk_below (g := gb239) (o := .cells #[.int .i64 1, .int .i64 120, .int .i64 30, .int .i64 1] 23 (0, 0)) (by (with_reducible repeat (first | refine blk_drewN ?_ _ | refine blk_drew ?_ | refine blk_alloc ?_ _)); exact BK239.out) hb); have n2_ := Aside0.mk (blk_below (g := gb240) (o := .cells #[.int .i64 4, .int .i64 2, .int .i64 50, .int .i64 2] 23 (0, 0)) (by (with_reducible repeat (first | refine blk_drewN ?_ _ | refine blk_drew ?_ | refine blk_alloc ?_ _)); exact BK240.out) hb); have n3_ := Aside0.mk (blk_below (g := gb241) (o := .cells #[.int .i64 3, .int .i64 5, .int .i64 0, .int .i64 0] 23 (0, 0)) (by (with_reducible repeat (first | refine blk_drewN ?_ _ | refine blk_drew ?_ | refine blk_alloc ?_ _)); exact BK241.out) hb); have n4_ := Aside0.mk (blk_below (g := gb249) (o := .cells #[.int .i64 t244, .int .i64 t245, .int .i64 t246, .int .i64 t247] 23 (0, 0)) (by (with_reducible repeat (first | refine blk_drewN ?_ _ | refine blk_drew ?_ | refine blk_alloc ?_ _)); exact BK249.out) hb); have n5_ := Aside0.mk (below_step (by repeat (first | (with_reducible first | exact HB.out | apply below_alloc | apply pw_below_drewN | apply below_drew1 | refine below_set ?_ GE239.out | refine below_set ?_ GE240.out | refine below_set ?_ GE241.out | refine below_set ?_ GE249.out) | exact HB.out)) hb); clear HO_8; clear BK239; clear BK240; clear BK241; clear BK249; clear HB; have HO_8 := n0_; have BK239 := n1_; have BK240 := n2_; have BK241 := n3_; have BK249 := n4_; have HB := n5_; clear n0_ n1_ n2_ n3_ n4_ n5_; (try clear hb); (try clear hb2); (try clear hk); (try clear hi)) | ((with_reducible refine gate_callee (f := 20) rfl ?_); refine goesL_ (some 110) rfl rfl Tryd.func20 (by kernel_rfl) rfl #[.slice Ao103 t269.length co103] rfl (by (try simp only [List.map_toArray, List.map_cons, List.map_nil]); first | done | rfl | (simp only [List.length_drop, List.length_take]; rfl)) ?_; (with_reducible refine (incident_Hold.calls kj63 _ _ t269 t283 t284 _ ?side1 ?side2 A101.out).mono ?_); (case side1 => repeat (first | exact (Kd.R_reads' HO_8.out).2.2 | (with_reducible refine Kd.C_alloc ?_ _) | (with_reducible refine Kd.C_drewN ?_ _) | (with_reducible refine Kd.C_drew ?_))); (case side2 => exact (Kd.R_reads' HO_8.out).2.1); rintro e w107 ⟨rfl, hb⟩; refine ⟨_, rfl, ?_⟩; have n0_ := Aside0.mk (Kd.R_below (by (with_reducible repeat (first | apply Kd.R_alloc | apply Kd.R_drewN | apply Kd.R_drew)); exact HO_8.out) hb); have n1_ := Aside0.mk (blk_below (g := gb239) (o := .cells #[.int .i64 1, .int .i64 120, .int .i64 30, .int .i64 1] 23 (0, 0)) (by (with_reducible repeat (first | refine blk_drewN ?_ _ | refine blk_drew ?_ | refine blk_alloc ?_ _)); exact BK239.out) hb); have n2_ := Aside0.mk (blk_below (g := gb240) (o := .cells #[.int .i64 4, .int .i64 2, .int .i64 50, .int .i64 2] 23 (0, 0)) (by (with_reducible repeat (first | refine blk_drewN ?_ _ | refine blk_drew ?_ | refine blk_alloc ?_ _)); exact BK240.out) hb); have n3_ := Aside0.mk (blk_below (g := gb241) (o := .cells #[.int .i64 3, .int .i64 5, .int .i64 0, .int .i64 0] 23 (0, 0)) (by (with_reducible repeat (first | refine blk_drewN ?_ _ | refine blk_drew ?_ | refine blk_alloc ?_ _)); exact BK241.out) hb); have n4_ := Aside0.mk (blk_below (g := gb249) (o := .cells #[.int .i64 t244, .int .i64 t245, .int .i64 t246, .int .i64 t247] 23 (0, 0)) (by (with_reducible repeat (first | refine blk_drewN ?_ _ | refine blk_drew ?_ | refine blk_alloc ?_ _)); exact BK249.out) hb); have n5_ := Aside0.mk (below_step (by repeat (first | (with_reducible first | exact HB.out | apply below_alloc | apply pw_below_drewN | apply below_drew1 | refine below_set ?_ GE239.out | refine below_set ?_ GE240.out | refine below_set ?_ GE241.out | refine below_set ?_ GE249.out) | exact HB.out)) hb); clear HO_8; clear BK239; clear BK240; clear BK241; clear BK249; clear HB; have HO_8 := n0_; have BK239 := n1_; have BK240 := n2_; have BK241 := n3_; have BK249 := n4_; have HB := n5_; clear n0_ n1_ n2_ n3_ n4_ n5_; (try clear hb); (try clear hb2); (try clear hk); (try clear hi)))
                    (try simp only [Act.put, List.setIfInBounds_toArray, List.set_cons_zero, List.set_cons_succ])
                    go_cut [141] (fun v141 wc => ∃ (kq : Nat) (x141_101 : Bool), v141 = .bool x141_101 ∧ Aside0 (examboardlaw50_awake.j3 kq t269 x141_101 4 2 50 2 = some r) ∧ Aside0 (kq ≤ kj63) ∧ Aside0 (Kd.R k23 23 wc w.heap.size (fun k_ => k_ ≠ gb239 ∧ k_ ≠ gb240 ∧ k_ ≠ gb241 ∧ k_ ≠ gb249) (.slice Ao103 t269.length co103) t269) ∧ Aside0 (wc.heap[gb239]? = some (.cells #[.int .i64 1, .int .i64 120, .int .i64 30, .int .i64 1] 23 (0, 0))) ∧ Aside0 (wc.heap[gb240]? = some (.cells #[.int .i64 4, .int .i64 2, .int .i64 50, .int .i64 2] 23 (0, 0))) ∧ Aside0 (wc.heap[gb241]? = some (.cells #[.int .i64 3, .int .i64 5, .int .i64 0, .int .i64 0] 23 (0, 0))) ∧ Aside0 (wc.heap[gb249]? = some (.cells #[.int .i64 t244, .int .i64 t245, .int .i64 t246, .int .i64 t247] 23 (0, 0))) ∧ Aside0 (Below w.heap.size w wc))
                    case first =>
                      have H := HC102.out
                      clear HC102
                      by_cases c108 : t278 = 0
                      · rw [if_pos c108] at H
                        have c108b0 : (t278 == 0) = true := beq_iff_eq.mpr c108
                        have c108b1 : (t278 != 0) = false := bne_eq_false_iff_eq.mpr c108
                        clear c108
                        (first | rw [c108b0] | (simp only [i64_w, i32_w]; rw [c108b0]) | skip)
                        by_cases c109 : t280 = 0
                        · rw [if_pos c109] at H
                          have c109b0 : (t280 == 0) = true := beq_iff_eq.mpr c109
                          have c109b1 : (t280 != 0) = false := bne_eq_false_iff_eq.mpr c109
                          clear c109
                          by_cases c110 : t282 = 0
                          · rw [if_pos c110] at H
                            have c110b0 : (t282 == 0) = true := beq_iff_eq.mpr c110
                            have c110b1 : (t282 != 0) = false := bne_eq_false_iff_eq.mpr c110
                            clear c110
                            by_cases c111 : t284 = 0
                            · rw [if_pos c111] at H
                              have c111b0 : (t284 == 0) = true := beq_iff_eq.mpr c111
                              have c111b1 : (t284 != 0) = false := bne_eq_false_iff_eq.mpr c111
                              clear c111
                              by_cases c112 : t277 = 30
                              · rw [if_pos c112] at H
                                have c112b0 : (t277 == 30) = true := beq_iff_eq.mpr c112
                                have c112b1 : (t277 != 30) = false := bne_eq_false_iff_eq.mpr c112
                                clear c112
                                by_cases c113 : t279 = 20
                                · rw [if_pos c113] at H
                                  have c113b0 : (t279 == 20) = true := beq_iff_eq.mpr c113
                                  have c113b1 : (t279 != 20) = false := bne_eq_false_iff_eq.mpr c113
                                  clear c113
                                  by_cases c114 : t281 = 2
                                  · rw [if_pos c114] at H
                                    have c114b0 : (t281 == 2) = true := beq_iff_eq.mpr c114
                                    have c114b1 : (t281 != 2) = false := bne_eq_false_iff_eq.mpr c114
                                    clear c114
                                    have H' := Aside0.mk H
                                    clear H
                                    go_wp2
                                    go_meet
                                    case rel => exact ⟨_, (t283), (by first | rfl | (simp; done) | (simp [*]; done)), H', ⟨by have := HJ2.out; have := HJ33.out; have := HJ63.out; first | omega | exact Nat.le_refl _⟩, ⟨by (with_reducible repeat (first | apply Kd.R_alloc | apply Kd.R_drewN | apply Kd.R_drew)); exact HO_8.out⟩, ⟨by (with_reducible repeat (first | refine blk_drewN ?_ _ | refine blk_drew ?_ | refine blk_alloc ?_ _)); exact BK239.out⟩, ⟨by (with_reducible repeat (first | refine blk_drewN ?_ _ | refine blk_drew ?_ | refine blk_alloc ?_ _)); exact BK240.out⟩, ⟨by (with_reducible repeat (first | refine blk_drewN ?_ _ | refine blk_drew ?_ | refine blk_alloc ?_ _)); exact BK241.out⟩, ⟨by (with_reducible repeat (first | refine blk_drewN ?_ _ | refine blk_drew ?_ | refine blk_alloc ?_ _)); exact BK249.out⟩, ⟨by repeat (first | (with_reducible first | exact HB.out | apply below_alloc | apply pw_below_drewN | apply below_drew1 | refine below_set ?_ GE239.out | refine below_set ?_ GE240.out | refine below_set ?_ GE241.out | refine below_set ?_ GE249.out) | exact HB.out)⟩⟩
                                  · rw [if_neg c114] at H
                                    first | exact absurd (hr.symm.trans (aw0 H)) (by decide) | exact absurd (hr.symm.trans (aw1 H)) (by decide) | exact absurd (hr.symm.trans (aw2 H)) (by decide) | exact absurd (hr.symm.trans (aw3 H)) (by decide)
                                · rw [if_neg c113] at H
                                  first | exact absurd (hr.symm.trans (aw0 H)) (by decide) | exact absurd (hr.symm.trans (aw1 H)) (by decide) | exact absurd (hr.symm.trans (aw2 H)) (by decide) | exact absurd (hr.symm.trans (aw3 H)) (by decide)
                              · rw [if_neg c112] at H
                                first | exact absurd (hr.symm.trans (aw0 H)) (by decide) | exact absurd (hr.symm.trans (aw1 H)) (by decide) | exact absurd (hr.symm.trans (aw2 H)) (by decide) | exact absurd (hr.symm.trans (aw3 H)) (by decide)
                            · rw [if_neg c111] at H
                              first | exact absurd (hr.symm.trans (aw0 H)) (by decide) | exact absurd (hr.symm.trans (aw1 H)) (by decide) | exact absurd (hr.symm.trans (aw2 H)) (by decide) | exact absurd (hr.symm.trans (aw3 H)) (by decide)
                          · rw [if_neg c110] at H
                            first | exact absurd (hr.symm.trans (aw0 H)) (by decide) | exact absurd (hr.symm.trans (aw1 H)) (by decide) | exact absurd (hr.symm.trans (aw2 H)) (by decide) | exact absurd (hr.symm.trans (aw3 H)) (by decide)
                        · rw [if_neg c109] at H
                          first | exact absurd (hr.symm.trans (aw0 H)) (by decide) | exact absurd (hr.symm.trans (aw1 H)) (by decide) | exact absurd (hr.symm.trans (aw2 H)) (by decide) | exact absurd (hr.symm.trans (aw3 H)) (by decide)
                      · rw [if_neg c108] at H
                        first | exact absurd (hr.symm.trans (aw0 H)) (by decide) | exact absurd (hr.symm.trans (aw1 H)) (by decide) | exact absurd (hr.symm.trans (aw2 H)) (by decide) | exact absurd (hr.symm.trans (aw3 H)) (by decide)
                    case rest =>
                      clear HC102
                      try clear c1
                      try clear c2
                      try clear p2
                      try clear c3
                      try clear c4
                      try clear c5
                      try clear c6
                      try clear c7
                      try clear c8
                      try clear c9
                      try clear c10
                      try clear c11
                      try clear c15
                      try clear c16
                      try clear c17
                      try clear c18
                      try clear c19
                      try clear c20
                      try clear c21
                      try clear c21b0
                      try clear c21b1
                      try clear c22
                      try clear c22b0
                      try clear c22b1
                      try clear c23
                      try clear c23b0
                      try clear c23b1
                      try clear c24
                      try clear c25
                      try clear c26
                      try clear c27
                      try clear c28
                      try clear c29
                      try clear c31
                      try clear c37
                      try clear c37b0
                      try clear c37b1
                      try clear c38
                      try clear c38b0
                      try clear c38b1
                      try clear c40
                      try clear c40b0
                      try clear c40b1
                      try clear c42
                      try clear c42b0
                      try clear c42b1
                      try clear c44
                      try clear c45
                      try clear c46
                      try clear c51
                      try clear c52
                      try clear c53
                      try clear c57
                      try clear c58
                      try clear c59
                      try clear c62
                      try clear c65
                      try clear c66
                      try clear c67
                      try clear c69
                      try clear c70
                      try clear c75
                      try clear c82
                      try clear c82b0
                      try clear c82b1
                      try clear c84
                      try clear c85
                      try clear c86
                      try clear c88
                      try clear c89
                      try clear c91
                      try clear c97
                      try clear c108
                      try clear c108b0
                      try clear c108b1
                      try clear c109
                      try clear c109b0
                      try clear c109b1
                      try clear c110
                      try clear c110b0
                      try clear c110b1
                      try clear c111
                      try clear c111b0
                      try clear c111b1
                      try clear c112
                      try clear c112b0
                      try clear c112b1
                      try clear c113
                      try clear c113b0
                      try clear c113b1
                      try clear c114
                      try clear c114b0
                      try clear c114b1
                      try clear hcz12_0
                      try clear hcz12_1
                      try clear hcz12_2
                      try clear hcz12_3
                      try clear hcz13_0
                      try clear hcz13_1
                      try clear hcz13_2
                      try clear hcz13_3
                      try clear hcz20_0
                      try clear hcz20_1
                      try clear hcz20_2
                      try clear hcz20_3
                      try clear hcz27_0
                      try clear hcz27_1
                      try clear hcz27_2
                      try clear hcz27_3
                      try clear hcz30_0
                      try clear hcz30_1
                      try clear hcz30_2
                      try clear hcz30_3
                      try clear hcz47_0
                      try clear hcz47_1
                      try clear hcz47_2
                      try clear hcz47_3
                      try clear hcz54_0
                      try clear hcz54_1
                      try clear hcz54_2
                      try clear hcz54_3
                      try clear hcz5_0
                      try clear hcz5_1
                      try clear hcz5_2
                      try clear hcz5_3
                      try clear hcz60_0
                      try clear hcz60_1
                      try clear hcz60_2
                      try clear hcz60_3
                      try clear hcz68_0
                      try clear hcz68_1
                      try clear hcz68_2
                      try clear hcz68_3
                      try clear hcz71_0
                      try clear hcz71_1
                      try clear hcz71_2
                      try clear hcz71_3
                      try clear hcz74_0
                      try clear hcz74_1
                      try clear hcz74_2
                      try clear hcz74_3
                      try clear hcz76_0
                      try clear hcz76_1
                      try clear hcz76_2
                      try clear hcz76_3
                      try clear hcz87_0
                      try clear hcz87_1
                      try clear hcz87_2
                      try clear hcz87_3
                      try clear hcz8_0
                      try clear hcz8_1
                      try clear hcz8_2
                      try clear hcz8_3
                      try clear hcz90_0
                      try clear hcz90_1
                      try clear hcz90_2
                      try clear hcz90_3
                      try clear hcz92_0
                      try clear hcz92_1
                      try clear hcz92_2
                      try clear hcz92_3
                      try clear hfz12_0
                      try clear hfz12_1
                      try clear hfz12_2
                      try clear hfz12_3
                      try clear hfz13_0
                      try clear hfz13_1
                      try clear hfz13_2
                      try clear hfz13_3
                      try clear hfz20_0
                      try clear hfz20_1
                      try clear hfz20_2
                      try clear hfz20_3
                      try clear hfz27_0
                      try clear hfz27_1
                      try clear hfz27_2
                      try clear hfz27_3
                      try clear hfz30_0
                      try clear hfz30_1
                      try clear hfz30_2
                      try clear hfz30_3
                      try clear hfz47_0
                      try clear hfz47_1
                      try clear hfz47_2
                      try clear hfz47_3
                      try clear hfz54_0
                      try clear hfz54_1
                      try clear hfz54_2
                      try clear hfz54_3
                      try clear hfz5_0
                      try clear hfz5_1
                      try clear hfz5_2
                      try clear hfz5_3
                      try clear hfz60_0
                      try clear hfz60_1
                      try clear hfz60_2
                      try clear hfz60_3
                      try clear hfz68_0
                      try clear hfz68_1
                      try clear hfz68_2
                      try clear hfz68_3
                      try clear hfz71_0
                      try clear hfz71_1
                      try clear hfz71_2
                      try clear hfz71_3
                      try clear hfz74_0
                      try clear hfz74_1
                      try clear hfz74_2
                      try clear hfz74_3
                      try clear hfz76_0
                      try clear hfz76_1
                      try clear hfz76_2
                      try clear hfz76_3
                      try clear hfz87_0
                      try clear hfz87_1
                      try clear hfz87_2
                      try clear hfz87_3
                      try clear hfz8_0
                      try clear hfz8_1
                      try clear hfz8_2
                      try clear hfz8_3
                      try clear hfz90_0
                      try clear hfz90_1
                      try clear hfz90_2
                      try clear hfz90_3
                      try clear hfz92_0
                      try clear hfz92_1
                      try clear hfz92_2
                      try clear hfz92_3
                      try clear p2
                      obtain ⟨kq, x141_101, rfl, HA, HJ101, HO_8, BK239, BK240, BK241, BK249, HB⟩ := hcut
                      cases kq with
                      | zero => exact absurd HA.out (by simp [examboardlaw50_awake.j3])
                      | succ kj101 =>
                        have H := HA.out
                        clear HA
                        simp only [examboardlaw50_awake.j3] at H
                        by_cases c115 : x141_101 = true
                        · subst c115
                          have H1 : (some false) = some r := by rw [if_pos rfl] at H; exact H
                          exact absurd (hr.symm.trans (Option.some.inj H1).symm) (by decide)
                        · replace c115 := Bool.eq_false_iff.mpr c115
                          subst c115
                          have H1 : ((incident_Hold.f kj101 (([(⟨4, 2, 50, 2⟩ : S23), (⟨4, 2, 50, 2⟩ : S23)] : List (S23)))).bind fun bt288 => ((incident_Counts.f kj101 t269).bind fun bt290 => (if bt288.2 = 0 then (if bt290.2 = 0 then (if bt288.1 = true then ((examboardref13_SameInts.f kj101 bt290.1 (([1, 0, 1, 1, 0, 0] : List Int))).bind fun t297 => (some t297)) else (some false)) else (some false)) else (some false)))) = some r := by rw [if_neg (show ¬ (false = true) by decide)] at H; exact H
                          clear H
                          have H := H1
                          clear H1
                          obtain ⟨y285, hy285⟩ : ∃ y_ : List (S23), y_ = (([(⟨4, 2, 50, 2⟩ : S23), (⟨4, 2, 50, 2⟩ : S23)] : List (S23))) := ⟨_, rfl⟩
                          replace H : ((incident_Hold.f kj101 y285).bind fun bt288 => ((incident_Counts.f kj101 t269).bind fun bt290 => (if bt288.2 = 0 then (if bt290.2 = 0 then (if bt288.1 = true then ((examboardref13_SameInts.f kj101 bt290.1 (([1, 0, 1, 1, 0, 0] : List Int))).bind fun t297 => (some t297)) else (some false)) else (some false)) else (some false)))) = some r := by first | (rw [hy285]; with_reducible exact H) | (have H2_ := (Option.bind_some _ _).symm.trans H; rw [hy285]; with_reducible exact H2_) | (have H2_ := (Option.bind_some _ _).symm.trans H; with_reducible exact H2_) | with_reducible exact H | (rw [hy285]; exact H) | exact H
                          have Ny285 := Aside0.mk hy285
                          clear hy285
                          replace H := Option.bind_eq_some_iff.mp H
                          obtain ⟨⟨t288, t289⟩, A1160, H⟩ := H
                          replace H : ((incident_Counts.f kj101 t269).bind fun bt290 => (if t289 = 0 then (if bt290.2 = 0 then (if t288 = true then ((examboardref13_SameInts.f kj101 bt290.1 (([1, 0, 1, 1, 0, 0] : List Int))).bind fun t297 => (some t297)) else (some false)) else (some false)) else (some false))) = some r := H
                          have A116 := Aside0.mk A1160
                          clear A1160
                          replace H := Option.bind_eq_some_iff.mp H
                          obtain ⟨⟨t290, t291⟩, A1170, H⟩ := H
                          replace H : (if t289 = 0 then (if t291 = 0 then (if t288 = true then ((examboardref13_SameInts.f kj101 t290 (([1, 0, 1, 1, 0, 0] : List Int))).bind fun t297 => (some t297)) else (some false)) else (some false)) else (some false)) = some r := H
                          have A117 := Aside0.mk A1170
                          clear A1170
                          by_cases c118 : t289 = 0
                          · rw [if_pos c118] at H
                            have c118b0 : (t289 == 0) = true := beq_iff_eq.mpr c118
                            have c118b1 : (t289 != 0) = false := bne_eq_false_iff_eq.mpr c118
                            clear c118
                            by_cases c119 : t291 = 0
                            · rw [if_pos c119] at H
                              have c119b0 : (t291 == 0) = true := beq_iff_eq.mpr c119
                              have c119b1 : (t291 != 0) = false := bne_eq_false_iff_eq.mpr c119
                              clear c119
                              by_cases c120 : t288 = true
                              · subst c120
                                have H1 : ((examboardref13_SameInts.f kj101 t290 (([1, 0, 1, 1, 0, 0] : List Int))).bind fun t297 => (some t297)) = some r := by rw [if_pos rfl] at H; exact H
                                clear H
                                have H := H1
                                clear H1
                                obtain ⟨y294, hy294⟩ : ∃ y_ : List Int, y_ = (([1, 0, 1, 1, 0, 0] : List Int)) := ⟨_, rfl⟩
                                replace H : ((examboardref13_SameInts.f kj101 t290 y294).bind fun t297 => (some t297)) = some r := by first | (rw [hy294]; with_reducible exact H) | (have H2_ := (Option.bind_some _ _).symm.trans H; rw [hy294]; with_reducible exact H2_) | (have H2_ := (Option.bind_some _ _).symm.trans H; with_reducible exact H2_) | with_reducible exact H | (rw [hy294]; exact H) | exact H
                                have Ny294 := Aside0.mk hy294
                                clear hy294
                                replace H := Option.bind_eq_some_iff.mp H
                                obtain ⟨t297, A1210, H⟩ := H
                                replace H : (some t297) = some r := H
                                have A121 := Aside0.mk A1210
                                clear A1210
                                obtain rfl := Option.some.inj H
                                have hnb122 := NB240_239.out
                                have hnc122 := NB239_240.out
                                have hnb123 := NB240_241.out
                                have hnc123 := NB241_240.out
                                have hnb124 := NB240_249.out
                                have hnc124 := NB249_240.out
                                have hcz125_0 : wc.cell? ⟨gb240, 0, none⟩ = some (.int .i64 4) := (blk_cell BK240.out 0).trans rfl
                                have hcz125_1 : wc.cell? ⟨gb240, 1, none⟩ = some (.int .i64 2) := (blk_cell BK240.out 1).trans rfl
                                have hcz125_2 : wc.cell? ⟨gb240, 2, none⟩ = some (.int .i64 50) := (blk_cell BK240.out 2).trans rfl
                                have hcz125_3 : wc.cell? ⟨gb240, 3, none⟩ = some (.int .i64 2) := (blk_cell BK240.out 3).trans rfl
                                have hfz125_0 := blk_frozen BK240.out 0
                                have hfz125_1 := blk_frozen BK240.out 1
                                have hfz125_2 := blk_frozen BK240.out 2
                                have hfz125_3 := blk_frozen BK240.out 3
                                go_wp2_with (first | ((with_reducible refine gate_dst (N := 145) rfl ?_); (try (refine gate_guard (by rfl) ?_; dsimp only)); refine Kd.R_lit k23 _ 23 ?hg (N := 145) ?hd (xs := ([(⟨4, 2, 50, 2⟩ : S23), (⟨4, 2, 50, 2⟩ : S23)] : List (S23))) (inner := [.int .i64 4, .int .i64 2, .int .i64 50, .int .i64 2, .int .i64 4, .int .i64 2, .int .i64 50, .int .i64 2]) (ok := fun _ => True) (okp := fun _ => True) ?hr ?hp (fun _ hk => hk) trivial (Below.refl _ _) (Nat.le_refl _) (by simp) ?_; (case hd => rfl); (case hg => rfl); (case hr => first | (go_simp; done) | (go_simp; rfl)); (case hp => exact (Reps.c4 (show Kd.M k23 _ _ _ (⟨4, 2, 50, 2⟩ : S23) [.int .i64 4, .int .i64 2, .int .i64 50, .int .i64 2] from (k23_mkM _ _ _ (⟨4, 2, 50, 2⟩ : S23) )) (Reps.c4 (show Kd.M k23 _ _ _ (⟨4, 2, 50, 2⟩ : S23) [.int .i64 4, .int .i64 2, .int .i64 50, .int .i64 2] from (k23_mkM _ _ _ (⟨4, 2, 50, 2⟩ : S23) )) (Reps.none _ _)))); intro v286 w126 ho127 hb hg_ hnew_; clear hg_ hnew_; (first | rw [← Ny285.out] at ho127 | (simp only [Int.reduceToNat] at ho127; rw [← Ny285.out] at ho127)); have n0_ := Aside0.mk (Kd.R_elder' (by (with_reducible repeat (first | apply Kd.R_alloc | apply Kd.R_drewN | apply Kd.R_drew)); exact HO_8.out) (Kd.R_base ho127) hb); have n1_ := Aside0.mk (Kd.R_lower (Kd.R_newB (Kd.R_newB (Kd.R_newB (Kd.R_newB (Kd.R_new' ho127 (Kd.R_lt (by (with_reducible repeat (first | apply Kd.R_alloc | apply Kd.R_drewN | apply Kd.R_drew)); exact HO_8.out))) (g := gb239) (o := .cells #[.int .i64 1, .int .i64 120, .int .i64 30, .int .i64 1] 23 (0, 0)) (by (with_reducible repeat (first | refine blk_drewN ?_ _ | refine blk_drew ?_ | refine blk_alloc ?_ _)); exact BK239.out)) (g := gb240) (o := .cells #[.int .i64 4, .int .i64 2, .int .i64 50, .int .i64 2] 23 (0, 0)) (by (with_reducible repeat (first | refine blk_drewN ?_ _ | refine blk_drew ?_ | refine blk_alloc ?_ _)); exact BK240.out)) (g := gb241) (o := .cells #[.int .i64 3, .int .i64 5, .int .i64 0, .int .i64 0] 23 (0, 0)) (by (with_reducible repeat (first | refine blk_drewN ?_ _ | refine blk_drew ?_ | refine blk_alloc ?_ _)); exact BK241.out)) (g := gb249) (o := .cells #[.int .i64 t244, .int .i64 t245, .int .i64 t246, .int .i64 t247] 23 (0, 0)) (by (with_reducible repeat (first | refine blk_drewN ?_ _ | refine blk_drew ?_ | refine blk_alloc ?_ _)); exact BK249.out)) (below_size (by repeat (first | (with_reducible first | exact HB.out | apply below_alloc | apply pw_below_drewN | apply below_drew1 | refine below_set ?_ GE239.out | refine below_set ?_ GE240.out | refine below_set ?_ GE241.out | refine below_set ?_ GE249.out) | exact HB.out)))); have n2_ := Aside0.mk (blk_below (g := gb239) (o := .cells #[.int .i64 1, .int .i64 120, .int .i64 30, .int .i64 1] 23 (0, 0)) (by (with_reducible repeat (first | refine blk_drewN ?_ _ | refine blk_drew ?_ | refine blk_alloc ?_ _)); exact BK239.out) hb); have n3_ := Aside0.mk (blk_below (g := gb240) (o := .cells #[.int .i64 4, .int .i64 2, .int .i64 50, .int .i64 2] 23 (0, 0)) (by (with_reducible repeat (first | refine blk_drewN ?_ _ | refine blk_drew ?_ | refine blk_alloc ?_ _)); exact BK240.out) hb); have n4_ := Aside0.mk (blk_below (g := gb241) (o := .cells #[.int .i64 3, .int .i64 5, .int .i64 0, .int .i64 0] 23 (0, 0)) (by (with_reducible repeat (first | refine blk_drewN ?_ _ | refine blk_drew ?_ | refine blk_alloc ?_ _)); exact BK241.out) hb); have n5_ := Aside0.mk (blk_below (g := gb249) (o := .cells #[.int .i64 t244, .int .i64 t245, .int .i64 t246, .int .i64 t247] 23 (0, 0)) (by (with_reducible repeat (first | refine blk_drewN ?_ _ | refine blk_drew ?_ | refine blk_alloc ?_ _)); exact BK249.out) hb); have n6_ := Aside0.mk (below_step (by repeat (first | (with_reducible first | exact HB.out | apply below_alloc | apply pw_below_drewN | apply below_drew1 | refine below_set ?_ GE239.out | refine below_set ?_ GE240.out | refine below_set ?_ GE241.out | refine below_set ?_ GE249.out) | exact HB.out)) hb); clear HO_8; clear BK239; clear BK240; clear BK241; clear BK249; clear HB; have HO_8 := n0_; have HO287 := n1_; have BK239 := n2_; have BK240 := n3_; have BK241 := n4_; have BK249 := n5_; have HB := n6_; clear n0_ n1_ n2_ n3_ n4_ n5_ n6_; clear hb ho127; obtain ⟨Ao128, co128, eo128⟩ := Kd.R_slice HO287.out; subst eo128) | ((with_reducible refine gate_callee (f := 20) rfl ?_); refine goesL_ (some 146) rfl rfl Tryd.func20 (by kernel_rfl) rfl #[.slice Ao128 y285.length co128] rfl (by (try simp only [List.map_toArray, List.map_cons, List.map_nil]); first | done | rfl | (simp only [List.length_drop, List.length_take]; rfl)) ?_; (with_reducible refine (incident_Hold.calls kj101 _ _ y285 true t289 _ ?side1 ?side2 A116.out).mono ?_); (case side1 => repeat (first | exact (Kd.R_reads' HO287.out).2.2 | (with_reducible refine Kd.C_alloc ?_ _) | (with_reducible refine Kd.C_drewN ?_ _) | (with_reducible refine Kd.C_drew ?_))); (case side2 => exact (Kd.R_reads' HO287.out).2.1); rintro e w129 ⟨rfl, hb⟩; refine ⟨_, rfl, ?_⟩; have n0_ := Aside0.mk (Kd.R_below (by (with_reducible repeat (first | apply Kd.R_alloc | apply Kd.R_drewN | apply Kd.R_drew)); exact HO_8.out) hb); have n1_ := Aside0.mk (Kd.R_below (by (with_reducible repeat (first | apply Kd.R_alloc | apply Kd.R_drewN | apply Kd.R_drew)); exact HO287.out) hb); have n2_ := Aside0.mk (blk_below (g := gb239) (o := .cells #[.int .i64 1, .int .i64 120, .int .i64 30, .int .i64 1] 23 (0, 0)) (by (with_reducible repeat (first | refine blk_drewN ?_ _ | refine blk_drew ?_ | refine blk_alloc ?_ _)); exact BK239.out) hb); have n3_ := Aside0.mk (blk_below (g := gb240) (o := .cells #[.int .i64 4, .int .i64 2, .int .i64 50, .int .i64 2] 23 (0, 0)) (by (with_reducible repeat (first | refine blk_drewN ?_ _ | refine blk_drew ?_ | refine blk_alloc ?_ _)); exact BK240.out) hb); have n4_ := Aside0.mk (blk_below (g := gb241) (o := .cells #[.int .i64 3, .int .i64 5, .int .i64 0, .int .i64 0] 23 (0, 0)) (by (with_reducible repeat (first | refine blk_drewN ?_ _ | refine blk_drew ?_ | refine blk_alloc ?_ _)); exact BK241.out) hb); have n5_ := Aside0.mk (blk_below (g := gb249) (o := .cells #[.int .i64 t244, .int .i64 t245, .int .i64 t246, .int .i64 t247] 23 (0, 0)) (by (with_reducible repeat (first | refine blk_drewN ?_ _ | refine blk_drew ?_ | refine blk_alloc ?_ _)); exact BK249.out) hb); have n6_ := Aside0.mk (below_step (by repeat (first | (with_reducible first | exact HB.out | apply below_alloc | apply pw_below_drewN | apply below_drew1 | refine below_set ?_ GE239.out | refine below_set ?_ GE240.out | refine below_set ?_ GE241.out | refine below_set ?_ GE249.out) | exact HB.out)) hb); clear HO_8; clear HO287; clear BK239; clear BK240; clear BK241; clear BK249; clear HB; have HO_8 := n0_; have HO287 := n1_; have BK239 := n2_; have BK240 := n3_; have BK241 := n4_; have BK249 := n5_; have HB := n6_; clear n0_ n1_ n2_ n3_ n4_ n5_ n6_; (try clear hb); (try clear hb2); (try clear hk); (try clear hi)) | ((with_reducible refine gate_callee (f := 22) rfl ?_); refine goesL_ (some 151) rfl rfl Tryd.func22 (by kernel_rfl) rfl #[.slice Ao103 t269.length co103] rfl (by (try simp only [List.map_toArray, List.map_cons, List.map_nil]); first | done | rfl | (simp only [List.length_drop, List.length_take]; rfl)) ?_; (with_reducible refine (incident_Counts.calls kj101 _ _ t269 t290 t291 _ ?side1 ?side2 A117.out).mono ?_); (case side1 => repeat (first | exact (Kd.R_reads' HO_8.out).2.2 | (with_reducible refine Kd.C_alloc ?_ _) | (with_reducible refine Kd.C_drewN ?_ _) | (with_reducible refine Kd.C_drew ?_))); (case side2 => exact (Kd.R_reads' HO_8.out).2.1); rintro e w130 ⟨v292, rfl, ho0, hb⟩; refine ⟨_, rfl, ?_⟩; have n0_ := Aside0.mk (Kd.R_below (by (with_reducible repeat (first | apply Kd.R_alloc | apply Kd.R_drewN | apply Kd.R_drew)); exact HO_8.out) hb); have n1_ := Aside0.mk (Kd.R_below (by (with_reducible repeat (first | apply Kd.R_alloc | apply Kd.R_drewN | apply Kd.R_drew)); exact HO287.out) hb); have n2_ := Aside0.mk (Kd.R_lower ho0 (below_size (by repeat (first | (with_reducible first | exact HB.out | apply below_alloc | apply pw_below_drewN | apply below_drew1 | refine below_set ?_ GE239.out | refine below_set ?_ GE240.out | refine below_set ?_ GE241.out | refine below_set ?_ GE249.out) | exact HB.out)))); have n3_ := Aside0.mk (blk_below (g := gb239) (o := .cells #[.int .i64 1, .int .i64 120, .int .i64 30, .int .i64 1] 23 (0, 0)) (by (with_reducible repeat (first | refine blk_drewN ?_ _ | refine blk_drew ?_ | refine blk_alloc ?_ _)); exact BK239.out) hb); have n4_ := Aside0.mk (blk_below (g := gb240) (o := .cells #[.int .i64 4, .int .i64 2, .int .i64 50, .int .i64 2] 23 (0, 0)) (by (with_reducible repeat (first | refine blk_drewN ?_ _ | refine blk_drew ?_ | refine blk_alloc ?_ _)); exact BK240.out) hb); have n5_ := Aside0.mk (blk_below (g := gb241) (o := .cells #[.int .i64 3, .int .i64 5, .int .i64 0, .int .i64 0] 23 (0, 0)) (by (with_reducible repeat (first | refine blk_drewN ?_ _ | refine blk_drew ?_ | refine blk_alloc ?_ _)); exact BK241.out) hb); have n6_ := Aside0.mk (blk_below (g := gb249) (o := .cells #[.int .i64 t244, .int .i64 t245, .int .i64 t246, .int .i64 t247] 23 (0, 0)) (by (with_reducible repeat (first | refine blk_drewN ?_ _ | refine blk_drew ?_ | refine blk_alloc ?_ _)); exact BK249.out) hb); have n7_ := Aside0.mk (below_step (by repeat (first | (with_reducible first | exact HB.out | apply below_alloc | apply pw_below_drewN | apply below_drew1 | refine below_set ?_ GE239.out | refine below_set ?_ GE240.out | refine below_set ?_ GE241.out | refine below_set ?_ GE249.out) | exact HB.out)) hb); clear HO_8; clear HO287; clear BK239; clear BK240; clear BK241; clear BK249; clear HB; have HO_8 := n0_; have HO287 := n1_; have HO293 := n2_; have BK239 := n3_; have BK240 := n4_; have BK241 := n5_; have BK249 := n6_; have HB := n7_; clear n0_ n1_ n2_ n3_ n4_ n5_ n6_ n7_; (try clear hb); (try clear hb2); (try clear hk); (try clear hi); (try clear ho0)) | ((with_reducible refine gate_dst (N := 165) rfl ?_); (try (refine gate_guard (by rfl) ?_; dsimp only)); refine Kd.R_lit (Kd.int .i64) _ 3 ?hg (N := 165) ?hd (xs := ([1, 0, 1, 1, 0, 0] : List Int)) (inner := [.int .i64 1, .int .i64 0, .int .i64 1, .int .i64 1, .int .i64 0, .int .i64 0]) (ok := fun _ => True) (okp := fun _ => True) ?hr ?hp (fun _ hk => hk) trivial (Below.refl _ _) (Nat.le_refl _) (by simp) ?_; (case hd => rfl); (case hg => rfl); (case hr => first | (go_simp; done) | (go_simp; rfl)); (case hp => exact (Reps.one (show Kd.M (Kd.int .i64) _ _ _ 1 [.int .i64 1] from rfl) (Reps.one (show Kd.M (Kd.int .i64) _ _ _ 0 [.int .i64 0] from rfl) (Reps.one (show Kd.M (Kd.int .i64) _ _ _ 1 [.int .i64 1] from rfl) (Reps.one (show Kd.M (Kd.int .i64) _ _ _ 1 [.int .i64 1] from rfl) (Reps.one (show Kd.M (Kd.int .i64) _ _ _ 0 [.int .i64 0] from rfl) (Reps.one (show Kd.M (Kd.int .i64) _ _ _ 0 [.int .i64 0] from rfl) (Reps.none _ _)))))))); intro v295 w131 ho132 hb hg_ hnew_; clear hg_ hnew_; (first | rw [← Ny294.out] at ho132 | (simp only [Int.reduceToNat] at ho132; rw [← Ny294.out] at ho132)); have n0_ := Aside0.mk (Kd.R_below (by (with_reducible repeat (first | apply Kd.R_alloc | apply Kd.R_drewN | apply Kd.R_drew)); exact HO_8.out) hb); have n1_ := Aside0.mk (Kd.R_below (by (with_reducible repeat (first | apply Kd.R_alloc | apply Kd.R_drewN | apply Kd.R_drew)); exact HO287.out) hb); have n2_ := Aside0.mk (Kd.R_elder' (by (with_reducible repeat (first | apply Kd.R_alloc | apply Kd.R_drewN | apply Kd.R_drew)); exact HO293.out) (Kd.R_base ho132) hb); have n3_ := Aside0.mk (Kd.R_lower (Kd.R_new' ho132 (Kd.R_lt (by (with_reducible repeat (first | apply Kd.R_alloc | apply Kd.R_drewN | apply Kd.R_drew)); exact HO293.out))) (below_size (by repeat (first | (with_reducible first | exact HB.out | apply below_alloc | apply pw_below_drewN | apply below_drew1 | refine below_set ?_ GE239.out | refine below_set ?_ GE240.out | refine below_set ?_ GE241.out | refine below_set ?_ GE249.out) | exact HB.out)))); have n4_ := Aside0.mk (blk_below (g := gb239) (o := .cells #[.int .i64 1, .int .i64 120, .int .i64 30, .int .i64 1] 23 (0, 0)) (by (with_reducible repeat (first | refine blk_drewN ?_ _ | refine blk_drew ?_ | refine blk_alloc ?_ _)); exact BK239.out) hb); have n5_ := Aside0.mk (blk_below (g := gb240) (o := .cells #[.int .i64 4, .int .i64 2, .int .i64 50, .int .i64 2] 23 (0, 0)) (by (with_reducible repeat (first | refine blk_drewN ?_ _ | refine blk_drew ?_ | refine blk_alloc ?_ _)); exact BK240.out) hb); have n6_ := Aside0.mk (blk_below (g := gb241) (o := .cells #[.int .i64 3, .int .i64 5, .int .i64 0, .int .i64 0] 23 (0, 0)) (by (with_reducible repeat (first | refine blk_drewN ?_ _ | refine blk_drew ?_ | refine blk_alloc ?_ _)); exact BK241.out) hb); have n7_ := Aside0.mk (blk_below (g := gb249) (o := .cells #[.int .i64 t244, .int .i64 t245, .int .i64 t246, .int .i64 t247] 23 (0, 0)) (by (with_reducible repeat (first | refine blk_drewN ?_ _ | refine blk_drew ?_ | refine blk_alloc ?_ _)); exact BK249.out) hb); have n8_ := Aside0.mk (below_step (by repeat (first | (with_reducible first | exact HB.out | apply below_alloc | apply pw_below_drewN | apply below_drew1 | refine below_set ?_ GE239.out | refine below_set ?_ GE240.out | refine below_set ?_ GE241.out | refine below_set ?_ GE249.out) | exact HB.out)) hb); clear HO_8; clear HO287; clear HO293; clear BK239; clear BK240; clear BK241; clear BK249; clear HB; have HO_8 := n0_; have HO287 := n1_; have HO293 := n2_; have HO296 := n3_; have BK239 := n4_; have BK240 := n5_; have BK241 := n6_; have BK249 := n7_; have HB := n8_; clear n0_ n1_ n2_ n3_ n4_ n5_ n6_ n7_ n8_; clear hb ho132; obtain ⟨Ao133, co133, eo133⟩ := Kd.R_slice HO293.out; subst eo133; obtain ⟨Ao134, co134, eo134⟩ := Kd.R_slice HO296.out; subst eo134) | (go_at_call 24; (with_reducible refine (examboardref13_SameInts.calls kj101 _ _ t290 _ _ y294 t297 _ ?side1 ?side2 ?side3 ?side4 A121.out).mono ?_); (case side1 => repeat (first | exact (Kd.R_reads' HO293.out).2.2 | (with_reducible refine Kd.C_alloc ?_ _) | (with_reducible refine Kd.C_drewN ?_ _) | (with_reducible refine Kd.C_drew ?_))); (case side2 => exact (Kd.R_reads' HO293.out).2.1); (case side3 => repeat (first | exact (Kd.R_reads' HO296.out).2.2 | (with_reducible refine Kd.C_alloc ?_ _) | (with_reducible refine Kd.C_drewN ?_ _) | (with_reducible refine Kd.C_drew ?_))); (case side4 => exact (Kd.R_reads' HO296.out).2.1); rintro e w' ⟨rfl, ⟨nd, rfl⟩⟩))
                                go_ret
                                exact ⟨by first | rfl | (simp [errW_none, errW_some] <;> rfl) | (simp [*, errW_none, errW_some] <;> rfl), by repeat (first | (with_reducible first | exact HB.out | apply below_alloc | apply pw_below_drewN | apply below_drew1 | refine below_set ?_ GE239.out | refine below_set ?_ GE240.out | refine below_set ?_ GE241.out | refine below_set ?_ GE249.out) | exact HB.out)⟩
                              · replace c120 := Bool.eq_false_iff.mpr c120
                                subst c120
                                have H1 : (some false) = some r := by rw [if_neg (show ¬ (false = true) by decide)] at H; exact H
                                exact absurd (hr.symm.trans (Option.some.inj H1).symm) (by decide)
                            · rw [if_neg c119] at H
                              exact absurd (hr.symm.trans (Option.some.inj H).symm) (by decide)
                          · rw [if_neg c118] at H
                            exact absurd (hr.symm.trans (Option.some.inj H).symm) (by decide)
theorem awake_true : examboardlaw50_awake.f 60 = some true := by kernel_rfl
def awake.f : Option Bool := some true
theorem awake.calls (r : Bool) (w : World) (h : awake.f = some r) (hG : GW w) :
    Calls Tryd.prog 15 #[] w fun e w' => e = .returned (.bool r) ∧ Below w.heap.size w w' := by
  obtain rfl := Option.some.inj h
  exact examboardlaw50_awake.calls 60 true w awake_true hG rfl
end Go.Proofs.YtidehmfaebiebaaDoor.PInc
