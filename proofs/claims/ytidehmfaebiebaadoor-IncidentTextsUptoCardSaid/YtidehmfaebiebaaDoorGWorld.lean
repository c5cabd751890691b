/- What the library's functions ask of the world: the table of powers of ten, and a number in the variable of the longest needle; both stay through what makes new memory only. No condition. -/
import Derived.Test.YtidehmfaebiebaaDoorPA
import Derived.Test.YtidehmfaebiebaaDoorShelf
import Derived.Lib.SmallJoins
import Derived.Lib.AppendIntMem
import Derived.Lib.SplitLaws
namespace Go.Proofs.YtidehmfaebiebaaDoor.PInc
open Go.RowKit Go.Shelf Go.Proofs.YtidehmfaebiebaaDoorW.PrintWords Go.Proofs.YtidehmfaebiebaaDoorW.PrintLast Go.Proofs.YtidehmfaebiebaaDoorW.PrintMore
set_option linter.unusedVariables false

structure GW (w : World) : Prop where
  tab : Lib.TabIs Tryd.prog w "internal/strconv.uint64pow10" .u64 Lib.pow10Tab
  len : ∃ m, w.cell? ⟨1, 0, none⟩ = some (.int .i64 m)
theorem gname : Tryd.prog.globalNamed "internal/strconv.uint64pow10" = some 0 := by kernel_rfl
theorem GW.below {w w' : World} (h : GW w) (hb : Below w.heap.size w w') : GW w' := by
  refine ⟨Joins.tab_stays gname h.tab hb (Nat.le_refl _), ?_⟩
  obtain ⟨m, hm⟩ := h.len
  have h1 : 1 < w.heap.size := by
    apply Classical.byContradiction
    intro hn
    have e2 : w.heap[1]? = none := Array.getElem?_eq_none (by omega)
    simp [World.cell?, e2] at hm
  refine ⟨m, ?_⟩
  rw [← hm]
  unfold World.cell?
  simp only
  rw [hb.block 1 h1]
def itoa.f (a0 : Int) : Option ByteArray := if 0 ≤ a0 ∧ a0 ≤ 9223372036854775807 then some ⟨(Lib.itoa a0).toArray⟩ else none
theorem itoa.calls (a0 : Int) (r : ByteArray) (w : World) (h : itoa.f a0 = some r) (hG : GW w) :
    Calls Tryd.prog 39 #[.int .i64 a0] w fun e w' => e = .returned (.string r) ∧ Below w.heap.size w w' := by
  unfold itoa.f at h
  split at h
  · rename_i hh
    obtain rfl := Option.some.inj h
    refine (Any.strconv_Itoa Tryd.itoa a0 (by omega) (by omega) w hG.tab).mono ?_
    rintro e w' ⟨rfl, k, os, rfl⟩
    exact ⟨rfl, Lib.below_grow w.heap.size w (Nat.le_refl _) k os⟩
  · cases h
/-- strings.Split at one blank. -/
def splitBy.f (a0 a1 : ByteArray) : Option (List ByteArray) := if a0.size < 4294967281 ∧ 1 ≤ a1.size then some (Lib.splitB a1 0 (Lib.countB a0 a1) a0) else none
theorem splitBy.calls (a0 a1 : ByteArray) (r : List ByteArray) (w : World) (h : splitBy.f a0 a1 = some r) (hG : GW w) :
    Calls Tryd.prog 42 #[.string a0, .string a1] w fun e w' => ∃ v0_ : Value, e = .returned (v0_) ∧ Kd.R Kd.string 9 w' w.heap.size (fun _ => True) v0_ r ∧ Below w.heap.size w w' := by
  unfold splitBy.f at h
  split at h
  · rename_i hh
    obtain rfl := Option.some.inj h
    obtain ⟨m, hm⟩ := hG.len
    have L := Tryd.split
    refine (Any.strings_Split { L with } L.i9 a0 a1 m w hh.1 hm hh.2).mono ?_
    rintro e w' ⟨rfl, rfl⟩
    refine ⟨_, rfl, ?_, below_alloc (Below.refl _ _) _⟩
    have hlen : (Lib.splitB a1 0 (Lib.countB a0 a1) a0).length = Lib.countB a0 a1 + 1 := Lib.splitB_all a1 hh.2 0 _ a0 rfl
    have hcnt : Lib.countB a0 a1 ≤ a0.size := Lib.countB_le a1 hh.2 a0.size a0 (Nat.le_refl _)
    have ht9 : Tryd.split_ren.t 9 = 9 := by kernel_rfl
    rw [ht9]
    generalize Lib.splitB a1 0 (Lib.countB a0 a1) a0 = ps at hlen ⊢
    rw [← hlen]
    refine ⟨fun _ _ => trivial, ps.map Value.string, ?_, ?_⟩
    · have h2 := World.ownsRow_lit (base := w.heap.size) (e := 9) (size := 1) w (ps.map Value.string).toArray ps.length (Nat.le_refl _) (by simp [maxLen]; omega) (by simp)
      have hz : Kd.string.sz = 1 := rfl
      rw [hz]
      simpa using h2
    · exact Kd.reps_scalar ps
  · cases h
end Go.Proofs.YtidehmfaebiebaaDoor.PInc
