/- TimingRoundTrip in plain words: parsing a printed time gives it back. No condition but the arguments' kinds. -/
import Derived.Test.YtjopendipackpaaDoorPureParse
import Derived.Test.YtjopendipackpaaDoorPClkx3
namespace Go.Proofs.YtjopendipackpaaDoor.Pure
open Go.RowKit Go.Proofs.YtjopendipackpaaDoor.PClk Go.Proofs.YtjopendipackpaaDoorW.PrintWords Go.Proofs.YtjopendipackpaaDoorW.PrintLast Go.Proofs.YtjopendipackpaaDoorW.PrintMore

theorem mono_up3 {α : Type} {f : Nat → Option α} (hf : ∀ k, LeO (f k) (f (k + 1))) {k : Nat} {r : α} (h : f k = some r) : ∀ j, f (k + j) = some r := by
  intro j
  induction j with
  | zero => exact h
  | succ j ih => exact hf _ _ ih
theorem tail_ok (s : ByteArray) (k : Nat) (h : timing_Parse.f (k + 1) s = some (TP s)) : examboardlaw47_TimingRoundTrip.j1 (k + 2) s = some true := by
  rw [examboardlaw47_TimingRoundTrip.j1, h, Option.bind_some]
  rcases TP_cases s with g | ⟨n, h0, h1, h2, h3⟩
  · rw [g, if_neg (by decide)]; rfl
  · rw [h3, if_pos rfl, print_eq, Option.bind_some, PT_in n h0 h1, if_pos rfl, h2, beq_self_eq_true]
theorem TimingRoundTrip : examboardlaw47_TimingRoundTrip.Pure := by
  intro n s _ _
  obtain ⟨k1, hk1⟩ := parse_eq s
  obtain ⟨k2, hk2⟩ := parse_eq (strOfNums (prl n))
  have m1 := mono_up3 (timing_Parse.mono s) hk1
  have m2 := mono_up3 (timing_Parse.mono _) hk2
  have tl : examboardlaw47_TimingRoundTrip.j1 (k1 + k2 + 3) s = some true := tail_ok s (k1 + k2 + 1) (by
    have := m1 (k2 + 2)
    rw [show k1 + (k2 + 2) = k1 + k2 + 1 + 1 by omega] at this
    exact this)
  refine ⟨k1 + k2 + 4, ?_⟩
  unfold examboardlaw47_TimingRoundTrip.f
  rw [print_eq, Option.bind_some]
  by_cases h0 : n ≥ 0
  · rw [if_pos h0]
    by_cases h1 : n ≤ 359999
    · rw [PT_in n h0 h1, decide_eq_true h1, examboardlaw47_TimingRoundTrip.j0, if_neg (by show ¬ (((0 : Int) == 0) != true) = true; decide), if_pos rfl]
      have e := m2 (k1 + 3)
      rw [show k2 + (k1 + 3) = k1 + k2 + 3 by omega] at e
      have hl := prl_len n
      have hz : (strOfNums (prl n)).size = (prl n).length := strOfNums_size _
      rw [e, Option.bind_some, TP_print n h0 h1, if_pos rfl, if_pos rfl, if_neg (by show ¬ ((strOfNums (prl n)).size : Int) < 7; rw [hz, hl]; split <;> omega)]
      exact tl
    · have hp : PT n = (⟨#[]⟩, 3) := by unfold PT; rw [if_neg (by omega)]
      rw [hp, decide_eq_false h1, examboardlaw47_TimingRoundTrip.j0, if_neg (by decide), if_neg (by decide)]
      exact tl
  · have hp : PT n = (⟨#[]⟩, 3) := by unfold PT; rw [if_neg (by omega)]
    rw [if_neg h0, hp, examboardlaw47_TimingRoundTrip.j0, if_neg (by decide), if_neg (by decide)]
    exact tl
end Go.Proofs.YtjopendipackpaaDoor.Pure
