/- TimingClocks in plain words: the time left, printed and parsed times are those of the reference. No condition but the arguments' kinds. -/
import Derived.Test.YtjopendipackpaaDoorPureParse
import Derived.Test.YtjopendipackpaaDoorPClkx9
namespace Go.Proofs.YtjopendipackpaaDoor.Pure
open Go.RowKit Go.Proofs.YtjopendipackpaaDoor.PClk Go.Proofs.YtjopendipackpaaDoorW.PrintWords Go.Proofs.YtjopendipackpaaDoorW.PrintLast Go.Proofs.YtjopendipackpaaDoorW.PrintMore

theorem left_eq (a b : Int) (ha0 : -9223372036854775808 ≤ a) (ha1 : a ≤ 9223372036854775807) (hb0 : -9223372036854775808 ≤ b) (hb1 : b ≤ 9223372036854775807) (k : Nat) :
    ∃ r, timing_Left.f a b = some r ∧ examboardref47_Left.f (k + 1) a b = some r := by
  unfold timing_Left.f examboardref47_Left.f
  refine ⟨_, rfl, ?_⟩
  have mp : ∀ x : Int, 0 ≤ x → mx x 0 = x := fun x h => by unfold mx; rw [if_neg (by omega)]
  have mn' : ∀ x : Int, x < 0 → mx x 0 = 0 := fun x h => by unfold mx; rw [if_pos h]
  by_cases h1 : a < 0
  · rw [if_pos h1, examboardref47_Left.j0, mn' a h1]
    by_cases h2 : b < 0
    · rw [if_pos h2, if_neg (by omega), mn' b h2]
      rw [wrap_id (by omega) (by omega), mp _ (by omega)]
    · rw [if_neg h2, mp b (by omega)]
      by_cases h3 : b > 0
      · rw [if_pos h3, wrap_id (by omega) (by omega), mn' _ (by omega)]
      · rw [if_neg h3, wrap_id (by omega) (by omega), mp _ (by omega)]
  · rw [if_neg h1, examboardref47_Left.j0, mp a (by omega)]
    by_cases h2 : b < 0
    · rw [if_pos h2, if_neg (by omega), mn' b h2, wrap_id (by omega) (by omega), mp _ (by omega)]
    · rw [if_neg h2, mp b (by omega)]
      by_cases h3 : b > a
      · rw [if_pos h3, wrap_id (by omega) (by omega), mn' _ (by omega)]
      · rw [if_neg h3, wrap_id (by omega) (by omega), mp _ (by omega)]
theorem mono_up {α : Type} {f : Nat → Option α} (hf : ∀ k, LeO (f k) (f (k + 1))) {k : Nat} {r : α} (h : f k = some r) : ∀ j, f (k + j) = some r := by
  intro j
  induction j with
  | zero => exact h
  | succ j ih => exact hf _ _ ih
theorem int_wf (a : Int) (h : (Lit.int .i64 a).wf = true) : -9223372036854775808 ≤ a ∧ a ≤ 9223372036854775807 := by
  simp only [Lit.wf, IntKind.min, IntKind.max, IntKind.signed, IntKind.bits, Bool.and_eq_true, decide_eq_true_eq, if_true] at h
  omega
theorem TimingClocks : examboardlaw47_TimingClocks.Pure := by
  intro a b s ha hb _
  obtain ⟨a0, a1⟩ := int_wf a ha
  obtain ⟨b0, b1⟩ := int_wf b hb
  obtain ⟨k1, hk1⟩ := parse_eq s
  obtain ⟨k2, hk2⟩ := rparse_eq s
  have m1 := mono_up (timing_Parse.mono s) hk1
  have m2 := mono_up (examboardref47_Parse.mono s) hk2
  refine ⟨k1 + k2 + 3, ?_⟩
  obtain ⟨r, hr1, hr2⟩ := left_eq a b a0 a1 b0 b1 (k1 + k2 + 2)
  unfold examboardlaw47_TimingClocks.f
  rw [hr1, Option.bind_some, hr2, Option.bind_some, if_pos rfl, print_eq, Option.bind_some, rprint_eq, Option.bind_some, if_pos rfl]
  rw [examboardlaw47_TimingClocks.j0, if_neg (by rw [bne_self_eq_false]; decide)]
  have e1 := m1 (k2 + 2)
  rw [show k1 + (k2 + 2) = k1 + k2 + 2 by omega] at e1
  have e2 := m2 (k1 + 2)
  rw [show k2 + (k1 + 2) = k1 + k2 + 2 by omega] at e2
  rw [e1, Option.bind_some, e2, Option.bind_some, TP_TR, if_pos rfl, beq_self_eq_true]
end Go.Proofs.YtjopendipackpaaDoor.Pure
