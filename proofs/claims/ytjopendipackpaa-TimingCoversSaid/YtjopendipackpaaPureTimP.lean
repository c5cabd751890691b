/- What the comparison of two lists tells of equal ones. No condition but the length. -/
import Derived.Test.YtjopendipackpaaPTimx6
import Derived.Test.YtjopendipackpaaPureTimA
namespace Go.Proofs.Ytjopendipackpaa.PureTim
open Go.RowKit Go.Proofs.Ytjopendipackpaa.PTim Go.Proofs.YtjopendipackpaaW.PrintWords Go.Proofs.YtjopendipackpaaW.PrintLast Go.Proofs.YtjopendipackpaaW.PrintMore
set_option linter.unusedVariables false

theorem pairs_loop (l : List S33) (hl : l.length ≤ 1000000) : ∀ (d : Nat) (i : Int) (k : Nat), 0 ≤ i → (l.length : Int) - i = d → d < k →
    examboardlaw47_pairs.l0 k l l i = some true := by
  intro d
  induction d with
  | zero =>
    intro i k h0 hd hk
    obtain ⟨k, rfl⟩ : ∃ m, k = m + 1 := ⟨k - 1, by omega⟩
    rw [examboardlaw47_pairs.l0, if_neg (by omega)]
  | succ d ih =>
    intro i k h0 hd hk
    obtain ⟨k, rfl⟩ : ∃ m, k = m + 1 := ⟨k - 1, by omega⟩
    have hlt : i < (l.length : Int) := by omega
    rw [examboardlaw47_pairs.l0, if_pos hlt, if_pos h0, if_pos hlt, if_neg (by simp), wrap_id (x := i + 1) (by omega) (by omega), ih (i + 1) k (by omega) (by omega) (by omega)]
theorem pairs_ev (l : List S33) (hl : l.length ≤ 1000000) : Ev (fun k => examboardlaw47_pairs.f k l l) true :=
  ⟨l.length + 1, fun k hk => by
    show examboardlaw47_pairs.f k l l = some true
    unfold examboardlaw47_pairs.f
    rw [if_pos rfl]
    exact pairs_loop l hl l.length 0 k (by omega) (by omega) (by omega)⟩
end Go.Proofs.Ytjopendipackpaa.PureTim
