/- The plain law of IncidentTexts: what the function computes is true. Condition: the text is shorter than 4294967281 bytes. -/
import Derived.Test.YtidehmfaebiebaaDoorPureIncR
import Derived.Test.YtidehmfaebiebaaDoorPTx
namespace Go.Proofs.YtidehmfaebiebaaDoor.Pure
open Go.RowKit Go.Proofs.YtidehmfaebiebaaDoor.PInc Go.Proofs.YtidehmfaebiebaaDoorW.PrintWords Go.Proofs.YtidehmfaebiebaaDoorW.PrintLast Go.Proofs.YtidehmfaebiebaaDoorW.PrintMore
open Go.Lib (decDigits)
open Go.Proofs.YtidehmfaebiebaaDoor.Words
set_option linter.unusedVariables false

theorem digits_eq (n : Int) (h0 : 0 ≤ n) (h1 : n ≤ 1099511627776) : examboardref50_digits.f n = some (mk (decDigits n.toNat)) := by
  have o : ok2 [n % 4294967296, n / 4294967296 % 4294967296] := ⟨by simp, fun x hx => by
    simp only [List.mem_cons, List.not_mem_nil, or_false] at hx
    rcases hx with rfl | rfl <;> omega⟩
  obtain ⟨f1, f2, _⟩ := norm2_facts _ o
  have v : val2 (norm2 [n % 4294967296, n / 4294967296 % 4294967296]) = n := by
    rw [f2]
    show n % 4294967296 + n / 4294967296 % 4294967296 * 4294967296 = n
    omega
  unfold examboardref50_digits.f examboardref01_Of.f
  rw [uwrap h0 (by omega)]
  unfold normNat.f
  rw [if_pos o.1]
  simp only [Option.bind_some]
  unfold natText.f
  rw [if_pos ⟨f1.1, f1.2⟩, v]
  rfl
theorem rprint_ev (x : S23) : Ev (fun k => examboardref50_Print.f k x.f0 x.f1 x.f2 x.f3) (printV x) := by
  unfold examboardref50_Print.f printV
  refine Ev.bind (rvalid_ev x) ?_
  by_cases h : valV x = 0
  · rw [if_pos h, if_pos h]
    have ho := (valV_zero x).1 h
    unfold okI at ho
    have hn := nameL_len x.f0
    have d1 := dec13 x.f1 (by omega) (by omega)
    have d2 := dec13 x.f2 (by omega) (by omega)
    have d3 := dec13 x.f3 (by omega) (by omega)
    refine Ev.congr (f := fun _ => some (mk (textL x), 0)) (fun k => ?_) (Ev.now _)
    rw [word_eq _ (by omega) (by omega), digits_eq _ (by omega) (by omega), digits_eq _ (by omega) (by omega), digits_eq _ (by omega) (by omega), textL_eq]
    have l1 : (⟨#[32, 97, 116, 32]⟩ : ByteArray) = mk [32, 97, 116, 32] := rfl
    have l2 : (⟨#[32, 108, 111, 115, 116, 32]⟩ : ByteArray) = mk [32, 108, 111, 115, 116, 32] := rfl
    have l3 : (⟨#[32, 103, 114, 97, 118, 101, 32]⟩ : ByteArray) = mk [32, 103, 114, 97, 118, 101, 32] := rfl
    simp only [Option.bind_some, l1, l2, l3, mk_app, mk_size]
    rw [if_pos (by omega), if_pos (by simp only [List.length_append, List.length_cons, List.length_nil]; omega), if_pos (by simp only [List.length_append, List.length_cons, List.length_nil]; omega), if_pos (by simp only [List.length_append, List.length_cons, List.length_nil]; omega), if_pos (by simp only [List.length_append, List.length_cons, List.length_nil]; omega), if_pos (by simp only [List.length_append, List.length_cons, List.length_nil]; omega)]
  · rw [if_neg h, if_neg h]
    exact Ev.now _
theorem IncidentTexts (x : S23) (s : ByteArray) (hs : s.size < 4294967281) : ∃ k, examboardlaw50_IncidentTexts.f k x.f0 x.f1 x.f2 x.f3 s = some true := by
  refine Ev.rounds ?_
  unfold examboardlaw50_IncidentTexts.f
  refine Ev.bind (print_ev x) (Ev.bind (rprint_ev x) ?_)
  refine Ev.congr (f := fun k => examboardlaw50_IncidentTexts.j0 k s false) (fun k => by rw [if_pos rfl, bne_self_eq_false]) ?_
  refine Ev.step (f := fun k => (incident_Parse.f k s).bind fun bt179 => ((examboardref50_Parse.f k s).bind fun bt185 => (if bt179.2.2.2.2 = bt185.2.2.2.2 then (if (bt179.1 == bt185.1 && (bt179.2.1 == bt185.2.1 && (bt179.2.2.1 == bt185.2.2.1 && (bt179.2.2.2.1 == bt185.2.2.2.1)))) = true then ((awake.f).bind fun t191 => (some t191)) else (some false)) else (some false)))) (fun k => by
    show examboardlaw50_IncidentTexts.j0 (k + 1) s false = _
    rw [examboardlaw50_IncidentTexts.j0, if_neg (by decide)]) ?_
  refine Ev.bind (parse_ev s hs) (Ev.bind (rparse_ev s hs) ?_)
  exact Ev.congr (f := fun _ => some true) (fun k => by rw [if_pos rfl, if_pos (by simp)]; rfl) (Ev.now _)
end Go.Proofs.YtidehmfaebiebaaDoor.Pure
