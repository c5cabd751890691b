/- What incident.Print and incident.Parse compute, in plain words, and that they are inverse to each other. Condition where it stands: the text is shorter than 4294967281 bytes. -/
import Derived.Test.YtidehmfaebiebaaDoorPureIncA
import Derived.Test.YtidehmfaebiebaaDoorPureSplit
import Derived.Test.YtidehmfaebiebaaDoorPD
import Derived.Lib.Strings
namespace Go.Proofs.YtidehmfaebiebaaDoor.Pure
open Go.RowKit Go.Proofs.YtidehmfaebiebaaDoor.PInc Go.Proofs.YtidehmfaebiebaaDoorW.PrintWords Go.Proofs.YtidehmfaebiebaaDoorW.PrintLast Go.Proofs.YtidehmfaebiebaaDoorW.PrintMore
open Go.Lib (decDigits)
open Go.Proofs.YtidehmfaebiebaaDoor.Words
set_option linter.unusedVariables false

def tl (s : ByteArray) : List UInt8 := s.data.toList
def mk (l : List UInt8) : ByteArray := ⟨l.toArray⟩
theorem tl_mk (l : List UInt8) : tl (mk l) = l := rfl
theorem mk_tl (s : ByteArray) : mk (tl s) = s := by
  apply ByteArray.ext
  show (s.data.toList).toArray = s.data
  exact Array.toArray_toList
theorem toList_tl (s : ByteArray) : s.toList = tl s := Lib.toList_data s
theorem mk_app (a b : List UInt8) : mk a ++ mk b = mk (a ++ b) := by
  apply ByteArray.ext
  rw [ByteArray.data_append]
  show a.toArray ++ b.toArray = (a ++ b).toArray
  simp
theorem mk_size (l : List UInt8) : (mk l).size = l.length := rfl
theorem tl_len (s : ByteArray) : (tl s).length = s.size := Array.length_toList
/-! ### Print -/
def nameL (k : Int) : List UInt8 :=
  if k = 1 then [112, 111, 119, 101, 114] else if k = 2 then [110, 101, 116, 119, 111, 114, 107] else if k = 3 then [110, 111, 105, 115, 101] else if k = 4 then [97, 105, 100] else if k = 5 then [105, 109, 112, 111, 115, 116, 101, 114] else [111, 116, 104, 101, 114]
theorem name_eq (k : Int) : incident_name.f k = some (mk (nameL k)) := by
  unfold incident_name.f nameL
  by_cases h1 : k = 1
  · rw [if_pos h1, if_pos h1]; rfl
  · rw [if_neg h1, if_neg h1]
    by_cases h2 : k = 2
    · rw [if_pos h2, if_pos h2]; rfl
    · rw [if_neg h2, if_neg h2]
      by_cases h3 : k = 3
      · rw [if_pos h3, if_pos h3]; rfl
      · rw [if_neg h3, if_neg h3]
        by_cases h4 : k = 4
        · rw [if_pos h4, if_pos h4]; rfl
        · rw [if_neg h4, if_neg h4]
          by_cases h5 : k = 5
          · rw [if_pos h5, if_pos h5]; rfl
          · rw [if_neg h5, if_neg h5]; rfl
theorem nameL_len (k : Int) : (nameL k).length ≤ 8 := by
  unfold nameL
  split
  · decide
  · split
    · decide
    · split
      · decide
      · split
        · decide
        · split <;> decide
theorem nameL_free (k : Int) : (32 : UInt8) ∉ nameL k := by
  unfold nameL
  split
  · decide
  · split
    · decide
    · split
      · decide
      · split
        · decide
        · split <;> decide
abbrev wAt : List UInt8 := [97, 116]
abbrev wLost : List UInt8 := [108, 111, 115, 116]
abbrev wGrave : List UInt8 := [103, 114, 97, 118, 101]
def textW (x : S23) : List (List UInt8) := [nameL x.f0, wAt, decDigits x.f1.toNat, wLost, decDigits x.f2.toNat, wGrave, decDigits x.f3.toNat]
def textL (x : S23) : List UInt8 := joinS (textW x)
theorem itoa_eq (n : Int) (h0 : 0 ≤ n) (h1 : n ≤ 9223372036854775807) : itoa.f n = some (mk (decDigits n.toNat)) := by
  unfold itoa.f
  rw [if_pos ⟨h0, h1⟩]
  unfold Lib.itoa
  rw [if_neg (by omega)]
  rfl
theorem dec13 (n : Int) (h0 : 0 ≤ n) (h1 : n ≤ 1099511627776) : (decDigits n.toNat).length ≤ 13 := dec_len 12 n.toNat (by
  have : (10 : Nat) ^ (12 + 1) = 10000000000000 := by decide
  rw [this]; omega)
def printV (x : S23) : ByteArray × Int := if valV x = 0 then (mk (textL x), 0) else (⟨#[]⟩, valV x)
theorem valid_ev (x : S23) : Ev (fun k => incident_Valid.f k x.f0 x.f1 x.f2 x.f3) (valV x) := Ev.step (f := fun _ => some (valV x)) (fun k => valid_eq k _) (Ev.now _)
theorem textL_eq (x : S23) : textL x = (((((nameL x.f0 ++ [32, 97, 116, 32]) ++ decDigits x.f1.toNat) ++ [32, 108, 111, 115, 116, 32]) ++ decDigits x.f2.toNat) ++ [32, 103, 114, 97, 118, 101, 32]) ++ decDigits x.f3.toNat := by
  simp [textL, textW, joinS, wAt, wLost, wGrave]
theorem textL_len (x : S23) (h : valV x = 0) : (textL x).length ≤ 70 := by
  have ho := (valV_zero x).1 h
  unfold okI at ho
  have hn := nameL_len x.f0
  have d1 := dec13 x.f1 (by omega) (by omega)
  have d2 := dec13 x.f2 (by omega) (by omega)
  have d3 := dec13 x.f3 (by omega) (by omega)
  rw [textL_eq]
  simp only [List.length_append, List.length_cons, List.length_nil]
  omega
theorem print_ev (x : S23) : Ev (fun k => incident_Print.f k x.f0 x.f1 x.f2 x.f3) (printV x) := by
  unfold incident_Print.f printV
  refine Ev.bind (valid_ev x) ?_
  by_cases h : valV x = 0
  · rw [if_pos h, if_pos h]
    have ho := (valV_zero x).1 h
    unfold okI at ho
    have hn := nameL_len x.f0
    have d1 := dec13 x.f1 (by omega) (by omega)
    have d2 := dec13 x.f2 (by omega) (by omega)
    have d3 := dec13 x.f3 (by omega) (by omega)
    refine Ev.congr (f := fun _ => some (mk (textL x), 0)) (fun k => ?_) (Ev.now _)
    rw [name_eq, itoa_eq _ (by omega) (by omega), itoa_eq _ (by omega) (by omega), itoa_eq _ (by omega) (by omega), textL_eq]
    have l1 : (⟨#[32, 97, 116, 32]⟩ : ByteArray) = mk [32, 97, 116, 32] := rfl
    have l2 : (⟨#[32, 108, 111, 115, 116, 32]⟩ : ByteArray) = mk [32, 108, 111, 115, 116, 32] := rfl
    have l3 : (⟨#[32, 103, 114, 97, 118, 101, 32]⟩ : ByteArray) = mk [32, 103, 114, 97, 118, 101, 32] := rfl
    simp only [Option.bind_some, l1, l2, l3, mk_app, mk_size]
    rw [if_pos (by omega), if_pos (by simp only [List.length_append, List.length_cons, List.length_nil]; omega), if_pos (by simp only [List.length_append, List.length_cons, List.length_nil]; omega), if_pos (by simp only [List.length_append, List.length_cons, List.length_nil]; omega), if_pos (by simp only [List.length_append, List.length_cons, List.length_nil]; omega), if_pos (by simp only [List.length_append, List.length_cons, List.length_nil]; omega)]
  · rw [if_neg h, if_neg h]
    exact Ev.now _
/-! ### numbers -/
def numGo : List UInt8 → Int → Int → Int × Bool
  | [], a, m => (a, true)
  | c :: r, a, m => if (c.toNat : Int) < 48 then (0, false) else if (c.toNat : Int) > 57 then (0, false) else numGo r (mn (a * 10 + ((c.toNat : Int) - 48)) (m + 1)) m
def numV (w : List UInt8) (m : Int) : Int × Bool := if w = [] then (0, false) else if 1 < w.length ∧ w.head? = some 48 then (0, false) else numGo w 0 m
theorem bt_tl (s : ByteArray) (i : Int) (h0 : 0 ≤ i) (h1 : i < (s.size : Int)) : ∃ c : UInt8, (tl s).drop i.toNat = c :: (tl s).drop (i + 1).toNat ∧ bt s i = (c.toNat : Int) := by
  have h : i.toNat < s.size := by omega
  have h2 : i.toNat < (tl s).length := by rw [tl_len]; exact h
  refine ⟨(tl s)[i.toNat], ?_, ?_⟩
  · rw [List.drop_eq_getElem_cons h2, show (i + 1).toNat = i.toNat + 1 by omega]
  · unfold bt
    rw [dif_pos h]
    simp only [tl, Array.getElem_toList]
    rfl
theorem mn_le (a b : Int) : mn a b ≤ b := by unfold mn; split <;> omega
theorem mn_ge (a b c : Int) (h1 : c ≤ a) (h2 : c ≤ b) : c ≤ mn a b := by unfold mn; split <;> omega
theorem number_l0 (s : ByteArray) (m : Int) (hm0 : 0 ≤ m) (hm1 : m ≤ 4398046511104) (hs : (s.size : Int) < 9223372036854775807) : ∀ (d : Nat) (a i : Int), 0 ≤ i → (s.size : Int) - i = (d : Int) → 0 ≤ a → a ≤ m + 1 →
    Ev (fun k => incident_number.l0 k s m a i) (numGo ((tl s).drop i.toNat) a m) := by
  intro d
  induction d with
  | zero =>
    intro a i h0 hd ha0 ha1
    rw [List.drop_eq_nil_of_le (by rw [tl_len]; omega)]
    refine Ev.step (f := fun _ => some (a, true)) (fun k => ?_) (Ev.now _)
    show incident_number.l0 (k + 1) s m a i = _
    rw [incident_number.l0, if_neg (by omega)]
  | succ d ih =>
    intro a i h0 hd ha0 ha1
    obtain ⟨c, hc, hb⟩ := bt_tl s i h0 (by omega)
    rw [hc, numGo]
    by_cases h48 : (c.toNat : Int) < 48
    · rw [if_pos h48]
      refine Ev.step (f := fun _ => some (0, false)) (fun k => ?_) (Ev.now _)
      show incident_number.l0 (k + 1) s m a i = _
      rw [incident_number.l0, if_pos (by omega), if_pos h0, hb, if_pos h48]
    · rw [if_neg h48]
      by_cases h57 : (c.toNat : Int) > 57
      · rw [if_pos h57]
        refine Ev.step (f := fun _ => some (0, false)) (fun k => ?_) (Ev.now _)
        show incident_number.l0 (k + 1) s m a i = _
        rw [incident_number.l0, if_pos (by omega), if_pos h0, hb, if_neg h48, if_pos h57]
      · rw [if_neg h57]
        have hle := mn_le (a * 10 + ((c.toNat : Int) - 48)) (m + 1)
        have hge := mn_ge (a * 10 + ((c.toNat : Int) - 48)) (m + 1) 0 (by omega) (by omega)
        have hin := ih (mn (a * 10 + ((c.toNat : Int) - 48)) (m + 1)) (i + 1) (by omega) (by omega) hge hle
        have w1 : wrap64 (i + 1) = i + 1 := wrap_id (by omega) (by omega)
        have w2 : wrap64 (m + 1) = m + 1 := wrap_id (by omega) (by omega)
        have w3 : wrap64 (a * 10) = a * 10 := wrap_id (by omega) (by omega)
        have w4 : ((c.toNat : Int) - 48) % 256 = (c.toNat : Int) - 48 := by omega
        have w5 : wrap64 (a * 10 + ((c.toNat : Int) - 48)) = a * 10 + ((c.toNat : Int) - 48) := wrap_id (by omega) (by omega)
        refine Ev.step (fun k => ?_) hin
        show incident_number.l0 (k + 1) s m a i = _
        rw [incident_number.l0, if_pos (by omega), if_pos h0, hb, if_neg h48, if_neg h57, w1, w2, w3, w4, w5]
theorem number_ev (s : ByteArray) (m : Int) (hm0 : 0 ≤ m) (hm1 : m ≤ 4398046511104) (hs : (s.size : Int) < 9223372036854775807) : Ev (fun k => incident_number.f k s m) (numV (tl s) m) := by
  have key := number_l0 s m hm0 hm1 hs s.size 0 0 (by omega) (by omega) (by omega) (by omega)
  have hl := tl_len s
  have j0 : Ev (fun k => incident_number.j0 k s m false) (numGo (tl s) 0 m) := by
    refine Ev.step (fun k => ?_) key
    show incident_number.j0 (k + 1) s m false = _
    rw [incident_number.j0, if_neg (by decide)]
  have j1 : Ev (fun k => incident_number.j0 k s m true) (0, false) := by
    refine Ev.step (f := fun _ => some (0, false)) (fun k => ?_) (Ev.now _)
    show incident_number.j0 (k + 1) s m true = _
    rw [incident_number.j0, if_pos rfl]
  unfold numV
  by_cases h : tl s = []
  · rw [if_pos h]
    exact Ev.congr (fun k => by unfold incident_number.f; rw [toList_tl, if_pos h]) j1
  · rw [if_neg h]
    have hpos : 0 < s.size := by
      rw [← hl]; exact List.length_pos_iff.2 h
    by_cases h1 : (s.size : Int) > 1
    · obtain ⟨c, hc, hb⟩ := bt_tl s 0 (by omega) (by omega)
      rw [Int.toNat_zero, List.drop_zero] at hc
      have hh : (tl s).head? = some c := by rw [hc]; rfl
      by_cases h48 : c = 48
      · rw [if_pos ⟨by omega, by rw [hh, h48]⟩]
        refine Ev.congr (fun k => ?_) j1
        unfold incident_number.f
        rw [toList_tl, if_neg h, if_pos h1, if_pos (by omega), hb, h48]; rfl
      · rw [if_neg (fun e => h48 (Option.some.inj (hh.symm.trans e.2)))]
        refine Ev.congr (fun k => ?_) j0
        unfold incident_number.f
        have : ((c.toNat : Int) == 48) = false := beq_eq_false_iff_ne.2 (fun e => h48 (UInt8.toNat_inj.1 (by
          have e48 : (48 : UInt8).toNat = 48 := rfl
          omega)))
        rw [toList_tl, if_neg h, if_pos h1, if_pos (by omega), hb, this]
    · rw [if_neg (fun e => by omega)]
      refine Ev.congr (fun k => ?_) j0
      unfold incident_number.f
      rw [toList_tl, if_neg h, if_neg h1]
/-- The number of a numeral, cut off above the bound. -/
theorem numGo_val (m : Int) (hm : 0 ≤ m) : ∀ (w : List UInt8) (a : Nat), (∀ c ∈ w, digit c) → numGo w (mn a (m + 1)) m = (mn (valH w a) (m + 1), true)
  | [], a, _ => rfl
  | c :: r, a, h => by
    have hc := h c List.mem_cons_self
    unfold digit at hc
    have e : mn (mn (a : Int) (m + 1) * 10 + ((c.toNat : Int) - 48)) (m + 1) = mn ((a * 10 + (c.toNat - 48) : Nat) : Int) (m + 1) := by
      unfold mn; split <;> split <;> split <;> omega
    rw [numGo, if_neg (by omega), if_neg (by omega), e, numGo_val m hm r _ (fun x hx => h x (List.mem_cons_of_mem _ hx))]
    rfl
theorem numGo_ok (m : Int) : ∀ (w : List UInt8) (a : Int), (numGo w a m).2 = true → ∀ c ∈ w, digit c
  | [], a, _, c, hc => by cases hc
  | x :: r, a, h, c, hc => by
    rw [numGo] at h
    by_cases h1 : (x.toNat : Int) < 48
    · rw [if_pos h1] at h; cases h
    · rw [if_neg h1] at h
      by_cases h2 : (x.toNat : Int) > 57
      · rw [if_pos h2] at h; cases h
      · rw [if_neg h2] at h
        rcases List.mem_cons.1 hc with rfl | hc
        · unfold digit; omega
        · exact numGo_ok m r _ h c hc
theorem numV_canon {w : List UInt8} {m : Int} (hm : 0 ≤ m) (h : canon w) : numV w m = (mn (valH w 0) (m + 1), true) := by
  obtain ⟨h1, h2, h3⟩ := h
  unfold numV
  rw [if_neg h1, if_neg h2]
  have := numGo_val m hm w 0 h3
  rw [show mn ((0 : Nat) : Int) (m + 1) = 0 by unfold mn; split <;> omega] at this
  exact this
theorem numV_ok {w : List UInt8} {m : Int} (h : (numV w m).2 = true) : canon w := by
  unfold numV at h
  by_cases h1 : w = []
  · rw [if_pos h1] at h; cases h
  · rw [if_neg h1] at h
    by_cases h2 : 1 < w.length ∧ w.head? = some 48
    · rw [if_pos h2] at h; cases h
    · rw [if_neg h2] at h
      exact ⟨h1, h2, numGo_ok m w 0 h⟩
theorem numV_dec (n m : Int) (h0 : 0 ≤ n) (h1 : n ≤ m) : numV (decDigits n.toNat) m = (n, true) := by
  rw [numV_canon (by omega) (dec_canon _), dec_val]
  congr 1
  unfold mn; split <;> omega
/-- A number within its bound is the numeral's own. -/
theorem numV_back {w : List UInt8} {m : Int} (hm : 0 ≤ m) (h : (numV w m).2 = true) (hv : (numV w m).1 ≤ m) : 0 ≤ (numV w m).1 ∧ decDigits (numV w m).1.toNat = w := by
  have hc := numV_ok h
  have e := numV_canon hm hc
  rw [e] at hv ⊢
  have e2 : mn (valH w 0 : Int) (m + 1) = (valH w 0 : Int) := by
    revert hv
    unfold mn
    split <;> intro hv <;> simp only at hv <;> omega
  simp only
  rw [e2]
  exact ⟨by omega, by rw [Int.toNat_natCast]; exact canon_dec w hc⟩
/-! ### Parse -/
def kindF : Nat → Int → Int → List UInt8 → Int
  | 0, _, a, _ => a
  | d + 1, i, a, w => kindF d (i + 1) (if nameL i = w then i else a) w
def endV (k : Int) (n1 n2 n3 : Int × Bool) : Int × Int × Int × Int × Int :=
  if k ≠ 0 ∧ n1.2 = true ∧ n2.2 = true ∧ n3.2 = true then (if valV ⟨k, n1.1, n2.1, n3.1⟩ = 0 then (k, n1.1, n2.1, n3.1, 0) else (0, 0, 0, 0, valV ⟨k, n1.1, n2.1, n3.1⟩)) else (0, 0, 0, 0, 2)
def parV (ws : List (List UInt8)) : Int × Int × Int × Int × Int :=
  match ws with
  | [w0, w1, w2, w3, w4, w5, w6] => if w1 = wAt ∧ w3 = wLost ∧ w5 = wGrave then endV (kindF 6 1 0 w0) (numV w2 1099511627776) (numV w4 86400) (numV w6 3) else (0, 0, 0, 0, 2)
  | _ => (0, 0, 0, 0, 2)
theorem parV_len {ws : List (List UInt8)} (h : ws.length ≠ 7) : parV ws = (0, 0, 0, 0, 2) := by
  unfold parV
  split
  · exact absurd rfl h
  · rfl
theorem seven {α : Type} {l : List α} (h : l.length = 7) : ∃ a b c d e f g, l = [a, b, c, d, e, f, g] := by
  match l, h with
  | [a, b, c, d, e, f, g], _ => exact ⟨a, b, c, d, e, f, g, rfl⟩
theorem parse_j2 (k0 : Int) (n1 n2 n3 : Int × Bool) (b : Bool) (hb : b = true ↔ ¬ (k0 ≠ 0 ∧ n1.2 = true ∧ n2.2 = true ∧ n3.2 = true)) :
    Ev (fun k => incident_Parse.j2 k k0 n1.1 n2.1 n3.1 b) (endV k0 n1 n2 n3) := by
  unfold endV
  by_cases h : k0 ≠ 0 ∧ n1.2 = true ∧ n2.2 = true ∧ n3.2 = true
  · rw [if_pos h]
    have hf : b = false := by
      cases b with
      | false => rfl
      | true => exact absurd h (hb.1 rfl)
    subst hf
    refine Ev.step (f := fun k => (incident_Valid.f k k0 n1.1 n2.1 n3.1).bind fun t313 => (if t313 = 0 then (some (k0, n1.1, n2.1, n3.1, 0)) else (some (0, 0, 0, 0, t313)))) (fun k => ?_) ?_
    · show incident_Parse.j2 (k + 1) k0 n1.1 n2.1 n3.1 false = _
      rw [incident_Parse.j2, if_neg (by decide)]
    · refine Ev.bind (valid_ev ⟨k0, n1.1, n2.1, n3.1⟩) ?_
      by_cases hv : valV ⟨k0, n1.1, n2.1, n3.1⟩ = 0
      · rw [if_pos hv, if_pos hv]; exact Ev.now _
      · rw [if_neg hv, if_neg hv]; exact Ev.now _
  · rw [if_neg h]
    have ht := hb.2 h
    subst ht
    refine Ev.step (f := fun _ => some (0, 0, 0, 0, 2)) (fun k => ?_) (Ev.now _)
    show incident_Parse.j2 (k + 1) k0 n1.1 n2.1 n3.1 true = _
    rw [incident_Parse.j2, if_pos rfl]
theorem lt7 (b0 b1 b2 b3 b4 b5 b6 : ByteArray) (i : Int) (h : i < 7) : i < (([b0, b1, b2, b3, b4, b5, b6] : List ByteArray).length : Int) := h
theorem is7 (b0 b1 b2 b3 b4 b5 b6 : ByteArray) : (([b0, b1, b2, b3, b4, b5, b6] : List ByteArray).length : Int) = 7 := rfl
theorem parse_l0 (b0 b1 b2 b3 b4 b5 b6 : ByteArray) (h2 : (b2.size : Int) < 9223372036854775807) (h4 : (b4.size : Int) < 9223372036854775807) (h6 : (b6.size : Int) < 9223372036854775807) : ∀ (d : Nat) (a i : Int), 7 - i = (d : Int) → 1 ≤ i →
    Ev (fun k => incident_Parse.l0 k [b0, b1, b2, b3, b4, b5, b6] a i) (endV (kindF d i a (tl b0)) (numV (tl b2) 1099511627776) (numV (tl b4) 86400) (numV (tl b6) 3)) := by
  intro d
  induction d with
  | zero =>
    intro a i hd hi
    refine Ev.step (f := fun k => (incident_number.f k b2 1099511627776).bind fun bt304 => ((incident_number.f k b4 86400).bind fun bt307 => ((incident_number.f k b6 3).bind fun bt310 => (if a = 0 then (incident_Parse.j2 k a bt304.1 bt307.1 bt310.1 true) else (if bt304.2 = true then (if bt307.2 = true then (incident_Parse.j2 k a bt304.1 bt307.1 bt310.1 (!bt310.2)) else (incident_Parse.j2 k a bt304.1 bt307.1 bt310.1 true)) else (incident_Parse.j2 k a bt304.1 bt307.1 bt310.1 true)))))) (fun k => ?_) ?_
    · show incident_Parse.l0 (k + 1) _ a i = _
      rw [incident_Parse.l0, if_neg (by omega)]
      simp only [if_pos (lt7 b0 b1 b2 b3 b4 b5 b6 2 (by decide)), if_pos (lt7 b0 b1 b2 b3 b4 b5 b6 4 (by decide)), if_pos (lt7 b0 b1 b2 b3 b4 b5 b6 6 (by decide))]
      rfl
    · refine Ev.bind (number_ev b2 _ (by decide) (by decide) h2) (Ev.bind (number_ev b4 _ (by decide) (by decide) h4) (Ev.bind (number_ev b6 _ (by decide) (by decide) h6) ?_))
      show Ev _ (endV a _ _ _)
      generalize numV (tl b2) 1099511627776 = n1
      generalize numV (tl b4) 86400 = n2
      generalize numV (tl b6) 3 = n3
      by_cases ha : a = 0
      · exact Ev.congr (fun k => by rw [if_pos ha]) (parse_j2 a n1 n2 n3 true ⟨fun _ h => h.1 ha, fun _ => rfl⟩)
      · by_cases e1 : n1.2 = true
        · by_cases e2 : n2.2 = true
          · exact Ev.congr (fun k => by rw [if_neg ha, if_pos e1, if_pos e2]) (parse_j2 a n1 n2 n3 (!n3.2) (by cases h3 : n3.2 <;> simp [ha, e1, e2]))
          · exact Ev.congr (fun k => by rw [if_neg ha, if_pos e1, if_neg e2]) (parse_j2 a n1 n2 n3 true ⟨fun _ h => e2 h.2.2.1, fun _ => rfl⟩)
        · exact Ev.congr (fun k => by rw [if_neg ha, if_neg e1]) (parse_j2 a n1 n2 n3 true ⟨fun _ h => e1 h.2.1, fun _ => rfl⟩)
  | succ d ih =>
    intro a i hd hi
    have hin := ih (if nameL i = tl b0 then i else a) (i + 1) (by omega) (by omega)
    have hw : wrap64 (i + 1) = i + 1 := wrap_id (by omega) (by omega)
    refine Ev.step (fun k => ?_) hin
    show incident_Parse.l0 (k + 1) _ a i = _
    rw [incident_Parse.l0, if_pos (by omega), name_eq, Option.bind_some, if_pos (lt7 b0 b1 b2 b3 b4 b5 b6 0 (by decide)), toList_tl, toList_tl, tl_mk, hw]
    show (if nameL i = tl b0 then _ else _) = _
    split <;> rfl
theorem parse_bad (t : List ByteArray) : Ev (fun k => incident_Parse.j0 k t true) (0, 0, 0, 0, 2) := by
  refine Ev.step (f := fun _ => some (0, 0, 0, 0, 2)) (fun k => ?_) (Ev.now _)
  show incident_Parse.j0 (k + 1) t true = _
  rw [incident_Parse.j0, if_pos rfl]
theorem mem_len {ws : List (List UInt8)} {w : List UInt8} (h : w ∈ ws) : w.length ≤ (joinS ws).length := by
  induction ws with
  | nil => cases h
  | cons a r ih =>
    cases r with
    | nil => rw [List.mem_singleton.1 h]; exact Nat.le_refl _
    | cons b r =>
      rw [join_cons a (b :: r) (by simp), List.length_append, List.length_cons]
      rcases List.mem_cons.1 h with rfl | h
      · omega
      · have := ih h; omega
theorem parse_ev (s : ByteArray) (hs : s.size < 4294967281) : Ev (fun k => incident_Parse.f k s) (parV (spl (tl s))) := by
  have hsp := split_words _ s rfl
  have hf : splitBy.f s (⟨#[32]⟩ : ByteArray) = some (Lib.splitB ⟨#[32]⟩ 0 (Lib.countB s ⟨#[32]⟩) s) := by
    unfold splitBy.f
    rw [if_pos ⟨hs, Nat.le_refl 1⟩]
  unfold incident_Parse.f
  rw [hf]
  generalize Lib.splitB ⟨#[32]⟩ 0 (Lib.countB s ⟨#[32]⟩) s = T at hsp
  simp only [Option.bind_some]
  have hlen : T.length = (spl (tl s)).length := by rw [tl, ← hsp, List.length_map]
  by_cases h7 : T.length = 7
  · obtain ⟨b0, b1, b2, b3, b4, b5, b6, rfl⟩ := seven h7
    have e : spl (tl s) = [tl b0, tl b1, tl b2, tl b3, tl b4, tl b5, tl b6] := hsp.symm
    have hj := join_spl (tl s)
    have small : ∀ b : ByteArray, tl b ∈ spl (tl s) → (b.size : Int) < 9223372036854775807 := fun b hb => by
      have := mem_len hb
      rw [hj, tl_len, tl_len] at this
      omega
    have s2 := small b2 (by rw [e]; simp)
    have s4 := small b4 (by rw [e]; simp)
    have s6 := small b6 (by rw [e]; simp)
    rw [e]
    show Ev _ (if tl b1 = wAt ∧ tl b3 = wLost ∧ tl b5 = wGrave then endV (kindF 6 1 0 (tl b0)) (numV (tl b2) 1099511627776) (numV (tl b4) 86400) (numV (tl b6) 3) else (0, 0, 0, 0, 2))
    have r1 : (rdOf ByteArray.empty [b0, b1, b2, b3, b4, b5, b6] 1).toList = tl b1 := toList_tl _
    have r3 : (rdOf ByteArray.empty [b0, b1, b2, b3, b4, b5, b6] 3).toList = tl b3 := toList_tl _
    have r5 : (rdOf ByteArray.empty [b0, b1, b2, b3, b4, b5, b6] 5).toList = tl b5 := toList_tl _
    have key := parse_l0 b0 b1 b2 b3 b4 b5 b6 s2 s4 s6 6 0 1 (by decide) (by decide)
    by_cases h1 : tl b1 = wAt
    · by_cases h3 : tl b3 = wLost
      · by_cases h5 : tl b5 = wGrave
        · rw [if_pos ⟨h1, h3, h5⟩]
          refine Ev.congr (f := fun k => incident_Parse.j0 k [b0, b1, b2, b3, b4, b5, b6] false) (fun k => ?_) (Ev.step (fun k => ?_) key)
          · rw [if_pos (is7 b0 b1 b2 b3 b4 b5 b6), if_pos (lt7 b0 b1 b2 b3 b4 b5 b6 1 (by decide)), r1, if_pos h1, if_pos (lt7 b0 b1 b2 b3 b4 b5 b6 3 (by decide)), r3, if_pos h3, if_pos (lt7 b0 b1 b2 b3 b4 b5 b6 5 (by decide)), r5, h5]; rfl
          · show incident_Parse.j0 (k + 1) _ false = _
            rw [incident_Parse.j0, if_neg (by decide)]
        · rw [if_neg (fun h => h5 h.2.2)]
          refine Ev.congr (fun k => ?_) (parse_bad [b0, b1, b2, b3, b4, b5, b6])
          rw [if_pos (is7 b0 b1 b2 b3 b4 b5 b6), if_pos (lt7 b0 b1 b2 b3 b4 b5 b6 1 (by decide)), r1, if_pos h1, if_pos (lt7 b0 b1 b2 b3 b4 b5 b6 3 (by decide)), r3, if_pos h3, if_pos (lt7 b0 b1 b2 b3 b4 b5 b6 5 (by decide)), r5, bne_iff_ne.2 h5]
      · rw [if_neg (fun h => h3 h.2.1)]
        refine Ev.congr (fun k => ?_) (parse_bad [b0, b1, b2, b3, b4, b5, b6])
        rw [if_pos (is7 b0 b1 b2 b3 b4 b5 b6), if_pos (lt7 b0 b1 b2 b3 b4 b5 b6 1 (by decide)), r1, if_pos h1, if_pos (lt7 b0 b1 b2 b3 b4 b5 b6 3 (by decide)), r3, if_neg h3]
    · rw [if_neg (fun h => h1 h.1)]
      refine Ev.congr (fun k => ?_) (parse_bad [b0, b1, b2, b3, b4, b5, b6])
      rw [if_pos (is7 b0 b1 b2 b3 b4 b5 b6), if_pos (lt7 b0 b1 b2 b3 b4 b5 b6 1 (by decide)), r1, if_neg h1]
  · rw [parV_len (by rw [← hlen]; exact h7)]
    exact Ev.congr (fun k => by rw [if_neg (by omega)]) (parse_bad _)
/-! ### inverse to each other -/
theorem kindF_name (k : Int) (h1 : 1 ≤ k) (h6 : k ≤ 6) : kindF 6 1 0 (nameL k) = k := by
  have : k = 1 ∨ k = 2 ∨ k = 3 ∨ k = 4 ∨ k = 5 ∨ k = 6 := by omega
  rcases this with rfl | rfl | rfl | rfl | rfl | rfl <;> decide
theorem kindF_back : ∀ (d : Nat) (i a : Int) (w : List UInt8), 1 ≤ i → i + d = 7 → (a = 0 ∨ (nameL a = w ∧ 1 ≤ a ∧ a ≤ 6)) → kindF d i a w = 0 ∨ (nameL (kindF d i a w) = w ∧ 1 ≤ kindF d i a w ∧ kindF d i a w ≤ 6)
  | 0, i, a, w, _, _, h => h
  | d + 1, i, a, w, h1, h2, h => by
    rw [kindF]
    refine kindF_back d (i + 1) _ w (by omega) (by omega) ?_
    by_cases e : nameL i = w
    · rw [if_pos e]; exact .inr ⟨e, by omega, by omega⟩
    · rw [if_neg e]; exact h
theorem parse_print (x : S23) (h : valV x = 0) : parV (spl (textL x)) = (x.f0, x.f1, x.f2, x.f3, 0) := by
  have ho := (valV_zero x).1 h
  unfold okI at ho
  have e : spl (textL x) = textW x := spl_join (textW x) (by simp [textW]) (fun w hw => by
    unfold textW at hw
    simp only [List.mem_cons, List.not_mem_nil, or_false] at hw
    rcases hw with rfl | rfl | rfl | rfl | rfl | rfl | rfl
    · exact nameL_free _
    · decide
    · exact dec_blank _
    · decide
    · exact dec_blank _
    · decide
    · exact dec_blank _)
  rw [e]
  show (if wAt = wAt ∧ wLost = wLost ∧ wGrave = wGrave then endV (kindF 6 1 0 (nameL x.f0)) (numV (decDigits x.f1.toNat) 1099511627776) (numV (decDigits x.f2.toNat) 86400) (numV (decDigits x.f3.toNat) 3) else (0, 0, 0, 0, 2)) = _
  rw [if_pos ⟨rfl, rfl, rfl⟩, kindF_name _ (by omega) (by omega), numV_dec _ _ (by omega) (by omega), numV_dec _ _ (by omega) (by omega), numV_dec _ _ (by omega) (by omega)]
  unfold endV
  rw [if_pos ⟨by omega, rfl, rfl, rfl⟩, if_pos h]
theorem print_parse (l : List UInt8) (h : (parV (spl l)).2.2.2.2 = 0) : ∃ x : S23, parV (spl l) = (x.f0, x.f1, x.f2, x.f3, 0) ∧ valV x = 0 ∧ textL x = l := by
  have hj := join_spl l
  unfold parV at h ⊢
  split at h
  · rename_i w0 w1 w2 w3 w4 w5 w6 hw
    by_cases hc : w1 = wAt ∧ w3 = wLost ∧ w5 = wGrave
    · rw [if_pos hc] at h
      unfold endV at h
      by_cases hk : kindF 6 1 0 w0 ≠ 0 ∧ (numV w2 1099511627776).2 = true ∧ (numV w4 86400).2 = true ∧ (numV w6 3).2 = true
      · rw [if_pos hk] at h
        by_cases hv : valV ⟨kindF 6 1 0 w0, (numV w2 1099511627776).1, (numV w4 86400).1, (numV w6 3).1⟩ = 0
        · refine ⟨⟨kindF 6 1 0 w0, (numV w2 1099511627776).1, (numV w4 86400).1, (numV w6 3).1⟩, ?_, hv, ?_⟩
          · show (if w1 = wAt ∧ w3 = wLost ∧ w5 = wGrave then _ else _) = _
            rw [if_pos hc]
            unfold endV
            rw [if_pos hk, if_pos hv]
          · have ho := (valV_zero _).1 hv
            unfold okI at ho
            simp only at ho
            obtain ⟨_, b2⟩ := numV_back (by decide) hk.2.1 (by omega)
            obtain ⟨_, b4⟩ := numV_back (by decide) hk.2.2.1 (by omega)
            obtain ⟨_, b6⟩ := numV_back (by decide) hk.2.2.2 (by omega)
            have bk := (kindF_back 6 1 0 w0 (by decide) (by decide) (.inl rfl)).resolve_left hk.1
            unfold textL textW
            simp only
            rw [b2, b4, b6, bk.1, ← hc.1, ← hc.2.1, ← hc.2.2, ← hw]
            exact hj
        · rw [if_neg hv] at h; exact absurd h hv
      · rw [if_neg hk] at h; exact absurd h (by decide)
    · rw [if_neg hc] at h; exact absurd h (by decide)
  · exact absurd h (by decide)
end Go.Proofs.YtidehmfaebiebaaDoor.Pure
