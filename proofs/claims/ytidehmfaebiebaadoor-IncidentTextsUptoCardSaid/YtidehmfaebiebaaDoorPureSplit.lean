/- Words: what strings.Split at one blank computes, the words joined again, and decimal numerals. No condition but those that each theorem states. -/
import Derived.Lib.SplitLaws
import Derived.Lib.IndexLaws
import Derived.Lib.IndexBytes
import Derived.Lib.ItoaNum
namespace Go.Proofs.YtidehmfaebiebaaDoor.Words
open Go.Lib
set_option linter.unusedVariables false

/-- The words of a text, cut at each blank. -/
def spl : List UInt8 → List (List UInt8)
  | [] => [[]]
  | c :: l => if c = 32 then [] :: spl l else match spl l with
    | [] => [[c]]
    | h :: t => (c :: h) :: t
def joinS : List (List UInt8) → List UInt8
  | [] => []
  | [a] => a
  | a :: b :: r => a ++ 32 :: joinS (b :: r)
theorem spl_ne (l : List UInt8) : spl l ≠ [] := by
  cases l with
  | nil => simp [spl]
  | cons c l =>
    rw [spl]
    split
    · simp
    · split <;> simp
theorem join_cons (h : List UInt8) (t : List (List UInt8)) (ht : t ≠ []) : joinS (h :: t) = h ++ 32 :: joinS t := by
  cases t with
  | nil => exact absurd rfl ht
  | cons b r => rfl
theorem join_spl : ∀ l : List UInt8, joinS (spl l) = l
  | [] => rfl
  | c :: l => by
    have ih := join_spl l
    rw [spl]
    by_cases hc : c = 32
    · rw [if_pos hc, join_cons _ _ (spl_ne l), ih, hc]; rfl
    · rw [if_neg hc]
      cases hs : spl l with
      | nil => exact absurd hs (spl_ne l)
      | cons h t =>
        rw [hs] at ih
        show joinS ((c :: h) :: t) = c :: l
        cases t with
        | nil => show c :: h = c :: l; rw [← ih]; rfl
        | cons b r => rw [← ih]; rfl
theorem spl_free (l : List UInt8) (h : (32 : UInt8) ∉ l) : spl l = [l] := by
  induction l with
  | nil => rfl
  | cons c l ih =>
    rw [spl, if_neg (fun e => h (by rw [e]; exact List.mem_cons_self)), ih (fun e => h (List.mem_cons_of_mem _ e))]
theorem spl_cut (a l : List UInt8) (h : (32 : UInt8) ∉ a) : spl (a ++ 32 :: l) = a :: spl l := by
  induction a with
  | nil => show spl (32 :: l) = _; rw [spl, if_pos rfl]
  | cons c a ih =>
    show spl (c :: (a ++ 32 :: l)) = _
    rw [spl, if_neg (fun e => h (by rw [e]; exact List.mem_cons_self)), ih (fun e => h (List.mem_cons_of_mem _ e))]
theorem spl_join : ∀ ws : List (List UInt8), ws ≠ [] → (∀ w ∈ ws, (32 : UInt8) ∉ w) → spl (joinS ws) = ws
  | [], h, _ => absurd rfl h
  | [a], _, h => spl_free a (h a List.mem_cons_self)
  | a :: b :: r, _, h => by
    show spl (a ++ 32 :: joinS (b :: r)) = _
    rw [spl_cut _ _ (h a List.mem_cons_self), spl_join (b :: r) (by simp) (fun w hw => h w (List.mem_cons_of_mem _ hw))]
/-- strings.Split at one blank, as lists. -/
theorem index_blank (s : ByteArray) : indexB s ⟨#[32]⟩ = indexByte s.data.toList 32 := index_one _ _
theorem split_words (k : Nat) : ∀ s : ByteArray, countB s ⟨#[32]⟩ = k → (splitB ⟨#[32]⟩ 0 k s).map (fun w => w.data.toList) = spl s.data.toList := by
  induction k with
  | zero =>
    intro s hk
    rcases indexB_cases s ⟨#[32]⟩ with hix | ⟨i, hix, hroom⟩
    · rw [splitB_miss _ _ _ _ hix]
      have hn := indexByte_none ((index_blank s).symm.trans hix)
      rw [spl_free _ (fun hm => by
        obtain ⟨j, hj⟩ := List.getElem?_of_mem hm
        exact hn j hj)]
      rfl
    · have hc := countB_hit s ⟨#[32]⟩ i (Nat.le_refl 1) hix
      omega
  | succ k ih =>
    intro s hk
    rcases indexB_cases s ⟨#[32]⟩ with hix | ⟨i, hix, hroom⟩
    · rw [countB_miss _ _ hix] at hk; omega
    · have hc := countB_hit s ⟨#[32]⟩ i (Nat.le_refl 1) hix
      have h1 : (⟨#[32]⟩ : ByteArray).size = 1 := rfl
      rw [h1] at hc hroom
      rw [splitB_hit _ _ _ _ i hix, List.map_cons, h1, ih _ (by omega)]
      obtain ⟨ha, hb⟩ := indexByte_some ((index_blank s).symm.trans hix)
      have e : s.data.toList = s.data.toList.take i ++ 32 :: s.data.toList.drop (i + 1) := by
        have hi : i < s.data.toList.length := by rw [Array.length_toList]; exact Nat.lt_of_lt_of_le (Nat.lt_succ_self i) hroom
        have h2 := List.drop_eq_getElem_cons hi
        rw [List.getElem?_eq_getElem hi] at ha
        rw [Option.some.inj ha] at h2
        rw [← h2, List.take_append_drop]
      have e1 : (s.extract 0 (i + 0)).data.toList = s.data.toList.take i := by
        rw [ByteArray.data_extract, Array.toList_extract]; rfl
      have e2 : (s.extract (i + 1) s.size).data.toList = s.data.toList.drop (i + 1) := by
        rw [ByteArray.data_extract, Array.toList_extract]
        exact List.take_of_length_le (by rw [List.length_drop, Array.length_toList]; exact Nat.le_refl _)
      rw [e1, e2]
      conv => rhs; rw [e]
      refine (spl_cut _ _ (fun hm => ?_)).symm
      obtain ⟨j, hj⟩ := List.getElem?_of_mem hm
      rw [List.getElem?_take] at hj
      split at hj
      · rename_i hlt; exact hb j hlt hj
      · cases hj
/-! ### numerals -/
def valH : List UInt8 → Nat → Nat
  | [], a => a
  | c :: r, a => valH r (a * 10 + (c.toNat - 48))
def digit (c : UInt8) : Prop := 48 ≤ c.toNat ∧ c.toNat ≤ 57
instance (c : UInt8) : Decidable (digit c) := by unfold digit; infer_instance
/-- A numeral without a leading zero. -/
def canon (w : List UInt8) : Prop := w ≠ [] ∧ ¬ (1 < w.length ∧ w.head? = some 48) ∧ ∀ c ∈ w, digit c
theorem valH_app (a b : List UInt8) (n : Nat) : valH (a ++ b) n = valH b (valH a n) := by
  induction a generalizing n with
  | nil => rfl
  | cons c a ih => exact ih _
theorem ofNat_digit {d : Nat} (h : d < 10) : (UInt8.ofNat (48 + d)).toNat = 48 + d := by
  rw [UInt8.toNat_ofNat']; omega
theorem dec_all (u : Nat) : (∀ c ∈ decDigits u, digit c) ∧ decDigits u ≠ [] ∧ valH (decDigits u) 0 = u ∧ (1 ≤ u → (decDigits u).head? ≠ some 48) ∧ (1 < (decDigits u).length → 1 ≤ u) := by
  induction u using Nat.strongRecOn with
  | ind u ih =>
    rw [decDigits]
    by_cases h : u < 10
    · rw [dif_pos h]
      have e := ofNat_digit h
      refine ⟨fun c hc => ?_, by simp, ?_, fun h1 => ?_, fun h1 => ?_⟩
      · rw [List.mem_singleton.1 hc]; unfold digit; omega
      · show 0 * 10 + ((UInt8.ofNat (48 + u)).toNat - 48) = u; omega
      · intro hh
        have : UInt8.ofNat (48 + u) = 48 := Option.some.inj hh
        rw [this] at e
        have e48 : (48 : UInt8).toNat = 48 := rfl
        omega
      · exact absurd h1 (by simp)
    · rw [dif_neg h]
      obtain ⟨i1, i2, i3, i4, i5⟩ := ih (u / 10) (by omega)
      have e := ofNat_digit (Nat.mod_lt u (by omega : 10 > 0))
      refine ⟨fun c hc => ?_, by simp, ?_, fun h1 => ?_, fun _ => by omega⟩
      · rcases List.mem_append.1 hc with hc | hc
        · exact i1 c hc
        · rw [List.mem_singleton.1 hc]; unfold digit; omega
      · rw [valH_app, i3]
        show u / 10 * 10 + ((UInt8.ofNat (48 + u % 10)).toNat - 48) = u
        omega
      · cases hd : decDigits (u / 10) with
        | nil => exact absurd hd i2
        | cons c r => have := i4 (by omega); rw [hd] at this; exact this
theorem dec_canon (u : Nat) : canon (decDigits u) := by
  obtain ⟨i1, i2, i3, i4, i5⟩ := dec_all u
  exact ⟨i2, fun h => i4 (i5 h.1) h.2, i1⟩
theorem dec_val (u : Nat) : valH (decDigits u) 0 = u := (dec_all u).2.2.1
theorem valH_ge : ∀ (w : List UInt8) (a : Nat), a ≤ valH w a
  | [], a => Nat.le_refl _
  | c :: r, a => Nat.le_trans (by omega) (valH_ge r _)
theorem canon_pos {w : List UInt8} (hw : w ≠ []) (hd : ∀ c ∈ w, digit c) (hh : w.head? ≠ some 48) : 1 ≤ valH w 0 := by
  cases w with
  | nil => exact absurd rfl hw
  | cons c r =>
    have h1 := hd c List.mem_cons_self
    unfold digit at h1
    have h2 : c.toNat ≠ 48 := fun e => hh (by
      show some c = some 48
      congr 1
      exact UInt8.toNat_inj.1 e)
    refine Nat.le_trans ?_ (valH_ge r _)
    omega
theorem canon_dec (w : List UInt8) (h : canon w) : decDigits (valH w 0) = w := by
  obtain ⟨hn, hz, hd⟩ := h
  have key : ∀ (n : Nat) (w : List UInt8), w.length = n → w ≠ [] → ¬ (1 < w.length ∧ w.head? = some 48) → (∀ c ∈ w, digit c) → decDigits (valH w 0) = w := by
    intro n
    induction n with
    | zero => intro w hl hn; exact absurd (List.length_eq_zero_iff.1 hl) hn
    | succ n ih =>
      intro w hl hn hz hd
      obtain ⟨v, c, rfl⟩ : ∃ v c, w = v ++ [c] := ⟨w.dropLast, w.getLast hn, (List.dropLast_concat_getLast hn).symm⟩
      have hc := hd c (List.mem_append_right _ List.mem_cons_self)
      unfold digit at hc
      rw [valH_app]
      show decDigits (valH v 0 * 10 + (c.toNat - 48)) = _
      by_cases hv : v = []
      · subst hv
        show decDigits (0 * 10 + (c.toNat - 48)) = _
        rw [decDigits, dif_pos (by omega)]
        show [UInt8.ofNat (48 + (0 * 10 + (c.toNat - 48)))] = [c]
        congr 1
        apply UInt8.toNat_inj.1
        rw [UInt8.toNat_ofNat']; omega
      · have hh : v.head? ≠ some 48 := fun e => hz ⟨by
          rw [List.length_append]
          have : 0 < v.length := List.length_pos_iff.2 hv
          simp; omega, by
          cases v with
          | nil => exact absurd rfl hv
          | cons a r => exact e⟩
        have hdv : ∀ c ∈ v, digit c := fun x hx => hd x (List.mem_append_left _ hx)
        have hp := canon_pos hv hdv hh
        rw [decDigits, dif_neg (by omega), show (valH v 0 * 10 + (c.toNat - 48)) / 10 = valH v 0 by omega, show (valH v 0 * 10 + (c.toNat - 48)) % 10 = c.toNat - 48 by omega,
          ih v (by rw [List.length_append] at hl; simpa using hl) hv (fun e => hh e.2) hdv]
        congr 2
        apply UInt8.toNat_inj.1
        rw [UInt8.toNat_ofNat']; omega
  exact key w.length w rfl hn hz hd
theorem dec_blank (u : Nat) : (32 : UInt8) ∉ decDigits u := fun h => by
  have := (dec_all u).1 32 h
  unfold digit at this
  have e : (32 : UInt8).toNat = 32 := rfl
  omega
theorem dec_len : ∀ (k u : Nat), u < 10 ^ (k + 1) → (decDigits u).length ≤ k + 1
  | 0, u, h => by rw [decDigits, dif_pos (by omega)]; simp
  | k + 1, u, h => by
    rw [decDigits]
    by_cases hu : u < 10
    · rw [dif_pos hu]; simp
    · rw [dif_neg hu, List.length_append]
      have := dec_len k (u / 10) (by rw [Nat.div_lt_iff_lt_mul (by omega)]; rw [← Nat.pow_succ]; exact h)
      simp; omega
end Go.Proofs.YtidehmfaebiebaaDoor.Words
