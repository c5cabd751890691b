/- The reference's big numbers of at most two limbs: Norm and Print as contracts in plain words: Print writes the decimal numeral. Conditions: those that each theorem states. -/
import Derived.Test.YtidehmfaebiebaaDoorGRef
import Derived.Test.YtidehmfaebiebaaDoorPureSplit
namespace Go.Proofs.YtidehmfaebiebaaDoor.PInc
open Go.RowKit Go.Proofs.YtidehmfaebiebaaDoorW.PrintWords Go.Proofs.YtidehmfaebiebaaDoorW.PrintLast Go.Proofs.YtidehmfaebiebaaDoorW.PrintMore
open Go.Lib (decDigits)
set_option linter.unusedVariables false

theorem nwrap {x : Int} (h0 : -9223372036854775808 ≤ x) (h1 : x ≤ 9223372036854775807) : wrap64 x = x := by
  unfold wrap64; omega
theorem uwrap {x : Int} (h0 : 0 ≤ x) (h1 : x < 18446744073709551616) : IntKind.u64.wrap x = x := by
  rw [IntKind.wrap_u64]; omega
def norm2 : List Int → List Int
  | [a, b] => if b = 0 then (if a = 0 then [] else [a]) else [a, b]
  | [a] => if a = 0 then [] else [a]
  | _ => []
def val2 : List Int → Int
  | [a, b] => a + b * 4294967296
  | [a] => a
  | _ => 0
def ok2 (l : List Int) : Prop := l.length ≤ 2 ∧ ∀ x ∈ l, 0 ≤ x ∧ x ≤ 4294967295
theorem two {l : List Int} (h : l.length ≤ 2) : l = [] ∨ (∃ a, l = [a]) ∨ ∃ a b, l = [a, b] := by
  match l, h with
  | [], _ => exact .inl rfl
  | [a], _ => exact .inr (.inl ⟨a, rfl⟩)
  | [a, b], _ => exact .inr (.inr ⟨a, b, rfl⟩)
theorem norm_stop (l : List Int) (x : Int) (hl : (l.length : Int) ≤ 1000) (h0 : 0 ≤ x) (h1 : x ≤ (l.length : Int)) (h : x = 0 ∨ rd l (x - 1) ≠ 0) : Ev (fun k => examboardref01_Norm.l0 k l x) (l.take x.toNat) := by
  refine Ev.step (f := fun _ => some (l.take x.toNat)) (fun k => ?_) (Ev.now _)
  show examboardref01_Norm.l0 (k + 1) l x = _
  rw [examboardref01_Norm.l0]
  by_cases hx : x > 0
  · have hr := h.resolve_left (by omega)
    rw [if_pos hx, nwrap (x := x - 1) (by omega) (by omega), if_pos (by omega), if_pos (by omega), if_neg hr, if_pos h0, if_pos (by omega), if_pos h1]
  · rw [if_neg hx, if_pos h0, if_pos (by omega), if_pos h1]
theorem norm_go (l : List Int) (x : Int) (r : List Int) (hl : (l.length : Int) ≤ 1000) (h0 : 0 < x) (h1 : x ≤ (l.length : Int)) (h : rd l (x - 1) = 0) (k : Ev (fun k => examboardref01_Norm.l0 k l (x - 1)) r) : Ev (fun k => examboardref01_Norm.l0 k l x) r := by
  refine Ev.step (fun k => ?_) k
  show examboardref01_Norm.l0 (k + 1) l x = _
  rw [examboardref01_Norm.l0, if_pos h0, nwrap (x := x - 1) (by omega) (by omega), if_pos (by omega), if_pos (by omega), if_pos h]
theorem norm_ev (l : List Int) (h : l.length ≤ 2) : Ev (fun k => examboardref01_Norm.f k l) (norm2 l) := by
  unfold examboardref01_Norm.f
  rcases two h with rfl | ⟨a, rfl⟩ | ⟨a, b, rfl⟩
  · exact norm_stop [] 0 (by decide) (by decide) (by decide) (.inl rfl)
  · show Ev (fun k => examboardref01_Norm.l0 k [a] 1) (if a = 0 then [] else [a])
    by_cases ha : a = 0
    · rw [if_pos ha]
      exact norm_go [a] 1 _ (by simp) (by decide) (by simp) ha (norm_stop [a] 0 (by simp) (by decide) (by simp) (.inl rfl))
    · rw [if_neg ha]
      exact norm_stop [a] 1 (by simp) (by decide) (by simp) (.inr ha)
  · show Ev (fun k => examboardref01_Norm.l0 k [a, b] 2) (if b = 0 then (if a = 0 then [] else [a]) else [a, b])
    by_cases hb : b = 0
    · rw [if_pos hb]
      refine norm_go [a, b] 2 _ (by simp) (by decide) (by simp) hb ?_
      by_cases ha : a = 0
      · rw [if_pos ha]
        exact norm_go [a, b] 1 _ (by simp) (by decide) (by simp) ha (norm_stop [a, b] 0 (by simp) (by decide) (by simp) (.inl rfl))
      · rw [if_neg ha]
        exact norm_stop [a, b] 1 (by simp) (by decide) (by simp) (.inr ha)
    · rw [if_neg hb]
      exact norm_stop [a, b] 2 (by simp) (by decide) (by simp) (.inr hb)
theorem norm2_facts (l : List Int) (h : ok2 l) : ok2 (norm2 l) ∧ val2 (norm2 l) = val2 l ∧ (norm2 l = [] ∨ 0 < val2 l) := by
  obtain ⟨h1, h2⟩ := h
  rcases two h1 with rfl | ⟨a, rfl⟩ | ⟨a, b, rfl⟩
  · exact ⟨⟨by decide, fun x hx => by cases hx⟩, rfl, .inl rfl⟩
  · have ha := h2 a (by simp)
    rw [show norm2 [a] = if a = 0 then [] else [a] from rfl]
    by_cases h0 : a = 0
    · rw [if_pos h0]; exact ⟨⟨by decide, fun x hx => by cases hx⟩, by rw [h0]; rfl, .inl rfl⟩
    · rw [if_neg h0]; exact ⟨⟨by simp, h2⟩, rfl, .inr (by show 0 < a; omega)⟩
  · have ha := h2 a (by simp)
    have hb := h2 b (by simp)
    rw [show norm2 [a, b] = if b = 0 then (if a = 0 then [] else [a]) else [a, b] from rfl]
    by_cases h0 : b = 0
    · rw [if_pos h0]
      by_cases h3 : a = 0
      · rw [if_pos h3]; exact ⟨⟨by decide, fun x hx => by cases hx⟩, by show (0 : Int) = a + b * 4294967296; omega, .inl rfl⟩
      · rw [if_neg h3]
        exact ⟨⟨by simp, fun x hx => by rw [List.mem_singleton.1 hx]; exact ha⟩, by show a = a + b * 4294967296; omega, .inr (by show 0 < a + b * 4294967296; omega)⟩
    · rw [if_neg h0]; exact ⟨⟨by simp, h2⟩, rfl, .inr (by show 0 < a + b * 4294967296; omega)⟩
theorem short_step (l o : List Int) (r i : Int) (k : Nat) (hl : (l.length : Int) ≤ 1000) (h0 : 0 ≤ i) (h1 : i < (l.length : Int)) (h2 : i < (o.length : Int)) (hr0 : 0 ≤ r) (hr1 : r < 10) (hd0 : 0 ≤ rd l i) (hd1 : rd l i ≤ 4294967295) :
    examboardref01_short.l0 (k + 1) l 10 o r i = examboardref01_short.l0 k l 10 (o.set i.toNat ((r * 4294967296 + rd l i) / 10)) ((r * 4294967296 + rd l i) % 10) (i - 1) := by
  rw [examboardref01_short.l0, if_pos h0, if_pos h0, if_pos h1, if_neg (by decide), if_pos h2, uwrap (x := r * 4294967296) (by omega) (by omega), uwrap (x := rd l i) (by omega) (by omega), uwrap (x := r * 4294967296 + rd l i) (by omega) (by omega),
    Int.tdiv_eq_ediv_of_nonneg (by omega), Int.tmod_eq_emod_of_nonneg (by omega), uwrap (x := (r * 4294967296 + rd l i) / 10) (by omega) (by omega), nwrap (x := i - 1) (by omega) (by omega), show (r * 4294967296 + rd l i) / 10 % 4294967296 = (r * 4294967296 + rd l i) / 10 by omega]
theorem short_end (l o : List Int) (r : Int) (h : o.length ≤ 2) : Ev (fun k => examboardref01_short.l0 k l 10 o r (-1)) (norm2 o, r) := by
  refine Ev.step (f := fun k => (examboardref01_Norm.f k o).bind fun t113 => (some (t113, r))) (fun k => ?_) (Ev.bind (norm_ev o h) (Ev.now _))
  show examboardref01_short.l0 (k + 1) l 10 o r (-1) = _
  rw [examboardref01_short.l0, if_neg (by decide)]
theorem short_ev (l : List Int) (h : ok2 l) (hne : l ≠ []) : ∃ q, Ev (fun k => examboardref01_short.f k l 10) (norm2 q, val2 l % 10) ∧ ok2 q ∧ val2 q = val2 l / 10 := by
  obtain ⟨h1, h2⟩ := h
  rcases two h1 with rfl | ⟨a, rfl⟩ | ⟨a, b, rfl⟩
  · exact absurd rfl hne
  · have ha := h2 a (by simp)
    refine ⟨[a / 10], ?_, ⟨by simp, fun x hx => by rw [List.mem_singleton.1 hx]; omega⟩, rfl⟩
    refine Ev.congr (f := fun k => examboardref01_short.l0 k [a] 10 [0] 0 0) (fun k => ?_) ?_
    · unfold examboardref01_short.f
      rw [if_pos (by simp), if_pos (by simp)]
      show examboardref01_short.l0 k [a] 10 [0] 0 (wrap64 (1 - 1)) = _
      rw [nwrap (x := 1 - 1) (by decide) (by decide)]
      rfl
    · refine Ev.step (f := fun k => examboardref01_short.l0 k [a] 10 [a / 10] (a % 10) (-1)) (fun k => ?_) (short_end _ _ _ (by simp))
      show examboardref01_short.l0 (k + 1) [a] 10 [0] 0 0 = _
      rw [short_step [a] [0] 0 0 k (by simp) (by decide) (by simp) (by simp) (by decide) (by decide) ha.1 ha.2]
      have e : (0 : Int) * 4294967296 + rd [a] 0 = a := by show 0 * 4294967296 + a = a; omega
      rw [e]; rfl
  · have ha := h2 a (by simp)
    have hb := h2 b (by simp)
    refine ⟨[(b % 10 * 4294967296 + a) / 10, b / 10], ?_, ⟨by simp, fun x hx => ?_⟩, ?_⟩
    · have ev : (b % 10 * 4294967296 + a) % 10 = val2 [a, b] % 10 := by show _ = (a + b * 4294967296) % 10; omega
      rw [← ev]
      refine Ev.congr (f := fun k => examboardref01_short.l0 k [a, b] 10 [0, 0] 0 1) (fun k => ?_) ?_
      · unfold examboardref01_short.f
        rw [if_pos (by simp), if_pos (by simp)]
        show examboardref01_short.l0 k [a, b] 10 [0, 0] 0 (wrap64 (2 - 1)) = _
        rw [nwrap (x := 2 - 1) (by decide) (by decide)]
        rfl
      · refine Ev.step (f := fun k => examboardref01_short.l0 k [a, b] 10 [0, b / 10] (b % 10) 0) (fun k => ?_) ?_
        · show examboardref01_short.l0 (k + 1) [a, b] 10 [0, 0] 0 1 = _
          rw [short_step [a, b] [0, 0] 0 1 k (by simp) (by decide) (by simp) (by simp) (by decide) (by decide) hb.1 hb.2]
          have e : (0 : Int) * 4294967296 + rd [a, b] 1 = b := by show 0 * 4294967296 + b = b; omega
          rw [e]; rfl
        · refine Ev.step (f := fun k => examboardref01_short.l0 k [a, b] 10 [(b % 10 * 4294967296 + a) / 10, b / 10] ((b % 10 * 4294967296 + a) % 10) (-1)) (fun k => ?_) (short_end _ _ _ (by simp))
          show examboardref01_short.l0 (k + 1) [a, b] 10 [0, b / 10] (b % 10) 0 = _
          rw [short_step [a, b] [0, b / 10] (b % 10) 0 k (by simp) (by decide) (by simp) (by simp) (by omega) (by omega) ha.1 ha.2]
          rfl
    · simp only [List.mem_cons, List.not_mem_nil, or_false] at hx
      rcases hx with rfl | rfl <;> omega
    · show (b % 10 * 4294967296 + a) / 10 + b / 10 * 4294967296 = (a + b * 4294967296) / 10
      omega
def digs : Nat → Int → List Int
  | 0, _ => []
  | D + 1, n => if n = 0 then [] else (48 + n % 10) :: digs D (n / 10)
theorem digs_len : ∀ (D : Nat) (n : Int), (digs D n).length ≤ D
  | 0, n => Nat.le_refl _
  | D + 1, n => by
    rw [digs]
    split
    · simp
    · have := digs_len D (n / 10); simp; omega
theorem pr_l1 (b : List Int) (hb : b.length ≤ 1000) : ∀ (d : Nat) (i : Int), 0 ≤ i → (b.length : Int) - i = (d : Int) →
    Ev (fun k => examboardref01_Print.l1 k b (List.replicate d 0 ++ (b.take i.toNat).reverse) i) (strOfNums b.reverse) := by
  intro d
  induction d with
  | zero =>
    intro i h0 hd
    have e : (List.replicate 0 (0 : Int) ++ (b.take i.toNat).reverse) = b.reverse := by
      rw [List.take_of_length_le (by omega)]; rfl
    rw [e]
    refine Ev.step (f := fun _ => some (strOfNums b.reverse)) (fun k => ?_) (Ev.now _)
    show examboardref01_Print.l1 (k + 1) b b.reverse i = _
    rw [examboardref01_Print.l1, if_neg (by omega)]
  | succ d ih =>
    intro i h0 hd
    have hin := ih (i + 1) (by omega) (by omega)
    have hlt : i.toNat < b.length := by omega
    have e1 : b.take (i + 1).toNat = b.take i.toNat ++ [rd b i] := by
      rw [show (i + 1).toNat = i.toNat + 1 by omega, List.take_succ_eq_append_getElem hlt]
      congr 2
      simp [rd, List.getD, List.getElem?_eq_getElem hlt]
    have w1 : wrap64 (i + 1) = i + 1 := nwrap (by omega) (by omega)
    have w2 : wrap64 ((b.length : Int) - 1) = (b.length : Int) - 1 := nwrap (by omega) (by omega)
    have w3 : wrap64 ((b.length : Int) - 1 - i) = (d : Int) := by rw [show (b.length : Int) - 1 - i = (d : Int) by omega]; exact nwrap (by omega) (by omega)
    have e2 : (List.replicate (d + 1) (0 : Int) ++ (b.take i.toNat).reverse).set ((d : Int)).toNat (rd b i) = List.replicate d 0 ++ (b.take (i + 1).toNat).reverse := by
      rw [e1, List.reverse_append, List.replicate_succ', Int.toNat_natCast, List.append_assoc, List.set_append_right _ _ (by simp)]
      simp
    refine Ev.step (fun k => ?_) hin
    show examboardref01_Print.l1 (k + 1) b _ i = _
    rw [examboardref01_Print.l1, if_pos (by omega), if_pos h0, w2, w3, if_pos (by omega), if_pos (by simp only [List.length_append, List.length_replicate, List.length_reverse, List.length_take]; omega), w1, e2]
theorem pr_l0 : ∀ (D : Nat) (l b : List Int), ok2 l → (l = [] ∨ 0 < val2 l) → val2 l < 10 ^ D → b.length + D ≤ 1000 → Ev (fun k => examboardref01_Print.l0 k l b) (strOfNums (b ++ digs D (val2 l)).reverse) := by
  intro D
  induction D with
  | zero =>
    intro l b ho hn hv hb
    have hl : l = [] := hn.resolve_right (by omega)
    subst hl
    have e : digs 0 (val2 []) = [] := rfl
    rw [e, List.append_nil]
    have key := pr_l1 b (by omega) b.length 0 (by omega) (by omega)
    rw [Int.toNat_zero, List.take_zero, List.reverse_nil, List.append_nil] at key
    refine Ev.step (fun k => ?_) key
    show examboardref01_Print.l0 (k + 1) [] b = _
    rw [examboardref01_Print.l0, if_neg (by decide), if_pos (by omega), if_pos (by omega), Int.toNat_natCast]
  | succ D ih =>
    intro l b ho hn hv hb
    by_cases hl : l = []
    · subst hl
      have e : digs (D + 1) (val2 []) = [] := rfl
      rw [e, List.append_nil]
      have key := pr_l1 b (by omega) b.length 0 (by omega) (by omega)
      rw [Int.toNat_zero, List.take_zero, List.reverse_nil, List.append_nil] at key
      refine Ev.step (fun k => ?_) key
      show examboardref01_Print.l0 (k + 1) [] b = _
      rw [examboardref01_Print.l0, if_neg (by decide), if_pos (by omega), if_pos (by omega), Int.toNat_natCast]
    · have hp := hn.resolve_left hl
      obtain ⟨q, hq, hqo, hqv⟩ := short_ev l ho hl
      obtain ⟨f1, f2, f3⟩ := norm2_facts q hqo
      have hlp : 0 < l.length := List.length_pos_iff.2 hl
      rw [digs, if_neg (by omega)]
      have hpow : (10 : Int) ^ (D + 1) = 10 * 10 ^ D := by rw [Int.pow_succ]; omega
      have hin := ih (norm2 q) (b ++ [48 + val2 l % 10]) f1 (f3.imp id (fun h => by rw [f2]; exact h)) (by rw [f2, hqv]; omega) (by rw [List.length_append]; simp; omega)
      rw [f2, hqv, List.append_assoc] at hin
      refine Ev.step (f := fun k => (examboardref01_short.f k l 10).bind fun bt122 => (if b.length < 140737488355328 then (examboardref01_Print.l0 k bt122.1 (b ++ [(IntKind.u64.wrap (48 + bt122.2)) % 256])) else (none))) (fun k => ?_) ?_
      · show examboardref01_Print.l0 (k + 1) l b = _
        rw [examboardref01_Print.l0, if_pos (by omega)]
      · refine Ev.bind hq (Ev.congr (fun k => ?_) hin)
        rw [if_pos (by omega), uwrap (x := 48 + val2 l % 10) (by omega) (by omega), show (48 + val2 l % 10) % 256 = 48 + val2 l % 10 by omega]
theorem digs_dec : ∀ (D n : Nat), 0 < n → n < 10 ^ D → (digs D (n : Int)).reverse = (decDigits n).map fun c => (c.toNat : Int)
  | 0, n, h0, h1 => by omega
  | D + 1, n, h0, h1 => by
    rw [digs, if_neg (by omega), List.reverse_cons, decDigits]
    have hc : ((UInt8.ofNat (48 + n % 10)).toNat : Int) = 48 + (n : Int) % 10 := by rw [UInt8.toNat_ofNat']; omega
    by_cases h : n < 10
    · rw [dif_pos h]
      have e : (n : Int) / 10 = 0 := by omega
      have e2 : digs D 0 = [] := by cases D <;> rfl
      have hm : n % 10 = n := Nat.mod_eq_of_lt h
      rw [hm] at hc
      rw [e, e2, List.map_cons, hc]; rfl
    · rw [dif_neg h, List.map_append, ← digs_dec D (n / 10) (by omega) (by rw [Nat.pow_succ] at h1; omega), List.map_cons, hc, show ((n / 10 : Nat) : Int) = (n : Int) / 10 by omega]; rfl
theorem str_map (l : List UInt8) : strOfNums (l.map fun c => (c.toNat : Int)) = ⟨l.toArray⟩ := by
  unfold strOfNums
  congr 2
  rw [List.map_map]
  conv => rhs; rw [← List.map_id l]
  exact List.map_congr_left (fun c _ => by simp)
theorem natPrint_ev (l : List Int) (h : ok2 l) : Ev (fun k => examboardref01_Print.f k l) ⟨(decDigits (val2 l).toNat).toArray⟩ := by
  obtain ⟨f1, f2, f3⟩ := norm2_facts l h
  have hb : 0 ≤ val2 l ∧ val2 l < 10 ^ 20 := by
    have e20 : (10 : Int) ^ 20 = 100000000000000000000 := by decide
    rw [e20]
    obtain ⟨h1, h2⟩ := h
    rcases two h1 with rfl | ⟨a, rfl⟩ | ⟨a, b, rfl⟩
    · exact ⟨by decide, by decide⟩
    · have := h2 a (by simp); exact ⟨this.1, by show a < _; omega⟩
    · have ha := h2 a (by simp)
      have hb := h2 b (by simp)
      exact ⟨by show 0 ≤ a + b * 4294967296; omega, by show a + b * 4294967296 < _; omega⟩
  unfold examboardref01_Print.f
  refine Ev.bind (norm_ev l h.1) ?_
  by_cases hn : ((norm2 l).length : Int) = 0
  · have e : norm2 l = [] := List.length_eq_zero_iff.1 (by omega)
    have ev : val2 l = 0 := by rw [← f2, e]; rfl
    refine Ev.congr (f := fun _ => some ⟨(decDigits (val2 l).toNat).toArray⟩) (fun k => ?_) (Ev.now _)
    rw [if_pos hn, ev, Int.toNat_zero, Lib.decDigits_one (by decide)]; rfl
  · have hl2 := f1.1
    have hp : 0 < val2 l := f3.resolve_left (fun e => hn (by rw [e]; rfl))
    have key := pr_l0 20 (norm2 l) [] f1 (.inr (by rw [f2]; exact hp)) (by rw [f2]; exact hb.2) (by decide)
    rw [List.nil_append, f2] at key
    have e : strOfNums (digs 20 (val2 l)).reverse = ⟨(decDigits (val2 l).toNat).toArray⟩ := by
      have ec : val2 l = ((val2 l).toNat : Int) := (Int.toNat_of_nonneg hb.1).symm
      rw [ec, digs_dec 20 _ (by omega) (by
        have := hb.2
        have e20 : (10 : Int) ^ 20 = 100000000000000000000 := by decide
        have e20' : (10 : Nat) ^ 20 = 100000000000000000000 := by decide
        rw [e20] at this
        rw [e20']; omega), str_map, Int.toNat_natCast]
    rw [e] at key
    exact Ev.congr (fun k => by rw [if_neg hn, if_pos (by omega)]; rfl) key
/-! ### the contracts -/
def normNat.f (l0 : List Int) : Option (List Int) := if l0.length ≤ 2 then some (norm2 l0) else none
theorem normNat.calls (A0 : Option Addr) (c0 : Nat) (l0 : List Int) (r : List Int) (w : World) (hr0 : Kd.C (Kd.int .u32) w A0 l0.length l0) (hc0 : l0.length ≤ c0) (h : normNat.f l0 = some r) :
    Calls Tryd.prog 67 #[.slice A0 l0.length c0] w fun e w' => ∃ v0_ : Value, e = .returned (v0_) ∧ Kd.R (Kd.int .u32) 81 w' w.heap.size (fun _ => True) v0_ r ∧ Below w.heap.size w w' := by
  unfold normNat.f at h
  split at h
  · rename_i hl
    obtain rfl := Option.some.inj h
    obtain ⟨k, hk⟩ := (norm_ev l0 hl).rounds
    exact examboardref01_Norm.calls k A0 c0 l0 _ w hr0 hc0 hk
  · cases h
def natText.f (l0 : List Int) : Option ByteArray := if l0.length ≤ 2 ∧ ∀ x ∈ l0, 0 ≤ x ∧ x ≤ 4294967295 then some ⟨(decDigits (val2 l0).toNat).toArray⟩ else none
theorem natText.calls (A0 : Option Addr) (c0 : Nat) (l0 : List Int) (r : ByteArray) (w : World) (hr0 : Kd.C (Kd.int .u32) w A0 l0.length l0) (hc0 : l0.length ≤ c0) (h : natText.f l0 = some r) :
    Calls Tryd.prog 52 #[.slice A0 l0.length c0] w fun e w' => e = .returned (.string r) ∧ Below w.heap.size w w' := by
  unfold natText.f at h
  split at h
  · rename_i hl
    obtain rfl := Option.some.inj h
    obtain ⟨k, hk⟩ := (natPrint_ev l0 hl).rounds
    exact examboardref01_Print.calls k A0 c0 l0 _ w hr0 hc0 hk
  · cases h
end Go.Proofs.YtidehmfaebiebaaDoor.PInc
