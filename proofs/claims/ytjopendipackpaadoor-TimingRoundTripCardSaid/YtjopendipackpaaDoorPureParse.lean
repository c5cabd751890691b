/- What timing.Parse and the reference's Parse compute, in plain words: both give back the number whose printed form a string is. No condition but those that each theorem states. -/
import Derived.Test.YtjopendipackpaaDoorPureClk
namespace Go.Proofs.YtjopendipackpaaDoor.Pure
open Go.RowKit Go.Proofs.YtjopendipackpaaDoor.PClk Go.Proofs.YtjopendipackpaaDoorW.PrintWords Go.Proofs.YtjopendipackpaaDoorW.PrintLast Go.Proofs.YtjopendipackpaaDoorW.PrintMore

def loopF : List Int → Int → List Int → Option (List Int)
  | [], _, l => some l
  | c :: cs, p, l => if c = 58 ∧ p < 2 then loopF cs (p + 1) l else if 48 ≤ c ∧ c ≤ 57 then loopF cs p (l.set p.toNat (wrap64 (wrap64 (10 * rd l p) + (c - 48) % 256))) else none
def val (l : List Int) : Int := wrap64 (wrap64 (wrap64 (3600 * rd l 0) + wrap64 (60 * rd l 1)) + rd l 2)
def fin (s : ByteArray) (n : Int) : Int × Int := if (PT n).2 = 0 ∧ (PT n).1.toList = s.toList then (n, 0) else (0, 2)
def finO (s : ByteArray) : Option (List Int) → Int × Int
  | none => (0, 2)
  | some l => fin s (val l)
theorem loop_eq (s : ByteArray) (hs : s.size ≤ 8) : ∀ (d : Nat) (x p : Int) (l : List Int), 0 ≤ x → (s.size : Int) - x = (d : Int) → 0 ≤ p → p ≤ 2 → l.length = 3 →
    ∃ k, timing_Parse.l0 k s p l s (s.size : Int) x = some (finO s (loopF ((bl s).drop x.toNat) p l)) := by
  intro d
  induction d with
  | zero =>
    intro x p l h0 hd hp0 hp1 hl
    refine ⟨2, ?_⟩
    have hx : x.toNat = (bl s).length := by rw [bl_len]; omega
    rw [timing_Parse.l0, if_neg (by omega), if_pos (by omega), if_pos (by omega), if_pos (by omega), print_eq, Option.bind_some, hx, List.drop_length]
    show _ = some (fin s (val l))
    unfold fin
    rw [show wrap64 (wrap64 (wrap64 (3600 * rd l 0) + wrap64 (60 * rd l 1)) + rd l 2) = val l from rfl]
    by_cases h1 : (PT (val l)).2 = 0
    · rw [if_pos h1]
      by_cases h2 : (PT (val l)).1.toList = s.toList
      · rw [if_pos h2, if_pos ⟨h1, h2⟩]
      · rw [if_neg h2, if_neg (fun h => h2 h.2)]
    · rw [if_neg h1, if_neg (fun h => h1 h.1)]
  | succ d ih =>
    intro x p l h0 hd hp0 hp1 hl
    have hlt : x < (s.size : Int) := by omega
    have hw : wrap64 (x + 1) = x + 1 := wrap_id (by omega) (by omega)
    have hb := bt_bl s x h0 hlt
    have hdr := drop_cons (bl s) x h0 (by rw [bl_len]; exact hlt)
    rw [← hb] at hdr
    by_cases hc : bt s x = 58
    · by_cases hp : p < 2
      · obtain ⟨k, hk⟩ := ih (x + 1) (p + 1) l (by omega) (by omega) (by omega) (by omega) hl
        refine ⟨k + 2, ?_⟩
        rw [timing_Parse.l0, if_pos hlt, if_pos h0, if_pos hlt, if_pos hc, timing_Parse.j2, if_pos (decide_eq_true hp), hw, wrap_id (x := p + 1) (by omega) (by omega), hk, hdr]
        rw [loopF, if_pos ⟨hc, hp⟩]
      · refine ⟨2, ?_⟩
        rw [timing_Parse.l0, if_pos hlt, if_pos h0, if_pos hlt, if_pos hc, timing_Parse.j2, if_neg (by rw [decide_eq_false hp]; decide), if_pos (by omega), if_neg (by omega), hdr]
        rw [loopF, if_neg (fun h => hp h.2), if_neg (by omega)]
        rfl
    · by_cases hd1 : bt s x ≥ 48
      · by_cases hd2 : bt s x ≤ 57
        · obtain ⟨k, hk⟩ := ih (x + 1) p (l.set p.toNat (wrap64 (wrap64 (10 * rd l p) + (bt s x - 48) % 256))) (by omega) (by omega) hp0 hp1 (by rw [List.length_set]; exact hl)
          refine ⟨k + 2, ?_⟩
          rw [timing_Parse.l0, if_pos hlt, if_pos h0, if_pos hlt, if_neg hc, timing_Parse.j2, if_neg (by decide), if_pos hd1, if_pos hd2, if_pos hp0, if_pos (by omega), hw, hk, hdr]
          rw [loopF, if_neg (fun h => hc h.1), if_pos ⟨hd1, hd2⟩]
        · refine ⟨2, ?_⟩
          rw [timing_Parse.l0, if_pos hlt, if_pos h0, if_pos hlt, if_neg hc, timing_Parse.j2, if_neg (by decide), if_pos hd1, if_neg hd2, hdr]
          rw [loopF, if_neg (fun h => hc h.1), if_neg (by omega)]
          rfl
      · refine ⟨2, ?_⟩
        rw [timing_Parse.l0, if_pos hlt, if_pos h0, if_pos hlt, if_neg hc, timing_Parse.j2, if_neg (by decide), if_neg hd1, hdr]
        rw [loopF, if_neg (fun h => hc h.1), if_neg (by omega)]
        rfl
/-- What timing.Parse returns. -/
def TP (s : ByteArray) : Int × Int := if (s.size : Int) < 7 ∨ (s.size : Int) > 8 then (0, 2) else finO s (loopF (bl s) 0 [0, 0, 0])
theorem parse_eq (s : ByteArray) : ∃ k, timing_Parse.f k s = some (TP s) := by
  unfold TP
  by_cases h7 : (s.size : Int) < 7
  · exact ⟨1, by unfold timing_Parse.f; rw [if_pos h7, if_pos (Or.inl h7)]; rfl⟩
  · by_cases h8 : (s.size : Int) > 8
    · exact ⟨1, by unfold timing_Parse.f; rw [if_neg h7, if_pos (Or.inr h8), decide_eq_true h8]; rfl⟩
    · obtain ⟨k, hk⟩ := loop_eq s (by omega) s.size 0 0 [0, 0, 0] (by omega) (by omega) (by omega) (by omega) rfl
      refine ⟨k + 1, ?_⟩
      unfold timing_Parse.f
      rw [if_neg h7, decide_eq_false h8, timing_Parse.j0, if_neg (by decide), if_pos (by omega), if_neg (by omega)]
      exact hk

def okF (n : Int) : List Int → Int → Bool
  | [], _ => true
  | c :: cs, x => if x = n - 3 ∨ x = n - 6 then okF n cs (x + 1) else decide (48 ≤ c ∧ c ≤ 57) && okF n cs (x + 1)
def accF : List Int → Int → Int
  | [], a => a
  | c :: cs, a => accF cs (wrap64 (wrap64 (10 * a) + (c - 48) % 256))
def valR (s : ByteArray) (a : Int) : Int := wrap64 (wrap64 (wrap64 (wrap64 (a * 3600) + ((bt s ((s.size : Int) - 5) - 48) % 256 * 10 + (bt s ((s.size : Int) - 4) - 48) % 256) * 60) + (bt s ((s.size : Int) - 2) - 48) % 256 * 10) + (bt s ((s.size : Int) - 1) - 48) % 256)
theorem rl1_eq (s : ByteArray) (h7 : 7 ≤ (s.size : Int)) (h8 : (s.size : Int) ≤ 8) : ∀ (d : Nat) (x a : Int), 0 ≤ x → (s.size : Int) - 6 - x = (d : Int) →
    ∃ k, examboardref47_Parse.l1 k s a (s.size : Int) x = some (fin s (valR s (accF (((bl s).take ((s.size : Int) - 6).toNat).drop x.toNat) a))) := by
  have w6 : wrap64 ((s.size : Int) - 6) = (s.size : Int) - 6 := wrap_id (by omega) (by omega)
  have w5 : wrap64 ((s.size : Int) - 5) = (s.size : Int) - 5 := wrap_id (by omega) (by omega)
  have w4 : wrap64 ((s.size : Int) - 4) = (s.size : Int) - 4 := wrap_id (by omega) (by omega)
  have w2 : wrap64 ((s.size : Int) - 2) = (s.size : Int) - 2 := wrap_id (by omega) (by omega)
  have w1 : wrap64 ((s.size : Int) - 1) = (s.size : Int) - 1 := wrap_id (by omega) (by omega)
  intro d
  induction d with
  | zero =>
    intro x a h0 hd
    refine ⟨3, ?_⟩
    have hdrop : ((bl s).take ((s.size : Int) - 6).toNat).drop x.toNat = [] := by
      apply List.drop_eq_nil_of_le
      rw [List.length_take, bl_len]
      omega
    rw [hdrop]
    rw [examboardref47_Parse.l1, w6, w5, w4, w2, w1, if_neg (by omega), if_pos (by omega), if_pos (by omega), if_pos (by omega), if_pos (by omega), if_pos (by omega), if_pos (by omega), if_pos (by omega), if_pos (by omega), rprint_eq, Option.bind_some]
    show _ = some (fin s (valR s a))
    have hv : wrap64 (wrap64 (wrap64 (wrap64 (a * 3600) + ((bt s ((s.size : Int) - 5) - 48) % 256 * 10 + (bt s ((s.size : Int) - 4) - 48) % 256) * 60) + (bt s ((s.size : Int) - 2) - 48) % 256 * 10) + (bt s ((s.size : Int) - 1) - 48) % 256) = valR s a := rfl
    rw [hv]
    unfold fin
    by_cases h1 : (PT (valR s a)).2 = 0
    · rw [if_pos h1]
      by_cases h2 : (PT (valR s a)).1.toList = s.toList
      · rw [if_pos h2, if_pos ⟨h1, h2⟩]
      · rw [if_neg h2, if_neg (fun h => h2 h.2)]
    · rw [if_neg h1, if_neg (fun h => h1 h.1)]
  | succ d ih =>
    intro x a h0 hd
    obtain ⟨k, hk⟩ := ih (x + 1) (wrap64 (wrap64 (10 * a) + (bt s x - 48) % 256)) (by omega) (by omega)
    refine ⟨k + 1, ?_⟩
    have hb := bt_bl s x h0 (by omega)
    have hl : (((bl s).take ((s.size : Int) - 6).toNat).length : Int) = (s.size : Int) - 6 := by
      rw [List.length_take, bl_len]; omega
    have hdr := drop_cons ((bl s).take ((s.size : Int) - 6).toNat) x h0 (by rw [hl]; omega)
    have hg : ((bl s).take ((s.size : Int) - 6).toNat).getD x.toNat 0 = bt s x := by
      rw [hb]
      simp only [List.getD, List.getElem?_take]
      rw [if_pos (by omega)]
    rw [hg] at hdr
    rw [examboardref47_Parse.l1, w6, if_pos (by omega), if_pos h0, if_pos (by omega), wrap_id (x := x + 1) (by omega) (by omega), hk, hdr, accF]
theorem rl0_eq (s : ByteArray) (h7 : 7 ≤ (s.size : Int)) (h8 : (s.size : Int) ≤ 8) (R : Int × Int) (K : Nat) (hK : examboardref47_Parse.l1 K s 0 (s.size : Int) 0 = some R) : ∀ (d : Nat) (x : Int), 0 ≤ x → (s.size : Int) - x = (d : Int) →
    ∃ k, examboardref47_Parse.l0 k s 0 (s.size : Int) x = some (if okF (s.size : Int) ((bl s).drop x.toNat) x = true then R else (0, 2)) := by
  have w6 : wrap64 ((s.size : Int) - 6) = (s.size : Int) - 6 := wrap_id (by omega) (by omega)
  have w3 : wrap64 ((s.size : Int) - 3) = (s.size : Int) - 3 := wrap_id (by omega) (by omega)
  intro d
  induction d with
  | zero =>
    intro x h0 hd
    refine ⟨K + 1, ?_⟩
    have hx : x.toNat = (bl s).length := by rw [bl_len]; omega
    rw [examboardref47_Parse.l0, if_neg (by omega), hK, hx, List.drop_length, okF, if_pos rfl]
  | succ d ih =>
    intro x h0 hd
    obtain ⟨k, hk⟩ := ih (x + 1) (by omega) (by omega)
    have hlt : x < (s.size : Int) := by omega
    have hw : wrap64 (x + 1) = x + 1 := wrap_id (by omega) (by omega)
    have hb := bt_bl s x h0 hlt
    have hdr := drop_cons (bl s) x h0 (by rw [bl_len]; exact hlt)
    rw [← hb] at hdr
    refine ⟨k + 2, ?_⟩
    rw [examboardref47_Parse.l0, if_pos hlt, w3, w6, hdr, okF]
    by_cases h3 : x = (s.size : Int) - 3
    · rw [if_pos h3, if_pos (Or.inl h3), examboardref47_Parse.j2, if_pos rfl, hw, hk]
    · rw [if_neg h3]
      by_cases h6 : x = (s.size : Int) - 6
      · rw [if_pos (Or.inr h6), examboardref47_Parse.j2, if_pos (beq_iff_eq.2 h6), hw, hk]
      · rw [if_neg (by omega : ¬ (x = (s.size : Int) - 3 ∨ x = (s.size : Int) - 6)), examboardref47_Parse.j2, if_neg (by rw [beq_eq_false_iff_ne.2 h6]; decide), if_pos h0, if_pos hlt]
        by_cases hd1 : bt s x < 48
        · rw [if_pos hd1, decide_eq_false (by omega : ¬ (48 ≤ bt s x ∧ bt s x ≤ 57))]; rfl
        · rw [if_neg hd1]
          by_cases hd2 : bt s x > 57
          · rw [if_pos hd2, decide_eq_false (by omega : ¬ (48 ≤ bt s x ∧ bt s x ≤ 57))]; rfl
          · rw [if_neg hd2, hw, hk, decide_eq_true (by omega : 48 ≤ bt s x ∧ bt s x ≤ 57), Bool.true_and]
/-- What the reference's Parse returns. -/
def TR (s : ByteArray) : Int × Int := if (s.size : Int) < 7 ∨ (s.size : Int) > 8 then (0, 2) else if okF (s.size : Int) (bl s) 0 = true then fin s (valR s (accF ((bl s).take ((s.size : Int) - 6).toNat) 0)) else (0, 2)
theorem rparse_eq (s : ByteArray) : ∃ k, examboardref47_Parse.f k s = some (TR s) := by
  unfold TR
  by_cases h7 : (s.size : Int) < 7
  · exact ⟨1, by unfold examboardref47_Parse.f; rw [if_pos h7, if_pos (Or.inl h7)]; rfl⟩
  · by_cases h8 : (s.size : Int) > 8
    · exact ⟨1, by unfold examboardref47_Parse.f; rw [if_neg h7, if_pos (Or.inr h8), decide_eq_true h8]; rfl⟩
    · obtain ⟨K, hK⟩ := rl1_eq s (by omega) (by omega) (s.size - 6) 0 0 (by omega) (by omega)
      obtain ⟨k, hk⟩ := rl0_eq s (by omega) (by omega) _ K hK s.size 0 (by omega) (by omega)
      refine ⟨k + 1, ?_⟩
      unfold examboardref47_Parse.f
      rw [if_neg h7, decide_eq_false h8, examboardref47_Parse.j0, if_neg (by decide), if_neg (by omega)]
      exact hk

/-! ### A printed time is read back -/
theorem stepC (cs : List Int) (p : Int) (l : List Int) (h : p < 2) : loopF (58 :: cs) p l = loopF cs (p + 1) l := by
  rw [loopF, if_pos ⟨rfl, h⟩]
theorem stepD (d : Int) (cs : List Int) (p : Int) (l : List Int) (h0 : 0 ≤ d) (h1 : d ≤ 9) (h2 : 0 ≤ rd l p) (h3 : rd l p ≤ 9) : loopF ((48 + d) :: cs) p l = loopF cs p (l.set p.toNat (10 * rd l p + d)) := by
  rw [loopF, if_neg (by omega), if_pos (by omega), wrap_id (x := 10 * rd l p) (by omega) (by omega), show (48 + d - 48) % 256 = d by omega, wrap_id (by omega) (by omega)]
theorem loop3 (m q : Int) (a : Int) (hm0 : 0 ≤ m) (hm1 : m < 100) (hq0 : 0 ≤ q) (hq1 : q < 100) : loopF (58 :: (tw m ++ [58] ++ tw q)) 0 [a, 0, 0] = some [a, m, q] := by
  rw [stepC _ _ _ (by omega)]
  show loopF ((48 + m / 10) :: (48 + m % 10) :: 58 :: (48 + q / 10) :: (48 + q % 10) :: []) 1 [a, 0, 0] = _
  have e0 : rd [a, 0, 0] 1 = 0 := rfl
  rw [stepD _ _ _ _ (by omega) (by omega) (by rw [e0]; omega) (by rw [e0]; omega), e0]
  show loopF ((48 + m % 10) :: 58 :: (48 + q / 10) :: (48 + q % 10) :: []) 1 [a, 10 * 0 + m / 10, 0] = _
  have e1 : rd [a, 10 * 0 + m / 10, 0] 1 = 10 * 0 + m / 10 := rfl
  rw [stepD _ _ _ _ (by omega) (by omega) (by rw [e1]; omega) (by rw [e1]; omega), e1]
  show loopF (58 :: (48 + q / 10) :: (48 + q % 10) :: []) 1 [a, 10 * (10 * 0 + m / 10) + m % 10, 0] = _
  rw [show 10 * (10 * 0 + m / 10) + m % 10 = m by omega, stepC _ _ _ (by omega)]
  show loopF ((48 + q / 10) :: (48 + q % 10) :: []) 2 [a, m, 0] = _
  have e2 : rd [a, m, 0] 2 = 0 := rfl
  rw [stepD _ _ _ _ (by omega) (by omega) (by rw [e2]; omega) (by rw [e2]; omega), e2]
  show loopF ((48 + q % 10) :: []) 2 [a, m, 10 * 0 + q / 10] = _
  have e3 : rd [a, m, 10 * 0 + q / 10] 2 = 10 * 0 + q / 10 := rfl
  rw [stepD _ _ _ _ (by omega) (by omega) (by rw [e3]; omega) (by rw [e3]; omega), e3]
  show some [a, m, 10 * (10 * 0 + q / 10) + q % 10] = _
  rw [show 10 * (10 * 0 + q / 10) + q % 10 = q by omega]
theorem loop_prl (n : Int) (h0 : 0 ≤ n) (h1 : n ≤ 359999) : loopF (prl n) 0 [0, 0, 0] = some [n / 3600, n / 60 % 60, n % 60] := by
  unfold prl hd
  have r0 : rd [0, 0, 0] 0 = 0 := rfl
  by_cases h10 : n / 3600 < 10
  · rw [if_pos h10]
    show loopF ((48 + n / 3600) :: 58 :: (tw (n / 60 % 60) ++ [58] ++ tw (n % 60))) 0 [0, 0, 0] = _
    rw [stepD _ _ _ _ (by omega) (by omega) (by rw [r0]; omega) (by rw [r0]; omega), r0]
    show loopF (58 :: (tw (n / 60 % 60) ++ [58] ++ tw (n % 60))) 0 [10 * 0 + n / 3600, 0, 0] = _
    rw [show 10 * 0 + n / 3600 = n / 3600 by omega]
    exact loop3 _ _ _ (by omega) (by omega) (by omega) (by omega)
  · rw [if_neg h10]
    show loopF ((48 + n / 3600 / 10) :: (48 + n / 3600 % 10) :: 58 :: (tw (n / 60 % 60) ++ [58] ++ tw (n % 60))) 0 [0, 0, 0] = _
    rw [stepD _ _ _ _ (by omega) (by omega) (by rw [r0]; omega) (by rw [r0]; omega), r0]
    show loopF ((48 + n / 3600 % 10) :: 58 :: (tw (n / 60 % 60) ++ [58] ++ tw (n % 60))) 0 [10 * 0 + n / 3600 / 10, 0, 0] = _
    have r1 : rd [10 * 0 + n / 3600 / 10, 0, 0] 0 = 10 * 0 + n / 3600 / 10 := rfl
    rw [stepD _ _ _ _ (by omega) (by omega) (by rw [r1]; omega) (by rw [r1]; omega), r1]
    show loopF (58 :: (tw (n / 60 % 60) ++ [58] ++ tw (n % 60))) 0 [10 * (10 * 0 + n / 3600 / 10) + n / 3600 % 10, 0, 0] = _
    rw [show 10 * (10 * 0 + n / 3600 / 10) + n / 3600 % 10 = n / 3600 by omega]
    exact loop3 _ _ _ (by omega) (by omega) (by omega) (by omega)
theorem val_parts (n : Int) (h0 : 0 ≤ n) (h1 : n ≤ 359999) : val [n / 3600, n / 60 % 60, n % 60] = n := by
  show wrap64 (wrap64 (wrap64 (3600 * (n / 3600)) + wrap64 (60 * (n / 60 % 60))) + n % 60) = n
  rw [wrap_id (x := 3600 * (n / 3600)) (by omega) (by omega), wrap_id (x := 60 * (n / 60 % 60)) (by omega) (by omega), wrap_id (x := 3600 * (n / 3600) + 60 * (n / 60 % 60)) (by omega) (by omega), wrap_id (by omega) (by omega)]
  omega
theorem prl_range (n : Int) (h0 : 0 ≤ n) (h1 : n ≤ 359999) : ∀ x ∈ prl n, 0 ≤ x ∧ x ≤ 255 := by
  intro x hx
  unfold prl hd tw at hx
  split at hx <;> simp at hx <;> omega
theorem prl_len (n : Int) : (prl n).length = if n / 3600 < 10 then 7 else 8 := by
  unfold prl hd
  split <;> rfl
theorem PT_in (n : Int) (h0 : 0 ≤ n) (h1 : n ≤ 359999) : PT n = (strOfNums (prl n), 0) := by unfold PT; rw [if_pos ⟨h0, h1⟩]
theorem fin_self (n : Int) (h0 : 0 ≤ n) (h1 : n ≤ 359999) : fin (strOfNums (prl n)) n = (n, 0) := by
  unfold fin
  rw [PT_in n h0 h1, if_pos ⟨rfl, rfl⟩]
theorem fin_cases (s : ByteArray) (n : Int) : fin s n = (0, 2) ∨ (0 ≤ n ∧ n ≤ 359999 ∧ s = strOfNums (prl n) ∧ fin s n = (n, 0)) := by
  by_cases h : (PT n).2 = 0 ∧ (PT n).1.toList = s.toList
  · right
    obtain ⟨h1, h2⟩ := h
    by_cases hr : 0 ≤ n ∧ n ≤ 359999
    · refine ⟨hr.1, hr.2, ?_, ?_⟩
      · rw [PT_in n hr.1 hr.2] at h2
        exact (toList_inj h2).symm
      · unfold fin; rw [if_pos ⟨h1, h2⟩]
    · unfold PT at h1
      rw [if_neg hr] at h1
      exact absurd h1 (by decide)
  · left
    unfold fin; rw [if_neg h]
theorem TP_print (n : Int) (h0 : 0 ≤ n) (h1 : n ≤ 359999) : TP (strOfNums (prl n)) = (n, 0) := by
  unfold TP
  have hl := prl_len n
  have hz : (strOfNums (prl n)).size = (prl n).length := strOfNums_size _
  rw [if_neg (by rw [hz, hl]; split <;> omega), bl_str _ (prl_range n h0 h1), loop_prl n h0 h1]
  show fin _ (val _) = _
  rw [val_parts n h0 h1]
  exact fin_self n h0 h1
theorem TP_cases (s : ByteArray) : TP s = (0, 2) ∨ ∃ n, 0 ≤ n ∧ n ≤ 359999 ∧ s = strOfNums (prl n) ∧ TP s = (n, 0) := by
  unfold TP
  split
  · exact Or.inl rfl
  · cases h : loopF (bl s) 0 [0, 0, 0] with
    | none => exact Or.inl rfl
    | some l =>
      rcases fin_cases s (val l) with h | ⟨h0, h1, h2, h3⟩
      · exact Or.inl h
      · exact Or.inr ⟨_, h0, h1, h2, h3⟩

theorem okF_sep (n c x : Int) (cs : List Int) (h : x = n - 3 ∨ x = n - 6) : okF n (c :: cs) x = okF n cs (x + 1) := by rw [okF, if_pos h]
theorem okF_dig (n d x : Int) (cs : List Int) (h : ¬ (x = n - 3 ∨ x = n - 6)) (h0 : 0 ≤ d) (h1 : d ≤ 9) : okF n ((48 + d) :: cs) x = okF n cs (x + 1) := by
  rw [okF, if_neg h, decide_eq_true (by omega : 48 ≤ 48 + d ∧ 48 + d ≤ 57), Bool.true_and]
theorem acc_dig (d : Int) (cs : List Int) (a : Int) (h0 : 0 ≤ d) (h1 : d ≤ 9) (h2 : 0 ≤ a) (h3 : a ≤ 9) : accF ((48 + d) :: cs) a = accF cs (10 * a + d) := by
  rw [accF, wrap_id (x := 10 * a) (by omega) (by omega), show (48 + d - 48) % 256 = d by omega, wrap_id (by omega) (by omega)]
theorem valR_of (s : ByteArray) (a m q : Int) (e5 : bt s ((s.size : Int) - 5) = 48 + m / 10) (e4 : bt s ((s.size : Int) - 4) = 48 + m % 10) (e2 : bt s ((s.size : Int) - 2) = 48 + q / 10) (e1 : bt s ((s.size : Int) - 1) = 48 + q % 10)
    (ha0 : 0 ≤ a) (ha1 : a < 100) (hm0 : 0 ≤ m) (hm1 : m < 100) (hq0 : 0 ≤ q) (hq1 : q < 100) : valR s a = a * 3600 + m * 60 + q := by
  unfold valR
  rw [e5, e4, e2, e1]
  have f5 : (48 + m / 10 - 48) % 256 = m / 10 := by omega
  have f4 : (48 + m % 10 - 48) % 256 = m % 10 := by omega
  have f2 : (48 + q / 10 - 48) % 256 = q / 10 := by omega
  have f1 : (48 + q % 10 - 48) % 256 = q % 10 := by omega
  rw [f5, f4, f2, f1, show m / 10 * 10 + m % 10 = m by omega, wrap_id (x := a * 3600) (by omega) (by omega), wrap_id (x := a * 3600 + m * 60) (by omega) (by omega), wrap_id (x := a * 3600 + m * 60 + q / 10 * 10) (by omega) (by omega), wrap_id (by omega) (by omega)]
  omega
theorem bt_prl (n i v : Int) (h0 : 0 ≤ n) (h1 : n ≤ 359999) (l : List Int) (hl : prl n = l) (hi : 0 ≤ i) (hi2 : i < (l.length : Int)) (hv : l.getD i.toNat 0 = v) : bt (strOfNums (prl n)) i = v := by
  rw [bt_bl2 _ i l (by rw [bl_str _ (prl_range n h0 h1), hl]) hi hi2, hv]
theorem TR_print (n : Int) (h0 : 0 ≤ n) (h1 : n ≤ 359999) : TR (strOfNums (prl n)) = (n, 0) := by
  unfold TR
  have hl := prl_len n
  have hz : (strOfNums (prl n)).size = (prl n).length := strOfNums_size _
  rw [if_neg (by rw [hz, hl]; split <;> omega), bl_str _ (prl_range n h0 h1)]
  by_cases h10 : n / 3600 < 10
  · rw [if_pos h10] at hl
    have h7 : ((strOfNums (prl n)).size : Int) = 7 := by rw [hz, hl]; rfl
    have hp : prl n = [48 + n / 3600, 58, 48 + n / 60 % 60 / 10, 48 + n / 60 % 60 % 10, 58, 48 + n % 60 / 10, 48 + n % 60 % 10] := by
      unfold prl hd; rw [if_pos h10]; rfl
    have hv : valR (strOfNums (prl n)) (n / 3600) = n := by
      rw [valR_of _ _ (n / 60 % 60) (n % 60) ?_ ?_ ?_ ?_ (by omega) (by omega) (by omega) (by omega) (by omega) (by omega)]
      · omega
      · rw [h7]; exact bt_prl n _ _ h0 h1 _ hp (by decide) (by simp only [List.length_cons, List.length_nil]; omega) rfl
      · rw [h7]; exact bt_prl n _ _ h0 h1 _ hp (by decide) (by simp only [List.length_cons, List.length_nil]; omega) rfl
      · rw [h7]; exact bt_prl n _ _ h0 h1 _ hp (by decide) (by simp only [List.length_cons, List.length_nil]; omega) rfl
      · rw [h7]; exact bt_prl n _ _ h0 h1 _ hp (by decide) (by simp only [List.length_cons, List.length_nil]; omega) rfl
    have hok : okF 7 (prl n) 0 = true := by
      rw [hp, okF_dig _ _ _ _ (by omega) (by omega) (by omega), okF_sep _ _ _ _ (by omega), okF_dig _ _ _ _ (by omega) (by omega) (by omega), okF_dig _ _ _ _ (by omega) (by omega) (by omega), okF_sep _ _ _ _ (by omega), okF_dig _ _ _ _ (by omega) (by omega) (by omega), okF_dig _ _ _ _ (by omega) (by omega) (by omega), okF]
    have hacc : accF ((prl n).take ((7 : Int) - 6).toNat) 0 = n / 3600 := by
      rw [hp]
      show accF ((48 + n / 3600) :: []) 0 = _
      rw [acc_dig _ _ _ (by omega) (by omega) (by omega) (by omega), accF]
      omega
    rw [h7, if_pos hok, hacc, hv]
    exact fin_self n h0 h1
  · rw [if_neg h10] at hl
    have h7 : ((strOfNums (prl n)).size : Int) = 8 := by rw [hz, hl]; rfl
    have hp : prl n = [48 + n / 3600 / 10, 48 + n / 3600 % 10, 58, 48 + n / 60 % 60 / 10, 48 + n / 60 % 60 % 10, 58, 48 + n % 60 / 10, 48 + n % 60 % 10] := by
      unfold prl hd; rw [if_neg h10]; rfl
    have hv : valR (strOfNums (prl n)) (n / 3600) = n := by
      rw [valR_of _ _ (n / 60 % 60) (n % 60) ?_ ?_ ?_ ?_ (by omega) (by omega) (by omega) (by omega) (by omega) (by omega)]
      · omega
      · rw [h7]; exact bt_prl n _ _ h0 h1 _ hp (by decide) (by simp only [List.length_cons, List.length_nil]; omega) rfl
      · rw [h7]; exact bt_prl n _ _ h0 h1 _ hp (by decide) (by simp only [List.length_cons, List.length_nil]; omega) rfl
      · rw [h7]; exact bt_prl n _ _ h0 h1 _ hp (by decide) (by simp only [List.length_cons, List.length_nil]; omega) rfl
      · rw [h7]; exact bt_prl n _ _ h0 h1 _ hp (by decide) (by simp only [List.length_cons, List.length_nil]; omega) rfl
    have hok : okF 8 (prl n) 0 = true := by
      rw [hp, okF_dig _ _ _ _ (by omega) (by omega) (by omega), okF_dig _ _ _ _ (by omega) (by omega) (by omega), okF_sep _ _ _ _ (by omega), okF_dig _ _ _ _ (by omega) (by omega) (by omega), okF_dig _ _ _ _ (by omega) (by omega) (by omega), okF_sep _ _ _ _ (by omega), okF_dig _ _ _ _ (by omega) (by omega) (by omega), okF_dig _ _ _ _ (by omega) (by omega) (by omega), okF]
    have hacc : accF ((prl n).take ((8 : Int) - 6).toNat) 0 = n / 3600 := by
      rw [hp]
      show accF ((48 + n / 3600 / 10) :: (48 + n / 3600 % 10) :: []) 0 = _
      rw [acc_dig _ _ _ (by omega) (by omega) (by omega) (by omega), acc_dig _ _ _ (by omega) (by omega) (by omega) (by omega), accF]
      omega
    rw [h7, if_pos hok, hacc, hv]
    exact fin_self n h0 h1
theorem TR_cases (s : ByteArray) : TR s = (0, 2) ∨ ∃ n, 0 ≤ n ∧ n ≤ 359999 ∧ s = strOfNums (prl n) ∧ TR s = (n, 0) := by
  unfold TR
  split
  · exact Or.inl rfl
  · split
    · rcases fin_cases s (valR s (accF ((bl s).take ((s.size : Int) - 6).toNat) 0)) with h | ⟨h0, h1, h2, h3⟩
      · exact Or.inl h
      · exact Or.inr ⟨_, h0, h1, h2, h3⟩
    · exact Or.inl rfl
theorem TP_TR (s : ByteArray) : TP s = TR s := by
  rcases TP_cases s with h | ⟨n, h0, h1, h2, h3⟩
  · rcases TR_cases s with g | ⟨n, h0, h1, h2, h3⟩
    · rw [h, g]
    · rw [h2, TP_print n h0 h1, TR_print n h0 h1]
  · rw [h3, h2, TR_print n h0 h1]
end Go.Proofs.YtjopendipackpaaDoor.Pure
