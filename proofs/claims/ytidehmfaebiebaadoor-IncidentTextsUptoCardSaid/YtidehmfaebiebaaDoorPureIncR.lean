/- What the reference's split, number and Parse compute: the same as the program's. Condition where it stands: the text is shorter than 4294967281 bytes. -/
import Derived.Test.YtidehmfaebiebaaDoorPureIncP
import Derived.Test.YtidehmfaebiebaaDoorPT
namespace Go.Proofs.YtidehmfaebiebaaDoor.Pure
open Go.RowKit Go.Proofs.YtidehmfaebiebaaDoor.PInc Go.Proofs.YtidehmfaebiebaaDoorW.PrintWords Go.Proofs.YtidehmfaebiebaaDoorW.PrintLast Go.Proofs.YtidehmfaebiebaaDoorW.PrintMore
open Go.Lib (decDigits)
open Go.Proofs.YtidehmfaebiebaaDoor.Words
set_option linter.unusedVariables false

theorem word_eq (k : Int) (h1 : 1 ≤ k) (h6 : k ≤ 6) : examboardref50_word.f k = some (mk (nameL k)) := by
  have : k = 1 ∨ k = 2 ∨ k = 3 ∨ k = 4 ∨ k = 5 ∨ k = 6 := by omega
  rcases this with rfl | rfl | rfl | rfl | rfl | rfl <;> rfl
/-! ### split -/
theorem ext_mk (s : ByteArray) (a b : Nat) : s.extract a b = mk (((tl s).drop a).take (b - a)) := by
  apply ByteArray.ext
  rw [ByteArray.data_extract]
  apply Array.toList_inj.1
  rw [Array.toList_extract]
  rfl
theorem rsplit_l0 (s : ByteArray) (hs : s.size < 4294967281) : ∀ (d : Nat) (out : List ByteArray) (fr i : Int), 0 ≤ fr → fr ≤ i → (s.size : Int) - i = (d : Int) → (out.length : Int) ≤ i → (32 : UInt8) ∉ ((tl s).drop fr.toNat).take (i - fr).toNat →
    Ev (fun k => examboardref50_split.l0 k s out fr i) (out ++ (spl ((tl s).drop fr.toNat)).map mk) := by
  intro d
  induction d with
  | zero =>
    intro out fr i h0 h1 hd ho hf
    have hall : ((tl s).drop fr.toNat).take (i - fr).toNat = (tl s).drop fr.toNat := List.take_of_length_le (by rw [List.length_drop, tl_len]; omega)
    rw [hall] at hf
    rw [spl_free _ hf]
    refine Ev.step (f := fun _ => some (out ++ [mk ((tl s).drop fr.toNat)])) (fun k => ?_) (Ev.now _)
    show examboardref50_split.l0 (k + 1) s out fr i = _
    have e : s.extract fr.toNat s.size = mk ((tl s).drop fr.toNat) := by
      rw [ext_mk, List.take_of_length_le (by rw [List.length_drop, tl_len]; omega)]
    rw [examboardref50_split.l0, if_neg (by omega), if_pos h0, if_pos (by omega), if_pos (by omega), e]
  | succ d ih =>
    intro out fr i h0 h1 hd ho hf
    obtain ⟨c, hc, hb⟩ := bt_tl s i (by omega) (by omega)
    have w1 : wrap64 (i + 1) = i + 1 := wrap_id (by omega) (by omega)
    have hcut : (tl s).drop fr.toNat = ((tl s).drop fr.toNat).take (i - fr).toNat ++ c :: (tl s).drop (i + 1).toNat := by
      conv => lhs; rw [← List.take_append_drop (i - fr).toNat ((tl s).drop fr.toNat)]
      rw [List.drop_drop, show fr.toNat + (i - fr).toNat = i.toNat by omega, hc]
    by_cases h32 : c = 32
    · have e : spl ((tl s).drop fr.toNat) = ((tl s).drop fr.toNat).take (i - fr).toNat :: spl ((tl s).drop (i + 1).toNat) := by
        conv => lhs; rw [hcut, h32]
        exact spl_cut _ _ hf
      have hin := ih (out ++ [mk (((tl s).drop fr.toNat).take (i - fr).toNat)]) (i + 1) (i + 1) (by omega) (by omega) (by omega) (by rw [List.length_append]; simp; omega) (by
        rw [show (i + 1 - (i + 1)).toNat = 0 by omega]; simp)
      rw [e, List.map_cons]
      rw [List.append_assoc] at hin
      refine Ev.step (fun k => ?_) hin
      show examboardref50_split.l0 (k + 1) s out fr i = _
      have hbt : bt s i = 32 := by rw [hb, h32]; rfl
      have ex : s.extract fr.toNat i.toNat = mk (((tl s).drop fr.toNat).take (i - fr).toNat) := by
        rw [ext_mk, show i.toNat - fr.toNat = (i - fr).toNat by omega]
      rw [examboardref50_split.l0, if_pos (by omega), if_pos (by omega), if_pos hbt, if_pos h0, if_pos h1, if_pos (by omega), if_pos (by omega), w1, ex]
    · have hin := ih out fr (i + 1) h0 (by omega) (by omega) (by omega) (by
        have e : ((tl s).drop fr.toNat).take (i + 1 - fr).toNat = ((tl s).drop fr.toNat).take (i - fr).toNat ++ [c] := by
          rw [show (i + 1 - fr).toNat = (i - fr).toNat + 1 by omega, List.take_add, List.drop_drop, show fr.toNat + (i - fr).toNat = i.toNat by omega, hc]; rfl
        rw [e]
        intro hm
        rcases List.mem_append.1 hm with hm | hm
        · exact hf hm
        · exact h32 (List.mem_singleton.1 hm).symm)
      refine Ev.step (fun k => ?_) hin
      show examboardref50_split.l0 (k + 1) s out fr i = _
      have hbt : ¬ bt s i = 32 := fun e => h32 (UInt8.toNat_inj.1 (by
        have e32 : (32 : UInt8).toNat = 32 := rfl
        omega))
      rw [examboardref50_split.l0, if_pos (by omega), if_pos (by omega), if_neg hbt, w1]
theorem rsplit_ev (s : ByteArray) (hs : s.size < 4294967281) : Ev (fun k => examboardref50_split.f k s) ((spl (tl s)).map mk) := by
  have := rsplit_l0 s hs s.size [] 0 0 (by omega) (by omega) (by omega) (by simp) (by simp)
  exact this
/-! ### number -/
theorem rnumber_l0 (s : ByteArray) (m : Int) (hm0 : 0 ≤ m) (hm1 : m ≤ 4398046511104) (hs : (s.size : Int) < 9223372036854775807) : ∀ (d : Nat) (a i : Int), 0 ≤ i → (s.size : Int) - i = (d : Int) → 0 ≤ a → a ≤ m + 1 →
    Ev (fun k => examboardref50_number.l0 k s m a i) (numGo ((tl s).drop i.toNat) a m) := by
  intro d
  induction d with
  | zero =>
    intro a i h0 hd ha0 ha1
    rw [List.drop_eq_nil_of_le (by rw [tl_len]; omega)]
    refine Ev.step (f := fun _ => some (a, true)) (fun k => ?_) (Ev.now _)
    show examboardref50_number.l0 (k + 1) s m a i = _
    rw [examboardref50_number.l0, if_neg (by omega)]
  | succ d ih =>
    intro a i h0 hd ha0 ha1
    obtain ⟨c, hc, hb⟩ := bt_tl s i h0 (by omega)
    rw [hc, numGo]
    by_cases h48 : (c.toNat : Int) < 48
    · rw [if_pos h48]
      refine Ev.step (f := fun _ => some (0, false)) (fun k => ?_) (Ev.now _)
      show examboardref50_number.l0 (k + 1) s m a i = _
      rw [examboardref50_number.l0, if_pos (by omega), if_pos h0, hb, if_pos h48]
    · rw [if_neg h48]
      by_cases h57 : (c.toNat : Int) > 57
      · rw [if_pos h57]
        refine Ev.step (f := fun _ => some (0, false)) (fun k => ?_) (Ev.now _)
        show examboardref50_number.l0 (k + 1) s m a i = _
        rw [examboardref50_number.l0, if_pos (by omega), if_pos h0, hb, if_neg h48, if_pos h57]
      · rw [if_neg h57]
        have hle := mn_le (a * 10 + ((c.toNat : Int) - 48)) (m + 1)
        have hge := mn_ge (a * 10 + ((c.toNat : Int) - 48)) (m + 1) 0 (by omega) (by omega)
        have hin := ih (mn (a * 10 + ((c.toNat : Int) - 48)) (m + 1)) (i + 1) (by omega) (by omega) hge hle
        have w1 : wrap64 (i + 1) = i + 1 := wrap_id (by omega) (by omega)
        have w2 : wrap64 (m + 1) = m + 1 := wrap_id (by omega) (by omega)
        have w3 : wrap64 (10 * a) = a * 10 := by rw [Int.mul_comm]; exact wrap_id (by omega) (by omega)
        have w4 : ((c.toNat : Int) - 48) % 256 = (c.toNat : Int) - 48 := by omega
        have w5 : wrap64 (a * 10 + ((c.toNat : Int) - 48)) = a * 10 + ((c.toNat : Int) - 48) := wrap_id (by omega) (by omega)
        refine Ev.step (fun k => ?_) hin
        show examboardref50_number.l0 (k + 1) s m a i = _
        rw [examboardref50_number.l0, if_pos (by omega), if_pos h0, hb, if_neg h48, if_neg h57, w1, w2, w3, w4, w5]
theorem rnumber_ev (s : ByteArray) (m : Int) (hm0 : 0 ≤ m) (hm1 : m ≤ 4398046511104) (hs : (s.size : Int) < 9223372036854775807) : Ev (fun k => examboardref50_number.f k s m) (numV (tl s) m) := by
  have key := rnumber_l0 s m hm0 hm1 hs s.size 0 0 (by omega) (by omega) (by omega) (by omega)
  have hl := tl_len s
  have j0 : Ev (fun k => examboardref50_number.j0 k s m false) (numGo (tl s) 0 m) := by
    refine Ev.step (fun k => ?_) key
    show examboardref50_number.j0 (k + 1) s m false = _
    rw [examboardref50_number.j0, if_neg (by decide)]
  have j1 : Ev (fun k => examboardref50_number.j0 k s m true) (0, false) := by
    refine Ev.step (f := fun _ => some (0, false)) (fun k => ?_) (Ev.now _)
    show examboardref50_number.j0 (k + 1) s m true = _
    rw [examboardref50_number.j0, if_pos rfl]
  unfold numV
  by_cases h : tl s = []
  · rw [if_pos h]
    have h0 : (s.size : Int) = 0 := by rw [← hl, h]; rfl
    exact Ev.congr (fun k => by unfold examboardref50_number.f; rw [if_pos h0]) j1
  · rw [if_neg h]
    have hpos : 0 < s.size := by
      rw [← hl]; exact List.length_pos_iff.2 h
    by_cases h1 : (s.size : Int) > 1
    · obtain ⟨c, hc, hb⟩ := bt_tl s 0 (by omega) (by omega)
      rw [Int.toNat_zero, List.drop_zero] at hc
      have hh : (tl s).head? = some c := by rw [hc]; rfl
      by_cases h48 : c = 48
      · rw [if_pos ⟨by omega, by rw [hh, h48]⟩]
        refine Ev.congr (fun k => ?_) j1
        unfold examboardref50_number.f
        rw [if_neg (by omega), if_pos h1, if_pos (by omega), hb, h48]; rfl
      · rw [if_neg (fun e => h48 (Option.some.inj (hh.symm.trans e.2)))]
        refine Ev.congr (fun k => ?_) j0
        unfold examboardref50_number.f
        have : ((c.toNat : Int) == 48) = false := beq_eq_false_iff_ne.2 (fun e => h48 (UInt8.toNat_inj.1 (by
          have e48 : (48 : UInt8).toNat = 48 := rfl
          omega)))
        rw [if_neg (by omega), if_pos h1, if_pos (by omega), hb, this]
    · rw [if_neg (fun e => by omega)]
      refine Ev.congr (fun k => ?_) j0
      unfold examboardref50_number.f
      rw [if_neg (by omega), if_neg h1]
/-! ### Parse -/
theorem valV_three (x : S23) (h1 : 1 ≤ x.f0) (h6 : x.f0 ≤ 6) (h : valV x ≠ 0) : valV x = 3 := by
  unfold valV at h ⊢
  rw [if_neg (by omega)] at h ⊢
  split
  · rfl
  · rename_i hh; rw [if_neg hh] at h; exact absurd rfl h
theorem rvalid_ev (x : S23) : Ev (fun k => examboardref50_Valid.f k x.f0 x.f1 x.f2 x.f3) (valV x) := Ev.step (f := fun _ => some (valV x)) (fun k => rvalid_eq k _) (Ev.now _)
theorem rparse_j2 (k0 : Int) (n1 n2 n3 : Int × Bool) (b : Bool) (hk : k0 = 0 ∨ (1 ≤ k0 ∧ k0 ≤ 6)) (hb : b = true ↔ ¬ (k0 ≠ 0 ∧ n1.2 = true ∧ n2.2 = true ∧ n3.2 = true)) :
    Ev (fun k => examboardref50_Parse.j2 k n1.1 n2.1 n3.1 b k0 0 0 0) (endV k0 n1 n2 n3) := by
  unfold endV
  by_cases h : k0 ≠ 0 ∧ n1.2 = true ∧ n2.2 = true ∧ n3.2 = true
  · rw [if_pos h]
    have hf : b = false := by
      cases b with
      | false => rfl
      | true => exact absurd h (hb.1 rfl)
    subst hf
    refine Ev.step (f := fun k => (examboardref50_Valid.f k k0 n1.1 n2.1 n3.1).bind fun t342 => (if t342 = 0 then (some (k0, n1.1, n2.1, n3.1, 0)) else (some (0, 0, 0, 0, 3)))) (fun k => ?_) ?_
    · show examboardref50_Parse.j2 (k + 1) n1.1 n2.1 n3.1 false k0 0 0 0 = _
      rw [examboardref50_Parse.j2, if_neg (by decide)]
    · refine Ev.bind (rvalid_ev ⟨k0, n1.1, n2.1, n3.1⟩) ?_
      by_cases hv : valV ⟨k0, n1.1, n2.1, n3.1⟩ = 0
      · rw [if_pos hv, if_pos hv]; exact Ev.now _
      · have h16 := hk.resolve_left h.1
        have e3 := valV_three ⟨k0, n1.1, n2.1, n3.1⟩ h16.1 h16.2 hv
        rw [if_neg hv, if_neg hv, e3]; exact Ev.now _
  · rw [if_neg h]
    have ht := hb.2 h
    subst ht
    refine Ev.step (f := fun _ => some (0, 0, 0, 0, 2)) (fun k => ?_) (Ev.now _)
    show examboardref50_Parse.j2 (k + 1) n1.1 n2.1 n3.1 true k0 0 0 0 = _
    rw [examboardref50_Parse.j2, if_pos rfl]
theorem rparse_l0 (b0 b1 b2 b3 b4 b5 b6 : ByteArray) (h2 : (b2.size : Int) < 9223372036854775807) (h4 : (b4.size : Int) < 9223372036854775807) (h6 : (b6.size : Int) < 9223372036854775807) : ∀ (d : Nat) (a i : Int), 7 - i = (d : Int) → 1 ≤ i → (a = 0 ∨ (1 ≤ a ∧ a ≤ 6)) →
    Ev (fun k => examboardref50_Parse.l0 k [b0, b1, b2, b3, b4, b5, b6] i a 0 0 0) (endV (kindF d i a (tl b0)) (numV (tl b2) 1099511627776) (numV (tl b4) 86400) (numV (tl b6) 3)) := by
  intro d
  induction d with
  | zero =>
    intro a i hd hi hk
    refine Ev.step (f := fun k => (examboardref50_number.f k b2 1099511627776).bind fun bt334 => ((examboardref50_number.f k b4 86400).bind fun bt337 => ((examboardref50_number.f k b6 3).bind fun bt340 => (if a = 0 then (examboardref50_Parse.j2 k bt334.1 bt337.1 bt340.1 true a 0 0 0) else (if bt334.2 = true then (if bt337.2 = true then (examboardref50_Parse.j2 k bt334.1 bt337.1 bt340.1 (!bt340.2) a 0 0 0) else (examboardref50_Parse.j2 k bt334.1 bt337.1 bt340.1 true a 0 0 0)) else (examboardref50_Parse.j2 k bt334.1 bt337.1 bt340.1 true a 0 0 0)))))) (fun k => ?_) ?_
    · show examboardref50_Parse.l0 (k + 1) _ i a 0 0 0 = _
      rw [examboardref50_Parse.l0, if_neg (by omega)]
      simp only [if_pos (lt7 b0 b1 b2 b3 b4 b5 b6 2 (by decide)), if_pos (lt7 b0 b1 b2 b3 b4 b5 b6 4 (by decide)), if_pos (lt7 b0 b1 b2 b3 b4 b5 b6 6 (by decide))]
      rfl
    · refine Ev.bind (rnumber_ev b2 _ (by decide) (by decide) h2) (Ev.bind (rnumber_ev b4 _ (by decide) (by decide) h4) (Ev.bind (rnumber_ev b6 _ (by decide) (by decide) h6) ?_))
      show Ev _ (endV a _ _ _)
      generalize numV (tl b2) 1099511627776 = n1
      generalize numV (tl b4) 86400 = n2
      generalize numV (tl b6) 3 = n3
      by_cases ha : a = 0
      · exact Ev.congr (fun k => by rw [if_pos ha]) (rparse_j2 a n1 n2 n3 true hk ⟨fun _ h => h.1 ha, fun _ => rfl⟩)
      · by_cases e1 : n1.2 = true
        · by_cases e2 : n2.2 = true
          · exact Ev.congr (fun k => by rw [if_neg ha, if_pos e1, if_pos e2]) (rparse_j2 a n1 n2 n3 (!n3.2) hk (by cases h3 : n3.2 <;> simp [ha, e1, e2]))
          · exact Ev.congr (fun k => by rw [if_neg ha, if_pos e1, if_neg e2]) (rparse_j2 a n1 n2 n3 true hk ⟨fun _ h => e2 h.2.2.1, fun _ => rfl⟩)
        · exact Ev.congr (fun k => by rw [if_neg ha, if_neg e1]) (rparse_j2 a n1 n2 n3 true hk ⟨fun _ h => e1 h.2.1, fun _ => rfl⟩)
  | succ d ih =>
    intro a i hd hi hk
    have hin := ih (if nameL i = tl b0 then i else a) (i + 1) (by omega) (by omega) (by split <;> omega)
    have hw : wrap64 (i + 1) = i + 1 := wrap_id (by omega) (by omega)
    refine Ev.step (fun k => ?_) hin
    show examboardref50_Parse.l0 (k + 1) _ i a 0 0 0 = _
    rw [examboardref50_Parse.l0, if_pos (by omega), if_pos (lt7 b0 b1 b2 b3 b4 b5 b6 0 (by decide)), word_eq i hi (by omega), Option.bind_some, toList_tl, toList_tl, tl_mk, hw]
    show (if tl b0 = nameL i then _ else _) = _
    by_cases e : nameL i = tl b0
    · rw [if_pos e, if_pos e.symm]
    · rw [if_neg e, if_neg (fun h => e h.symm)]
theorem rparse_bad (t : List ByteArray) : Ev (fun k => examboardref50_Parse.j0 k t true) (0, 0, 0, 0, 2) := by
  refine Ev.step (f := fun _ => some (0, 0, 0, 0, 2)) (fun k => ?_) (Ev.now _)
  show examboardref50_Parse.j0 (k + 1) t true = _
  rw [examboardref50_Parse.j0, if_pos rfl]
theorem rparse_ev (s : ByteArray) (hs : s.size < 4294967281) : Ev (fun k => examboardref50_Parse.f k s) (parV (spl (tl s))) := by
  have hsp : ((spl (tl s)).map mk).map tl = spl (tl s) := by
    rw [List.map_map]
    conv => rhs; rw [← List.map_id (spl (tl s))]
    exact List.map_congr_left (fun w _ => rfl)
  unfold examboardref50_Parse.f
  refine Ev.bind (rsplit_ev s hs) ?_
  generalize (spl (tl s)).map mk = T at hsp
  have hlen : T.length = (spl (tl s)).length := by rw [← hsp, List.length_map]
  by_cases h7 : T.length = 7
  · obtain ⟨b0, b1, b2, b3, b4, b5, b6, rfl⟩ := seven h7
    have e : spl (tl s) = [tl b0, tl b1, tl b2, tl b3, tl b4, tl b5, tl b6] := hsp.symm
    have hj := join_spl (tl s)
    have small : ∀ b : ByteArray, tl b ∈ spl (tl s) → (b.size : Int) < 9223372036854775807 := fun b hb => by
      have := mem_len hb
      rw [hj, tl_len, tl_len] at this
      omega
    have s2 := small b2 (by rw [e]; simp)
    have s4 := small b4 (by rw [e]; simp)
    have s6 := small b6 (by rw [e]; simp)
    rw [e]
    show Ev _ (if tl b1 = wAt ∧ tl b3 = wLost ∧ tl b5 = wGrave then endV (kindF 6 1 0 (tl b0)) (numV (tl b2) 1099511627776) (numV (tl b4) 86400) (numV (tl b6) 3) else (0, 0, 0, 0, 2))
    have r1 : (rdOf ByteArray.empty [b0, b1, b2, b3, b4, b5, b6] 1).toList = tl b1 := toList_tl _
    have r3 : (rdOf ByteArray.empty [b0, b1, b2, b3, b4, b5, b6] 3).toList = tl b3 := toList_tl _
    have r5 : (rdOf ByteArray.empty [b0, b1, b2, b3, b4, b5, b6] 5).toList = tl b5 := toList_tl _
    have key := rparse_l0 b0 b1 b2 b3 b4 b5 b6 s2 s4 s6 6 0 1 (by decide) (by decide) (.inl rfl)
    by_cases h1 : tl b1 = wAt
    · by_cases h3 : tl b3 = wLost
      · by_cases h5 : tl b5 = wGrave
        · rw [if_pos ⟨h1, h3, h5⟩]
          refine Ev.congr (f := fun k => examboardref50_Parse.j0 k [b0, b1, b2, b3, b4, b5, b6] false) (fun k => ?_) (Ev.step (fun k => ?_) key)
          · rw [if_pos (is7 b0 b1 b2 b3 b4 b5 b6), if_pos (lt7 b0 b1 b2 b3 b4 b5 b6 1 (by decide)), r1, if_pos h1, if_pos (lt7 b0 b1 b2 b3 b4 b5 b6 3 (by decide)), r3, if_pos h3, if_pos (lt7 b0 b1 b2 b3 b4 b5 b6 5 (by decide)), r5, h5]; rfl
          · show examboardref50_Parse.j0 (k + 1) _ false = _
            rw [examboardref50_Parse.j0, if_neg (by decide)]
        · rw [if_neg (fun h => h5 h.2.2)]
          refine Ev.congr (fun k => ?_) (rparse_bad [b0, b1, b2, b3, b4, b5, b6])
          rw [if_pos (is7 b0 b1 b2 b3 b4 b5 b6), if_pos (lt7 b0 b1 b2 b3 b4 b5 b6 1 (by decide)), r1, if_pos h1, if_pos (lt7 b0 b1 b2 b3 b4 b5 b6 3 (by decide)), r3, if_pos h3, if_pos (lt7 b0 b1 b2 b3 b4 b5 b6 5 (by decide)), r5, bne_iff_ne.2 h5]
      · rw [if_neg (fun h => h3 h.2.1)]
        refine Ev.congr (fun k => ?_) (rparse_bad [b0, b1, b2, b3, b4, b5, b6])
        rw [if_pos (is7 b0 b1 b2 b3 b4 b5 b6), if_pos (lt7 b0 b1 b2 b3 b4 b5 b6 1 (by decide)), r1, if_pos h1, if_pos (lt7 b0 b1 b2 b3 b4 b5 b6 3 (by decide)), r3, if_neg h3]
    · rw [if_neg (fun h => h1 h.1)]
      refine Ev.congr (fun k => ?_) (rparse_bad [b0, b1, b2, b3, b4, b5, b6])
      rw [if_pos (is7 b0 b1 b2 b3 b4 b5 b6), if_pos (lt7 b0 b1 b2 b3 b4 b5 b6 1 (by decide)), r1, if_neg h1]
  · rw [parV_len (by rw [← hlen]; exact h7)]
    exact Ev.congr (fun k => by rw [if_neg (by omega)]) (rparse_bad _)
end Go.Proofs.YtidehmfaebiebaaDoor.Pure
