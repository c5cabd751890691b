/- The plain law behind TimingLimits: limits and combinations of accommodations are those of the reference. Condition: the arguments are 64-bit integers. -/
import Derived.Test.YtjopendipackpaaPTimingLimitsx5
namespace Go.Proofs.Ytjopendipackpaa.Pure
open Go.RowKit Go.Proofs.Ytjopendipackpaa.PTimingLimits

theorem wrap_id {x : Int} (h0 : -9223372036854775808 ≤ x) (h1 : x ≤ 9223372036854775807) : wrap64 x = x := by
  unfold wrap64
  omega

theorem valid_some (n d e : Int) : (timing_Valid.f n d e = some 0 ∧ 1 ≤ d ∧ d ≤ 100 ∧ d ≤ n ∧ n ≤ 4 * d ∧ 0 ≤ e ∧ e ≤ 86400) ∨ (timing_Valid.f n d e = some 3 ∧ ¬ (1 ≤ d ∧ d ≤ 100 ∧ d ≤ n ∧ n ≤ 4 * d ∧ 0 ≤ e ∧ e ≤ 86400)) := by
  unfold timing_Valid.f
  by_cases h1 : d < 1
  · rw [if_pos h1]; exact .inr ⟨rfl, by omega⟩
  by_cases h2 : d > 100
  · rw [if_neg h1, if_pos h2]; exact .inr ⟨rfl, by omega⟩
  rw [if_neg h1, if_neg h2, wrap_id (x := 4 * d) (by omega) (by omega)]
  by_cases h3 : n < d
  · rw [if_pos h3]; exact .inr ⟨rfl, by omega⟩
  by_cases h4 : n > 4 * d
  · rw [if_neg h3, if_pos h4]; exact .inr ⟨rfl, by omega⟩
  by_cases h5 : e < 0
  · rw [if_neg h3, if_neg h4, if_pos h5]; exact .inr ⟨rfl, by omega⟩
  by_cases h6 : e > 86400
  · rw [if_neg h3, if_neg h4, if_neg h5, if_pos h6]; exact .inr ⟨rfl, by omega⟩
  rw [if_neg h3, if_neg h4, if_neg h5, if_neg h6]
  exact .inl ⟨rfl, by omega⟩

theorem divisor_gcd : ∀ (y x k : Nat), y < k → timing_divisor.l0 k (x : Int) (y : Int) = some ((Nat.gcd x y : Nat) : Int) := by
  intro y
  induction y using Nat.strongRecOn with
  | _ y ih =>
    intro x k hk
    obtain ⟨k, rfl⟩ : ∃ m, k = m + 1 := ⟨k - 1, by omega⟩
    simp only [timing_divisor.l0]
    by_cases h : y = 0
    · subst h
      rw [if_neg (by omega)]
      simp
    · rw [if_pos (by omega), if_neg (by omega), ← Int.ofNat_tmod]
      rw [ih (x % y) (Nat.mod_lt _ (by omega)) y k (by have := Nat.mod_lt x (show 0 < y by omega); omega)]
      congr 2
      rw [Nat.gcd_comm x y, Nat.gcd_rec y x, Nat.gcd_comm]

theorem mul_bounds {a b : Int} {n : Nat} (A B : Nat) (ha0 : 0 ≤ a) (ha : a ≤ A) (hb0 : 0 ≤ b) (hb : b ≤ B) (h : A * B = n) : 0 ≤ a * b ∧ a * b ≤ n := by
  refine ⟨Int.mul_nonneg ha0 hb0, ?_⟩
  have h1 : a * b ≤ (A : Int) * B := Int.mul_le_mul ha hb hb0 (by omega)
  rw [← Int.natCast_mul, h] at h1
  exact h1

theorem ref_valid (n d e : Int) : examboardref47_Valid.f n d e = timing_Valid.f n d e := rfl

theorem limit_same (s n d e : Int) : ∃ p, timing_Limit.f s n d e = some p ∧ examboardref47_Limit.f s n d e = some p := by
  unfold timing_Limit.f examboardref47_Limit.f
  rw [ref_valid]
  rcases valid_some n d e with ⟨h, h1, h2, h3, h4, h5, h6⟩ | ⟨h, _⟩
  · rw [h]
    simp only [Option.bind_some, if_true]
    by_cases c1 : s < 0
    · rw [if_pos c1]; exact ⟨_, rfl, rfl⟩
    by_cases c2 : s > 9999999
    · rw [if_neg c1, if_pos c2]; exact ⟨_, rfl, rfl⟩
    rw [if_neg c1, if_neg c2, if_neg (by omega)]
    exact ⟨_, rfl, rfl⟩
  · rw [h]
    simp only [Option.bind_some]
    rw [if_neg (by omega)]
    exact ⟨_, rfl, rfl⟩

/-- The reference's trial divisions end at the numbers divided by their greatest common divisor. -/
theorem ref_loop (a b c a' b' c' : Int) : ∀ (d n m k : Nat), 1 ≤ d → 1 ≤ m → d ≤ 1000000 → n ≤ 1000000 → m ≤ 1000000 → Nat.gcd n m ≤ d → d < k →
    examboardref47_Combine.l0 k (n : Int) (m : Int) (d : Int) a b c a' b' c' =
      ((examboardref47_Valid.f ((n / Nat.gcd n m : Nat) : Int) ((m / Nat.gcd n m : Nat) : Int) (wrap64 (c + c'))).bind fun t121 => (if t121 = 0 then (some (((n / Nat.gcd n m : Nat) : Int), ((m / Nat.gcd n m : Nat) : Int), wrap64 (c + c'), 0)) else (some (0, 0, 0, 3)))) := by
  intro d
  induction d with
  | zero => intro n m k h; omega
  | succ d ih =>
    intro n m k _ hm hd hn hm2 hg hk
    obtain ⟨k, rfl⟩ : ∃ j, k = j + 1 := ⟨k - 1, by omega⟩
    simp only [examboardref47_Combine.l0]
    by_cases h1 : d = 0
    · subst h1
      rw [if_neg (by omega)]
      have hg1 : Nat.gcd n m = 1 := by
        have := Nat.gcd_pos_of_pos_right n (show 0 < m by omega)
        omega
      rw [hg1, Nat.div_one, Nat.div_one]
    · rw [if_pos (by omega), if_neg (by omega)]
      have hw : wrap64 (((d + 1 : Nat) : Int) - 1) = (d : Int) := by
        rw [wrap_id (by omega) (by omega)]; omega
      rw [← Int.ofNat_tmod, ← Int.ofNat_tmod, hw]
      by_cases hdn : n % (d + 1) = 0
      · by_cases hdm : m % (d + 1) = 0
        · rw [if_pos (by omega), if_pos (by omega)]
          have hgd : Nat.gcd n m = d + 1 := by
            have h2 : d + 1 ∣ Nat.gcd n m := Nat.dvd_gcd (Nat.dvd_of_mod_eq_zero hdn) (Nat.dvd_of_mod_eq_zero hdm)
            have := Nat.le_of_dvd (Nat.gcd_pos_of_pos_right n (show 0 < m by omega)) h2
            omega
          have hone : Nat.gcd (n / (d + 1)) (m / (d + 1)) = 1 := by
            rw [Nat.gcd_div (Nat.dvd_of_mod_eq_zero hdn) (Nat.dvd_of_mod_eq_zero hdm), hgd, Nat.div_self (by omega)]
          have hle1 : n / (d + 1) ≤ n := Nat.div_le_self _ _
          have hle2 : m / (d + 1) ≤ m := Nat.div_le_self _ _
          have hpos : 1 ≤ m / (d + 1) := by
            have : d + 1 ≤ m := Nat.le_of_dvd (by omega) (Nat.dvd_of_mod_eq_zero hdm)
            exact Nat.div_pos this (by omega)
          rw [← Int.ofNat_tdiv, ← Int.ofNat_tdiv, hgd]
          generalize n / (d + 1) = n1 at *
          generalize m / (d + 1) = m1 at *
          rw [wrap_id (x := (n1 : Int)) (by omega) (by omega), wrap_id (x := (m1 : Int)) (by omega) (by omega)]
          rw [ih n1 m1 k (by omega) hpos (by omega) (by omega) (by omega) (by omega) (by omega), hone, Nat.div_one, Nat.div_one]
        · rw [if_pos (by omega), if_neg (by omega)]
          refine ih n m k (by omega) hm (by omega) hn hm2 ?_ (by omega)
          rcases Nat.lt_or_ge (Nat.gcd n m) (d + 1) with h | h
          · omega
          · exact absurd (Nat.mod_eq_zero_of_dvd (show d + 1 ∣ m by have := Nat.gcd_dvd_right n m; rwa [show Nat.gcd n m = d + 1 by omega] at this)) hdm
      · rw [if_neg (by omega)]
        refine ih n m k (by omega) hm (by omega) hn hm2 ?_ (by omega)
        rcases Nat.lt_or_ge (Nat.gcd n m) (d + 1) with h | h
        · omega
        · exact absurd (Nat.mod_eq_zero_of_dvd (show d + 1 ∣ n by have := Nat.gcd_dvd_left n m; rwa [show Nat.gcd n m = d + 1 by omega] at this)) hdn

theorem combine_same (k : Nat) (hk : 20000 ≤ k) (a b c a' b' c' : Int) : ∃ p, timing_Combine.f k a b c a' b' c' = some p ∧ examboardref47_Combine.f k a b c a' b' c' = some p := by
  unfold timing_Combine.f examboardref47_Combine.f
  rw [ref_valid, ref_valid]
  obtain ⟨k, rfl⟩ : ∃ j, k = j + 1 := ⟨k - 1, by omega⟩
  rcases valid_some a b c with ⟨h, h1, h2, h3, h4, h5, h6⟩ | ⟨h, _⟩
  · rcases valid_some a' b' c' with ⟨h', h1', h2', h3', h4', h5', h6'⟩ | ⟨h', _⟩
    · rw [h, h']
      simp only [Option.bind_some, if_true, timing_Combine.j0, examboardref47_Combine.j0, bne_self_eq_false, Bool.false_eq_true, if_false]
      obtain ⟨hn0, hn1⟩ := mul_bounds (a := a) (b := a') (n := 160000) 400 400 (by omega) (by omega) (by omega) (by omega) rfl
      obtain ⟨hd0, hd1⟩ := mul_bounds (a := b) (b := b') (n := 10000) 100 100 (by omega) (by omega) (by omega) (by omega) rfl
      have hd2 : 1 ≤ b * b' := by
        have := Int.mul_pos (show 0 < b by omega) (show 0 < b' by omega)
        omega
      rw [wrap_id (x := a * a') (by omega) (by omega), wrap_id (x := b * b') (by omega) (by omega)]
      obtain ⟨n, hn⟩ := Int.eq_ofNat_of_zero_le hn0
      obtain ⟨m, hm⟩ := Int.eq_ofNat_of_zero_le hd0
      have hn2 : n ≤ 160000 := by omega
      have hm1 : 1 ≤ m := by omega
      have hm2 : m ≤ 10000 := by omega
      rw [hn, hm]
      unfold timing_divisor.f
      rw [divisor_gcd m n k (by omega)]
      have hgpos : 0 < Nat.gcd n m := Nat.gcd_pos_of_pos_right n (by omega)
      have hgle : Nat.gcd n m ≤ m := Nat.gcd_le_right n (by omega)
      rw [ref_loop a b c a' b' c' m n m k (by omega) (by omega) (by omega) (by omega) (by omega) hgle (by omega)]
      simp only [Option.bind_some]
      rw [if_neg (by omega), ← Int.ofNat_tdiv, ← Int.ofNat_tdiv]
      have hle1 : n / Nat.gcd n m ≤ n := Nat.div_le_self _ _
      have hle2 : m / Nat.gcd n m ≤ m := Nat.div_le_self _ _
      generalize n / Nat.gcd n m = n1 at *
      generalize m / Nat.gcd n m = m1 at *
      rw [wrap_id (x := (n1 : Int)) (by omega) (by omega), wrap_id (x := (m1 : Int)) (by omega) (by omega), ref_valid]
      rcases valid_some (n1 : Int) (m1 : Int) (wrap64 (c + c')) with ⟨hv, _⟩ | ⟨hv, _⟩ <;> rw [hv] <;> exact ⟨_, rfl, rfl⟩
    · rw [h, h']
      exact ⟨_, rfl, rfl⟩
  · rw [h]
    exact ⟨_, rfl, rfl⟩

theorem TimingLimits (s a b c a' b' c' : Int) : ∃ k, examboardlaw47_TimingLimits.f k s a b c a' b' c' = some true := by
  refine ⟨20001, ?_⟩
  unfold examboardlaw47_TimingLimits.f
  obtain ⟨p, h1, h2⟩ := limit_same s a b c
  obtain ⟨q, h3, h4⟩ := combine_same 20000 (Nat.le_refl _) a b c a' b' c'
  rw [h1, h2, ref_valid]
  simp only [Option.bind_some]
  rcases valid_some a b c with ⟨h, _⟩ | ⟨h, _⟩ <;> rw [h] <;> simp [examboardlaw47_TimingLimits.j0, h3, h4]
end Go.Proofs.Ytjopendipackpaa.Pure
