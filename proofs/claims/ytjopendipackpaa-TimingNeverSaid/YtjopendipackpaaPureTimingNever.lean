/- The plain law behind TimingNever: an accommodation never shortens a limit, and the combination of two never shortens that of one of them. Condition: the arguments are 64-bit integers. -/
import Derived.Test.YtjopendipackpaaPTimingNeverx4
namespace Go.Proofs.Ytjopendipackpaa.Pure
open Go.RowKit Go.Proofs.Ytjopendipackpaa.PTimingNever

theorem wrap_id {x : Int} (h0 : -9223372036854775808 ≤ x) (h1 : x ≤ 9223372036854775807) : wrap64 x = x := by
  unfold wrap64
  omega

theorem valid_some (n d e : Int) : (timing_Valid.f n d e = some 0 ∧ 1 ≤ d ∧ d ≤ 100 ∧ d ≤ n ∧ n ≤ 4 * d ∧ 0 ≤ e ∧ e ≤ 86400) ∨ (timing_Valid.f n d e = some 3 ∧ ¬ (1 ≤ d ∧ d ≤ 100 ∧ d ≤ n ∧ n ≤ 4 * d ∧ 0 ≤ e ∧ e ≤ 86400)) := by
  unfold timing_Valid.f
  by_cases h1 : d < 1
  · rw [if_pos h1]; exact .inr ⟨rfl, by omega⟩
  by_cases h2 : d > 100
  · rw [if_neg h1, if_pos h2]; exact .inr ⟨rfl, by omega⟩
  rw [if_neg h1, if_neg h2, wrap_id (x := 4 * d) (by omega) (by omega)]
  by_cases h3 : n < d
  · rw [if_pos h3]; exact .inr ⟨rfl, by omega⟩
  by_cases h4 : n > 4 * d
  · rw [if_neg h3, if_pos h4]; exact .inr ⟨rfl, by omega⟩
  by_cases h5 : e < 0
  · rw [if_neg h3, if_neg h4, if_pos h5]; exact .inr ⟨rfl, by omega⟩
  by_cases h6 : e > 86400
  · rw [if_neg h3, if_neg h4, if_neg h5, if_pos h6]; exact .inr ⟨rfl, by omega⟩
  rw [if_neg h3, if_neg h4, if_neg h5, if_neg h6]
  exact .inl ⟨rfl, by omega⟩

theorem divisor_gcd : ∀ (y x k : Nat), y < k → timing_divisor.l0 k (x : Int) (y : Int) = some ((Nat.gcd x y : Nat) : Int) := by
  intro y
  induction y using Nat.strongRecOn with
  | _ y ih =>
    intro x k hk
    obtain ⟨k, rfl⟩ : ∃ m, k = m + 1 := ⟨k - 1, by omega⟩
    simp only [timing_divisor.l0]
    by_cases h : y = 0
    · subst h
      rw [if_neg (by omega)]
      simp
    · rw [if_pos (by omega), if_neg (by omega), ← Int.ofNat_tmod]
      rw [ih (x % y) (Nat.mod_lt _ (by omega)) y k (by have := Nat.mod_lt x (show 0 < y by omega); omega)]
      congr 2
      rw [Nat.gcd_comm x y, Nat.gcd_rec y x, Nat.gcd_comm]

theorem mul_bounds {a b : Int} {n : Nat} (A B : Nat) (ha0 : 0 ≤ a) (ha : a ≤ A) (hb0 : 0 ≤ b) (hb : b ≤ B) (h : A * B = n) : 0 ≤ a * b ∧ a * b ≤ n := by
  refine ⟨Int.mul_nonneg ha0 hb0, ?_⟩
  have h1 : a * b ≤ (A : Int) * B := Int.mul_le_mul ha hb hb0 (by omega)
  rw [← Int.natCast_mul, h] at h1
  exact h1

theorem nat_mul_le {a b A B n : Nat} (ha : a ≤ A) (hb : b ≤ B) (h : A * B = n) : a * b ≤ n := by
  rw [← h]; exact Nat.mul_le_mul ha hb

/-- The quotient rounded up. -/
def up (a d : Nat) : Nat := (a + d - 1) / d

theorem up_le {a d q : Nat} (hd : 1 ≤ d) (h : a ≤ q * d) : up a d ≤ q := by
  unfold up
  have : (a + d - 1) / d < q + 1 := by
    rw [Nat.div_lt_iff_lt_mul (by omega), Nat.succ_mul]
    omega
  omega
theorem le_up {a d : Nat} (hd : 1 ≤ d) : a ≤ up a d * d := by
  unfold up
  have h1 := Nat.div_add_mod (a + d - 1) d
  have h2 := Nat.mod_lt (a + d - 1) (show 0 < d by omega)
  rw [Nat.mul_comm] at h1
  omega
theorem up_mono {a d b e : Nat} (hd : 1 ≤ d) (he : 1 ≤ e) (h : a * e ≤ b * d) : up a d ≤ up b e := by
  refine up_le hd ?_
  have h1 := le_up (a := b) he
  have h2 : a * e ≤ (up b e * d) * e := by
    calc a * e ≤ b * d := h
      _ ≤ (up b e * e) * d := Nat.mul_le_mul_right _ h1
      _ = (up b e * d) * e := by rw [Nat.mul_assoc, Nat.mul_comm e d, ← Nat.mul_assoc]
  exact Nat.le_of_mul_le_mul_right h2 (by omega)
theorem ge_up {s n d : Nat} (hd : 1 ≤ d) (h : d ≤ n) : s ≤ up (s * n) d := by
  have h1 := le_up (a := s * n) hd
  have h2 : s * d ≤ s * n := Nat.mul_le_mul_left _ h
  exact Nat.le_of_mul_le_mul_right (Nat.le_trans h2 h1) (by omega)
theorem up_same {s d : Nat} (hd : 1 ≤ d) : up (s * d) d = s := by
  refine Nat.le_antisymm (up_le hd (Nat.le_refl _)) (ge_up hd (Nat.le_refl _))

theorem limit_val (s n d e : Nat) (hs : s ≤ 9999999) (h1 : 1 ≤ d) (h2 : d ≤ 100) (h3 : d ≤ n) (h4 : n ≤ 4 * d) (h6 : e ≤ 86400) :
    timing_Limit.f (s : Int) n d e = some (((up (s * n) d + e : Nat) : Int), 0) := by
  unfold timing_Limit.f
  rcases valid_some (n : Int) d e with ⟨h, _⟩ | ⟨_, h⟩
  · rw [h]
    simp only [Option.bind_some, if_true]
    rw [if_neg (by omega), if_neg (by omega), if_neg (by omega)]
    have hp := nat_mul_le (n := 3999999600) hs (show n ≤ 400 by omega) rfl
    rw [← Int.natCast_mul]
    unfold up
    generalize s * n = p at *
    rw [wrap_id (x := (p : Int)) (by omega) (by omega), wrap_id (x := (p : Int) + d) (by omega) (by omega), wrap_id (x := (p : Int) + d - 1) (by omega) (by omega)]
    rw [show (p : Int) + d - 1 = ((p + d - 1 : Nat) : Int) by omega, ← Int.ofNat_tdiv]
    have hle : (p + d - 1) / d ≤ p + d - 1 := Nat.div_le_self _ _
    generalize (p + d - 1) / d = q at *
    rw [wrap_id (x := (q : Int)) (by omega) (by omega), wrap_id (x := (q : Int) + e) (by omega) (by omega), ← Int.natCast_add]
  · omega

attribute [irreducible] up

theorem limit_bad (n d e : Int) : ∃ q, timing_Limit.f (-1) n d e = some (q, 3) := by
  unfold timing_Limit.f
  rcases valid_some n d e with ⟨h, _⟩ | ⟨h, _⟩ <;> rw [h]
  · exact ⟨0, rfl⟩
  · exact ⟨0, rfl⟩

theorem combine_form (k : Nat) (a b c a' b' c' : Int) (h : timing_Valid.f a b c = some 0) (h' : timing_Valid.f a' b' c' = some 0) :
    timing_Combine.f (k + 1) a b c a' b' c' = (timing_divisor.f k (wrap64 (a * a')) (wrap64 (b * b'))).bind fun t => (if t = 0 then none else
      ((timing_Valid.f (wrap64 (Int.tdiv (wrap64 (a * a')) t)) (wrap64 (Int.tdiv (wrap64 (b * b')) t)) (wrap64 (c + c'))).bind fun u =>
        (if u = 0 then (some (wrap64 (Int.tdiv (wrap64 (a * a')) t), wrap64 (Int.tdiv (wrap64 (b * b')) t), wrap64 (c + c'), 0)) else (some (0, 0, 0, u))))) := by
  unfold timing_Combine.f
  rw [h, h']
  simp [timing_Combine.j0]

theorem combine_val (k : Nat) (hk : 20000 ≤ k) (n d e n' d' e' : Nat) (h1 : 1 ≤ d) (h2 : d ≤ 100) (h3 : d ≤ n) (h4 : n ≤ 4 * d) (h6 : e ≤ 86400)
    (h1' : 1 ≤ d') (h2' : d' ≤ 100) (h3' : d' ≤ n') (h4' : n' ≤ 4 * d') (h6' : e' ≤ 86400) :
    timing_Combine.f k (n : Int) d e n' d' e' = some (0, 0, 0, 3) ∨
    ∃ N D : Nat, timing_Combine.f k (n : Int) d e n' d' e' = some ((N : Int), (D : Int), ((e + e' : Nat) : Int), 0) ∧ 1 ≤ D ∧ D ≤ 100 ∧ D ≤ N ∧ N ≤ 4 * D ∧ e + e' ≤ 86400 ∧ N * (d * d') = D * (n * n') := by
  obtain ⟨k, rfl⟩ : ∃ j, k = j + 1 := ⟨k - 1, by omega⟩
  rcases valid_some (n : Int) d e with ⟨h, _⟩ | ⟨_, h⟩
  · rcases valid_some (n' : Int) d' e' with ⟨h', _⟩ | ⟨_, h'⟩
    · rw [combine_form k _ _ _ _ _ _ h h']
      have hn := nat_mul_le (n := 160000) (show n ≤ 400 by omega) (show n' ≤ 400 by omega) rfl
      have hd := nat_mul_le (n := 10000) h2 h2' rfl
      have hd1 : 1 ≤ d * d' := Nat.mul_pos h1 h1'
      rw [← Int.natCast_mul, ← Int.natCast_mul]
      generalize n * n' = p at *
      generalize d * d' = q at *
      rw [wrap_id (x := (p : Int)) (by omega) (by omega), wrap_id (x := (q : Int)) (by omega) (by omega), wrap_id (x := (e : Int) + e') (by omega) (by omega)]
      unfold timing_divisor.f
      rw [divisor_gcd q p k (by omega)]
      have hgpos : 0 < Nat.gcd p q := Nat.gcd_pos_of_pos_right p (by omega)
      simp only [Option.bind_some]
      rw [if_neg (by omega), ← Int.ofNat_tdiv, ← Int.ofNat_tdiv]
      have hle1 : p / Nat.gcd p q ≤ p := Nat.div_le_self _ _
      have hle2 : q / Nat.gcd p q ≤ q := Nat.div_le_self _ _
      have hp : p = p / Nat.gcd p q * Nat.gcd p q := (Nat.div_mul_cancel (Nat.gcd_dvd_left p q)).symm
      have hq : q = q / Nat.gcd p q * Nat.gcd p q := (Nat.div_mul_cancel (Nat.gcd_dvd_right p q)).symm
      have hpq : p / Nat.gcd p q * q = q / Nat.gcd p q * p := by
        have e1 : p / Nat.gcd p q * q = p / Nat.gcd p q * (q / Nat.gcd p q * Nat.gcd p q) := by rw [← hq]
        have e2 : q / Nat.gcd p q * p = q / Nat.gcd p q * (p / Nat.gcd p q * Nat.gcd p q) := by rw [← hp]
        rw [e1, e2, Nat.mul_left_comm]
      clear hp hq
      generalize p / Nat.gcd p q = N at *
      generalize q / Nat.gcd p q = D at *
      rw [wrap_id (x := (N : Int)) (by omega) (by omega), wrap_id (x := (D : Int)) (by omega) (by omega)]
      rcases valid_some (N : Int) (D : Int) ((e : Int) + e') with ⟨hv, hh⟩ | ⟨hv, _⟩ <;> rw [hv]
      · refine .inr ⟨N, D, ?_, by omega, by omega, by omega, by omega, by omega, hpq⟩
        simp
      · exact .inl rfl
    · omega
  · omega

theorem combine_comm (k : Nat) (hk : 20000 ≤ k) (n d e n' d' e' : Nat) (h1 : 1 ≤ d) (h2 : d ≤ 100) (h3 : d ≤ n) (h4 : n ≤ 4 * d) (h6 : e ≤ 86400)
    (h1' : 1 ≤ d') (h2' : d' ≤ 100) (h3' : d' ≤ n') (h4' : n' ≤ 4 * d') (h6' : e' ≤ 86400) :
    timing_Combine.f k (n : Int) d e n' d' e' = timing_Combine.f k (n' : Int) d' e' n d e := by
  obtain ⟨k, rfl⟩ : ∃ j, k = j + 1 := ⟨k - 1, by omega⟩
  rcases valid_some (n : Int) d e with ⟨h, _⟩ | ⟨_, h⟩
  · rcases valid_some (n' : Int) d' e' with ⟨h', _⟩ | ⟨_, h'⟩
    · rw [combine_form k _ _ _ _ _ _ h h', combine_form k _ _ _ _ _ _ h' h]
      rw [Int.mul_comm (n' : Int) n, Int.mul_comm (d' : Int) d, Int.add_comm (e' : Int) e]
    · omega
  · omega

theorem ratio_le {s n d n' d' N D : Nat} (hd' : 1 ≤ d') (h : d' ≤ n') (he : N * (d * d') = D * (n * n')) : s * n * D ≤ s * N * d := by
  have h1 : n * D * d' ≤ N * d * d' := by
    calc n * D * d' ≤ n * D * n' := Nat.mul_le_mul_left _ h
      _ = D * (n * n') := by rw [Nat.mul_comm n D, Nat.mul_assoc]
      _ = N * d * d' := by rw [← he, Nat.mul_assoc]
  have h2 := Nat.le_of_mul_le_mul_right h1 (by omega)
  rw [Nat.mul_assoc, Nat.mul_assoc]
  exact Nat.mul_le_mul_left _ h2

theorem j0_form (k : Nat) (s a b c a' b' c' x y : Int) (hl : timing_Limit.f s a b c = some (x, 0)) (hl' : timing_Limit.f s a' b' c' = some (y, 0)) (h1 : ¬ x < wrap64 (s + c)) (h2 : ¬ y < wrap64 (s + c')) (h3 : a = b → x = wrap64 (s + c)) :
    examboardlaw47_TimingNever.j0 (k + 1) s false a b c a' b' c' = examboardlaw47_TimingNever.j1 k s x y false a b c a' b' c' := by
  simp only [examboardlaw47_TimingNever.j0, hl, hl', Option.bind_some, Bool.false_eq_true, if_false, if_true, if_neg h1, if_neg h2]
  by_cases h : a = b
  · rw [if_pos h, ← h3 h, bne_self_eq_false]
  · rw [if_neg h]
theorem j0_bad (k : Nat) (s a b c a' b' c' : Int) : examboardlaw47_TimingNever.j0 (k + 1) s true a b c a' b' c' = some true := by
  obtain ⟨q, hq⟩ := limit_bad a b c
  simp [examboardlaw47_TimingNever.j0, hq]
theorem j1_form (k : Nat) (s a b c a' b' c' x y N D E e : Int) (hc : timing_Combine.f k a b c a' b' c' = some (N, D, E, e)) (hc' : timing_Combine.f k a' b' c' a b c = some (N, D, E, e)) :
    examboardlaw47_TimingNever.j1 (k + 1) s x y false a b c a' b' c' = examboardlaw47_TimingNever.j2 k s x e y false a b c a' b' c' N D E := by
  simp [examboardlaw47_TimingNever.j1, hc, hc']
theorem j2_err (k : Nat) (s a b c a' b' c' x y : Int) : examboardlaw47_TimingNever.j2 (k + 1) s x 3 y false a b c a' b' c' 0 0 0 = some true := by
  simp [examboardlaw47_TimingNever.j2]
theorem j2_ok (k : Nat) (s a b c a' b' c' x y z N D E : Int) (hl : timing_Limit.f s N D E = some (z, 0)) (hv : timing_Valid.f N D E = some 0) (h1 : z ≥ x) (h2 : z ≥ y) (h3 : E = wrap64 (c + c')) (h4 : wrap64 (wrap64 (N * b) * b') = wrap64 (wrap64 (D * a) * a')) :
    examboardlaw47_TimingNever.j2 (k + 1) s x 0 y false a b c a' b' c' N D E = some true := by
  simp only [examboardlaw47_TimingNever.j2, hl, hv, Option.bind_some, Bool.false_eq_true, if_false, if_true, if_pos h1, if_pos h2, h4, beq_self_eq_true]
  rw [if_pos h3]

theorem TimingNever (s a b c a' b' c' : Int) : ∃ k, examboardlaw47_TimingNever.f k s a b c a' b' c' = some true := by
  obtain ⟨K, hK⟩ : ∃ K, K = 20000 := ⟨_, rfl⟩
  refine ⟨K + 1 + 1 + 1, ?_⟩
  unfold examboardlaw47_TimingNever.f
  by_cases s0 : s < 0
  · rw [if_pos s0, j0_bad]
  by_cases s1 : s > 9999999
  · rw [if_neg s0, if_pos s1, j0_bad]
  rw [if_neg s0, if_neg s1]
  rcases valid_some a b c with ⟨h, h1, h2, h3, h4, h5, h6⟩ | ⟨h, _⟩
  · rcases valid_some a' b' c' with ⟨h', h1', h2', h3', h4', h5', h6'⟩ | ⟨h', _⟩
    · rw [h, h']
      simp only [Option.bind_some, if_true, bne_self_eq_false]
      clear h h'
      obtain ⟨s, rfl⟩ := Int.eq_ofNat_of_zero_le (show 0 ≤ s by omega)
      obtain ⟨n, rfl⟩ := Int.eq_ofNat_of_zero_le (show 0 ≤ a by omega)
      obtain ⟨d, rfl⟩ := Int.eq_ofNat_of_zero_le (show 0 ≤ b by omega)
      obtain ⟨e, rfl⟩ := Int.eq_ofNat_of_zero_le (show 0 ≤ c by omega)
      obtain ⟨n', rfl⟩ := Int.eq_ofNat_of_zero_le (show 0 ≤ a' by omega)
      obtain ⟨d', rfl⟩ := Int.eq_ofNat_of_zero_le (show 0 ≤ b' by omega)
      obtain ⟨e', rfl⟩ := Int.eq_ofNat_of_zero_le (show 0 ≤ c' by omega)
      have w1 : wrap64 ((s : Int) + e) = (s : Int) + e := wrap_id (by omega) (by omega)
      have w2 : wrap64 ((s : Int) + e') = (s : Int) + e' := wrap_id (by omega) (by omega)
      have l1 := limit_val s n d e (by omega) (by omega) (by omega) (by omega) (by omega) (by omega)
      have l2 := limit_val s n' d' e' (by omega) (by omega) (by omega) (by omega) (by omega) (by omega)
      have g1 : s ≤ up (s * n) d := ge_up (by omega) (by omega)
      have g2 : s ≤ up (s * n') d' := ge_up (by omega) (by omega)
      have ge : (n : Int) = d → up (s * n) d = s := fun h => by
        obtain rfl : n = d := by omega
        exact up_same (by omega)
      rw [j0_form _ _ _ _ _ _ _ _ _ _ l1 l2 (by rw [w1]; omega) (by rw [w2]; omega) (fun h => by rw [w1, ge h]; omega)]
      have cc := combine_comm (K + 1) (by omega) n d e n' d' e' (by omega) (by omega) (by omega) (by omega) (by omega) (by omega) (by omega) (by omega) (by omega) (by omega)
      rcases combine_val (K + 1) (by omega) n d e n' d' e' (by omega) (by omega) (by omega) (by omega) (by omega) (by omega) (by omega) (by omega) (by omega) (by omega) with hv | ⟨N, D, hv, v1, v2, v3, v4, v5, v6⟩
      · rw [j1_form _ _ _ _ _ _ _ _ _ _ _ _ _ _ hv (cc.symm.trans hv)]
        exact j2_err _ _ _ _ _ _ _ _ _ _
      · rw [j1_form _ _ _ _ _ _ _ _ _ _ _ _ _ _ hv (cc.symm.trans hv)]
        have l3 := limit_val s N D (e + e') (by omega) v1 v2 v3 v4 v5
        have z1 : up (s * n) d ≤ up (s * N) D := up_mono (by omega) (by omega) (ratio_le (by omega) (by omega) v6)
        have z2 : up (s * n') d' ≤ up (s * N) D := up_mono (by omega) (by omega) (ratio_le (n' := n) (d' := d) (by omega) (by omega) (by rw [Nat.mul_comm d' d, Nat.mul_comm n' n]; exact v6))
        have b1 := nat_mul_le (n := 40000) (show N ≤ 400 by omega) (show d ≤ 100 by omega) rfl
        have b2 := nat_mul_le (n := 4000000) b1 (show d' ≤ 100 by omega) rfl
        have b3 := nat_mul_le (n := 40000) (show D ≤ 100 by omega) (show n ≤ 400 by omega) rfl
        have b4 := nat_mul_le (n := 16000000) b3 (show n' ≤ 400 by omega) rfl
        have hv2 : timing_Valid.f (N : Int) (D : Int) ((e + e' : Nat) : Int) = some 0 := by
          rcases valid_some (N : Int) (D : Int) ((e + e' : Nat) : Int) with ⟨hv2, _⟩ | ⟨_, hv2⟩
          · exact hv2
          · omega
        refine j2_ok _ _ _ _ _ _ _ _ _ _ _ _ _ _ l3 hv2 (by omega) (by omega) (by rw [wrap_id (by omega) (by omega)]; omega) ?_
        rw [← Int.natCast_mul, ← Int.natCast_mul, wrap_id (x := ((N * d : Nat) : Int)) (by omega) (by omega), wrap_id (x := ((D * n : Nat) : Int)) (by omega) (by omega), ← Int.natCast_mul, ← Int.natCast_mul,
          Nat.mul_assoc, Nat.mul_assoc, v6]
    · rw [h, h']
      simp only [Option.bind_some, if_true]
      exact j0_bad _ _ _ _ _ _ _ _
  · rw [h]
    simp only [Option.bind_some]
    rw [if_neg (by omega)]
    exact j0_bad _ _ _ _ _ _ _ _
end Go.Proofs.Ytjopendipackpaa.Pure
