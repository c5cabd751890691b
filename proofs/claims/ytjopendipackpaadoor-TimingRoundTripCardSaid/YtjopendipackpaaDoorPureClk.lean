/- What timing.Print, timing.Parse and the reference's compute, in plain words. No condition but those that each theorem states. -/
import Derived.Test.YtjopendipackpaaDoorPureStr
namespace Go.Proofs.YtjopendipackpaaDoor.Pure
open Go.RowKit Go.Proofs.YtjopendipackpaaDoor.PClk Go.Proofs.YtjopendipackpaaDoorW.PrintWords Go.Proofs.YtjopendipackpaaDoorW.PrintLast Go.Proofs.YtjopendipackpaaDoorW.PrintMore

def tw (m : Int) : List Int := [48 + m / 10, 48 + m % 10]
def hd (h : Int) : List Int := if h < 10 then [48 + h] else tw h
/-- The bytes of a printed time. -/
def prl (n : Int) : List Int := hd (n / 3600) ++ [58] ++ tw (n / 60 % 60) ++ [58] ++ tw (n % 60)
def PT (n : Int) : ByteArray × Int := if 0 ≤ n ∧ n ≤ 359999 then (strOfNums (prl n), 0) else (⟨#[]⟩, 3)

theorem two_eq (m : Int) (h0 : 0 ≤ m) (h1 : m < 100) : [(wrap64 (48 + (wrap64 (Int.tdiv m 10)))) % 256, (wrap64 (48 + (Int.tmod m 10))) % 256] = tw m := by
  rw [Int.tdiv_eq_ediv_of_nonneg h0, Int.tmod_eq_emod_of_nonneg h0]
  rw [wrap_id (x := m / 10) (by omega) (by omega), wrap_id (by omega) (by omega), wrap_id (by omega) (by omega)]
  have e1 : (48 + m / 10) % 256 = 48 + m / 10 := by omega
  have e2 : (48 + m % 10) % 256 = 48 + m % 10 := by omega
  rw [e1, e2]
  rfl
theorem itoa_eq (h : Int) (h0 : 0 ≤ h) (h1 : h < 100) : itoa.f h = some (strOfNums (hd h)) := by
  unfold itoa.f
  rw [if_pos ⟨h0, h1⟩]
  congr 1
  unfold hd
  obtain ⟨n, rfl⟩ : ∃ n : Nat, h = n := ⟨h.toNat, by omega⟩
  have ht : ((n : Int)).toNat = n := rfl
  rw [ht]
  have key : ∀ n : Nat, n < 100 → Lib.decDigits n = if n < 10 then [UInt8.ofNat (48 + n)] else [UInt8.ofNat (48 + n / 10), UInt8.ofNat (48 + n % 10)] := by
    intro n hn
    rw [Lib.decDigits]
    split
    · rfl
    · rw [Lib.decDigits, dif_pos (by omega)]
      rfl
  rw [key n (by omega)]
  by_cases hn : n < 10
  · rw [if_pos hn, if_pos (by omega)]
    unfold strOfNums
    simp only [List.map_cons, List.map_nil]
    rw [show (48 + (n : Int)).toNat = 48 + n by omega]
  · rw [if_neg hn, if_neg (by omega)]
    unfold strOfNums tw
    simp only [List.map_cons, List.map_nil]
    rw [show (48 + (n : Int) / 10).toNat = 48 + n / 10 by omega, show (48 + (n : Int) % 10).toNat = 48 + n % 10 by omega]
theorem colon : (⟨#[58]⟩ : ByteArray) = strOfNums [58] := rfl
theorem tw_len (m : Int) : (tw m).length = 2 := rfl
theorem hd_len (h : Int) : (hd h).length ≤ 2 := by unfold hd; split <;> simp [tw]
theorem small (n : Nat) (h : n ≤ 100) : n ≤ 9223372036854775807 := by omega
theorem print_eq (k : Nat) (n : Int) : timing_Print.f (k + 1) n = some (PT n) := by
  unfold timing_Print.f PT
  by_cases h0 : n < 0
  · rw [if_pos h0, if_neg (by omega)]; rfl
  · rw [if_neg h0]
    by_cases h1 : n ≤ 359999
    · rw [if_pos ⟨by omega, h1⟩, decide_eq_false (by omega)]
      have hn0 : 0 ≤ n := by omega
      rw [timing_Print.j0, if_neg (by decide)]
      rw [Int.tdiv_eq_ediv_of_nonneg hn0, Int.tdiv_eq_ediv_of_nonneg hn0, Int.tmod_eq_emod_of_nonneg hn0, wrap_id (by omega) (by omega), wrap_id (by omega) (by omega), Int.tmod_eq_emod_of_nonneg (by omega)]
      rw [itoa_eq _ (by omega) (by omega), Option.bind_some]
      unfold timing_two.f
      rw [two_eq _ (by omega) (by omega), two_eq _ (by omega) (by omega)]
      simp only [Option.bind_some, colon, str_append, strOfNums_size, List.length_append, tw_len, List.length_cons, List.length_nil]
      have := hd_len (n / 3600)
      rw [if_pos (small _ (by omega)), if_pos (small _ (by omega)), if_pos (small _ (by omega)), if_pos (small _ (by omega))]
      rfl
    · rw [if_neg (by omega), decide_eq_true (by omega)]; rfl
theorem rprint_eq (k : Nat) (n : Int) : examboardref47_Print.f (k + 2) n = some (PT n) := by
  unfold examboardref47_Print.f PT
  by_cases h0 : n < 0
  · rw [if_pos h0, if_neg (by omega)]; rfl
  · rw [if_neg h0]
    by_cases h1 : n ≤ 359999
    · rw [if_pos ⟨by omega, h1⟩, decide_eq_false (by omega)]
      have hn0 : 0 ≤ n := by omega
      rw [examboardref47_Print.j0, if_neg (by decide)]
      rw [Int.tdiv_eq_ediv_of_nonneg hn0, Int.tdiv_eq_ediv_of_nonneg hn0, Int.tmod_eq_emod_of_nonneg hn0, wrap_id (by omega) (by omega), wrap_id (by omega) (by omega), Int.tmod_eq_emod_of_nonneg (by omega)]
      unfold examboardref47_two.f
      rw [two_eq _ (by omega) (by omega), two_eq _ (by omega) (by omega), two_eq _ (by omega) (by omega)]
      simp only [Option.bind_some]
      have hb : bt (strOfNums (tw (n / 3600))) 0 = 48 + n / 3600 / 10 := by
        rw [bt_bl2 _ _ (tw (n / 3600)) (bl_str _ (by intro x hx; simp [tw] at hx; omega)) (by omega) (by rw [tw_len]; decide)]
        rfl
      rw [str_drop1, hb]
      simp only [colon, str_append, strOfNums_size, List.length_append, tw_len, List.length_cons, List.length_nil, List.length_drop]
      rw [if_pos (by decide)]
      by_cases h10 : n / 3600 < 10
      · rw [if_pos (by omega), if_pos (by decide), if_pos (small _ (by omega)), if_pos (small _ (by omega)), if_pos (small _ (by omega)), if_pos (small _ (by omega))]
        unfold prl hd
        rw [if_pos h10]
        have e : List.drop 1 (tw (n / 3600)) = [48 + n / 3600] := by
          show [48 + n / 3600 % 10] = _
          rw [show n / 3600 % 10 = n / 3600 by omega]
        rw [e]
      · rw [if_neg (by omega), if_pos (small _ (by omega)), if_pos (small _ (by omega)), if_pos (small _ (by omega)), if_pos (small _ (by omega))]
        unfold prl hd
        rw [if_neg h10]
    · rw [if_neg (by omega), decide_eq_true (by omega)]; rfl
end Go.Proofs.YtjopendipackpaaDoor.Pure
