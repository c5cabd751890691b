/- The plain law behind TimingCovers: union, length and difference of intervals are those of the reference. No condition. -/
import Derived.Test.YtjopendipackpaaPTimx17
import Derived.Test.YtjopendipackpaaPureTimU
import Derived.Test.YtjopendipackpaaPureTimP
namespace Go.Proofs.Ytjopendipackpaa.PureTim
open Go.RowKit Go.Proofs.Ytjopendipackpaa.PTim Go.Proofs.YtjopendipackpaaW.PrintWords Go.Proofs.YtjopendipackpaaW.PrintLast Go.Proofs.YtjopendipackpaaW.PrintMore
set_option linter.unusedVariables false

/-! ### the reference: check, covers, pairs, normal -/
theorem rcheck_l1 (l : List S33) (hl : l.length ≤ 1000000) : ∀ (d : Nat) (i : Int) (k : Nat), 0 ≤ i → (l.length : Int) - i = d → d < k →
    examboardref47_check.l1 k l i = some (if (l.drop i.toNat).any turned then 23 else 0) := by
  intro d
  induction d with
  | zero =>
    intro i k h0 hd hk
    obtain ⟨k, rfl⟩ : ∃ m, k = m + 1 := ⟨k - 1, by omega⟩
    rw [examboardref47_check.l1, if_neg (by omega), List.drop_eq_nil_of_le (by omega)]
    rfl
  | succ d ih =>
    intro i k h0 hd hk
    obtain ⟨k, rfl⟩ : ∃ m, k = m + 1 := ⟨k - 1, by omega⟩
    have hlt : i < (l.length : Int) := by omega
    rw [examboardref47_check.l1, if_pos hlt, if_pos h0, rd_drop l i h0 hlt, List.any_cons]
    cases h : turned (rd_T33 l i)
    · have := (turned_false _).1 h
      rw [if_neg (by omega), wrap_id (x := i + 1) (by omega) (by omega), ih (i + 1) k (by omega) (by omega) (by omega), Bool.false_or]
    · have : ¬ (rd_T33 l i).f0 < (rd_T33 l i).f1 := fun h2 => by rw [(turned_false _).2 h2] at h; cases h
      rw [if_pos (by omega), Bool.true_or, if_pos rfl]
theorem rcheck_l0 (l : List S33) (hl : l.length ≤ 1000000) : ∀ (d : Nat) (i : Int) (k : Nat), 0 ≤ i → (l.length : Int) - i = d → d + l.length + 1 < k →
    examboardref47_check.l0 k l i = some (if (l.drop i.toNat).any bad then 3 else if l.any turned then 23 else 0) := by
  intro d
  induction d with
  | zero =>
    intro i k h0 hd hk
    obtain ⟨k, rfl⟩ : ∃ m, k = m + 1 := ⟨k - 1, by omega⟩
    rw [examboardref47_check.l0, if_neg (by omega), List.drop_eq_nil_of_le (by omega), rcheck_l1 l hl l.length 0 k (by omega) (by omega) (by omega)]
    rfl
  | succ d ih =>
    intro i k h0 hd hk
    obtain ⟨k, rfl⟩ : ∃ m, k = m + 1 := ⟨k - 1, by omega⟩
    have hlt : i < (l.length : Int) := by omega
    rw [examboardref47_check.l0, if_pos hlt, if_pos h0, rd_drop l i h0 hlt, List.any_cons]
    cases h : bad (rd_T33 l i)
    · have := (bad_false _).1 h
      rw [if_neg (by omega), if_neg (by omega), if_neg (by omega), if_neg (by omega), wrap_id (x := i + 1) (by omega) (by omega), ih (i + 1) k (by omega) (by omega) (by omega), Bool.false_or]
    · have hb : ¬ (0 ≤ (rd_T33 l i).f0 ∧ (rd_T33 l i).f0 ≤ 1099511627776 ∧ 0 ≤ (rd_T33 l i).f1 ∧ (rd_T33 l i).f1 ≤ 1099511627776) := fun h2 => by rw [(bad_false _).2 h2] at h; cases h
      rw [Bool.true_or, if_pos rfl]
      by_cases c1 : (rd_T33 l i).f0 < 0
      · rw [if_pos c1]
      by_cases c2 : (rd_T33 l i).f0 > 1099511627776
      · rw [if_neg c1, if_pos c2]
      by_cases c3 : (rd_T33 l i).f1 < 0
      · rw [if_neg c1, if_neg c2, if_pos c3]
      rw [if_neg c1, if_neg c2, if_neg c3, if_pos (by omega)]
theorem rcheck_ev (a b : List S33) : Ev (fun k => examboardref47_check.f k a b) (chk [a, b]) := by
  rw [chk_two]
  by_cases ha : 300 < a.length
  · refine Ev.congr (f := fun k => examboardref47_check.j0 k a b true) (fun k => ?_) ?_
    · unfold examboardref47_check.f
      rw [if_pos (by omega)]
    · refine Ev.step (f := fun _ => some 5) (fun k => ?_) ?_
      · rw [examboardref47_check.j0, if_pos rfl]
      · rw [decide_eq_true ha, Bool.true_or, if_pos rfl]
        exact Ev.now _
  · refine Ev.congr (f := fun k => examboardref47_check.j0 k a b (decide (300 < b.length))) (fun k => ?_) ?_
    · unfold examboardref47_check.f
      rw [if_neg (by omega)]
      congr 1
      rw [decide_eq_decide]
      omega
    · rw [decide_eq_false ha, Bool.false_or]
      by_cases hb : 300 < b.length
      · rw [decide_eq_true hb, if_pos rfl]
        refine Ev.step (f := fun _ => some 5) (fun k => ?_) (Ev.now _)
        rw [examboardref47_check.j0, if_pos rfl]
      · rw [decide_eq_false hb, if_neg (by simp)]
        refine Ev.step (f := fun k => examboardref47_check.l0 k (a ++ b) 0) (fun k => ?_) ?_
        · rw [examboardref47_check.j0, if_neg (by simp)]
          simp only [Option.bind_some, List.nil_append, List.length_nil, Nat.zero_add]
          rw [if_pos (by omega), if_pos (by omega)]
        · refine ⟨2 * (a ++ b).length + 2, fun k hk => ?_⟩
          have := rcheck_l0 (a ++ b) (by rw [List.length_append]; omega) (a ++ b).length 0 k (by omega) (by omega) (by omega)
          exact this
theorem rcov_loop (l : List S33) (hl : l.length ≤ 1000000) (x : Int) : ∀ (d : Nat) (i : Int) (k : Nat), 0 ≤ i → (l.length : Int) - i = d → d < k →
    examboardref47_covers.l0 k l x i = some (covB (l.drop i.toNat) x) := by
  intro d
  induction d with
  | zero =>
    intro i k h0 hd hk
    obtain ⟨k, rfl⟩ : ∃ m, k = m + 1 := ⟨k - 1, by omega⟩
    rw [examboardref47_covers.l0, if_neg (by omega), List.drop_eq_nil_of_le (by omega)]
    rfl
  | succ d ih =>
    intro i k h0 hd hk
    obtain ⟨k, rfl⟩ : ∃ m, k = m + 1 := ⟨k - 1, by omega⟩
    have hlt : i < (l.length : Int) := by omega
    have e : covB (rd_T33 l i :: l.drop (i + 1).toNat) x = ((decide ((rd_T33 l i).f0 ≤ x) && decide (x < (rd_T33 l i).f1)) || covB (l.drop (i + 1).toNat) x) := rfl
    rw [examboardref47_covers.l0, if_pos hlt, if_pos h0, rd_drop l i h0 hlt, e, wrap_id (x := i + 1) (by omega) (by omega), ih (i + 1) k (by omega) (by omega) (by omega)]
    by_cases h1 : (rd_T33 l i).f0 ≤ x
    · by_cases h2 : x < (rd_T33 l i).f1
      · rw [if_pos h1, if_pos h2, decide_eq_true h1, decide_eq_true h2]; rfl
      · rw [if_pos h1, if_neg h2, decide_eq_false h2, Bool.and_false, Bool.false_or]
    · rw [if_neg h1, decide_eq_false h1, Bool.false_and, Bool.false_or]
theorem rcov_ev (l : List S33) (hl : l.length ≤ 1000000) (x : Int) : Ev (fun k => examboardref47_covers.f k l x) (covB l x) :=
  ⟨l.length + 1, fun k hk => rcov_loop l hl x l.length 0 k (by omega) (by omega) (by omega)⟩
/-! ### the reference: the ends -/
def vals (l : List S33) : List Int := l.flatMap fun p => [p.f0, p.f1]
theorem mem_vals (l : List S33) (v : Int) : v ∈ vals l ↔ ∃ p ∈ l, v = p.f0 ∨ v = p.f1 := by
  unfold vals
  simp [List.mem_flatMap]
def nx1 (last best v : Int) : Int := if v > last ∧ v < best then v else best
def nx (last : Int) : Int → List S33 → Int
  | best, [] => best
  | best, p :: r => nx last (nx1 last (nx1 last best p.f0) p.f1) r
theorem nx1_spec (last best v : Int) : nx1 last best v ≤ best ∧ (v > last → nx1 last best v ≤ v) ∧ (nx1 last best v = best ∨ (nx1 last best v = v ∧ v > last)) := by
  unfold nx1
  split <;> omega
theorem nx_spec (last : Int) : ∀ (r : List S33) (best : Int), nx last best r ≤ best ∧ (∀ v ∈ vals r, v > last → nx last best r ≤ v) ∧ (nx last best r = best ∨ (nx last best r ∈ vals r ∧ nx last best r > last))
  | [], best => ⟨Int.le_refl _, (fun v hv => by cases hv), .inl rfl⟩
  | p :: r, best => by
    have e : nx last best (p :: r) = nx last (nx1 last (nx1 last best p.f0) p.f1) r := rfl
    obtain ⟨a1, a2, a3⟩ := nx1_spec last best p.f0
    obtain ⟨b1, b2, b3⟩ := nx1_spec last (nx1 last best p.f0) p.f1
    obtain ⟨c1, c2, c3⟩ := nx_spec last r (nx1 last (nx1 last best p.f0) p.f1)
    rw [← e] at c1 c2 c3
    have hv : vals (p :: r) = p.f0 :: p.f1 :: vals r := rfl
    refine ⟨by omega, fun v h1 h2 => ?_, ?_⟩
    · rw [hv] at h1
      rcases List.mem_cons.1 h1 with rfl | h1
      · have := a2 h2; omega
      rcases List.mem_cons.1 h1 with rfl | h1
      · have := b2 h2; omega
      exact c2 v h1 h2
    · rcases c3 with c3 | c3
      · rcases b3 with b3 | b3
        · rcases a3 with a3 | a3
          · exact .inl (by omega)
          · refine .inr ⟨?_, by omega⟩
            rw [c3, b3, a3.1, hv]
            exact List.mem_cons_self
        · refine .inr ⟨?_, by omega⟩
          rw [c3, b3.1, hv]
          exact List.mem_cons_of_mem _ List.mem_cons_self
      · exact .inr ⟨by rw [hv]; exact List.mem_cons_of_mem _ (List.mem_cons_of_mem _ c3.1), c3.2⟩
theorem ends_inner (l : List S33) (hl : l.length ≤ 1000000) (out : List Int) (last : Int) (R : Int → List Int)
    (hcont : ∀ b : Int, b = nx last 1099511627777 l → Ev (fun k => if b > 1099511627776 then (some out) else (if out.length < 17592186044416 then (examboardref47_ends.l0 k l (out ++ [b]) b) else (none))) (R b)) : ∀ (d : Nat) (i best : Int), 0 ≤ i → (l.length : Int) - i = d →
    nx last best (l.drop i.toNat) = nx last 1099511627777 l → Ev (fun k => examboardref47_ends.l1 k l out last best i) (R (nx last 1099511627777 l)) := by
  intro d
  induction d with
  | zero =>
    intro i best h0 hd hb
    rw [List.drop_eq_nil_of_le (by omega)] at hb
    obtain rfl : best = nx last 1099511627777 l := hb
    refine Ev.step (f := fun k => if nx last 1099511627777 l > 1099511627776 then (some out) else (if out.length < 17592186044416 then (examboardref47_ends.l0 k l (out ++ [nx last 1099511627777 l]) (nx last 1099511627777 l)) else (none))) (fun k => ?_) (hcont _ rfl)
    rw [examboardref47_ends.l1, if_neg (by omega)]
  | succ d ih =>
    intro i best h0 hd hb
    have hlt : i < (l.length : Int) := by omega
    have hw : wrap64 (i + 1) = i + 1 := wrap_id (by omega) (by omega)
    rw [rd_drop l i h0 hlt] at hb
    have hb' : nx last (nx1 last (nx1 last best (rd_T33 l i).f0) (rd_T33 l i).f1) (l.drop (i + 1).toNat) = nx last 1099511627777 l := hb
    refine Ev.step (f := fun k => examboardref47_ends.j2 k l out last best i (decide ((rd_T33 l i).f0 > last ∧ (rd_T33 l i).f0 < best))) (fun k => ?_) ?_
    · rw [examboardref47_ends.l1, if_pos hlt, if_pos h0]
      by_cases h1 : (rd_T33 l i).f0 > last
      · rw [if_pos h1]
        congr 1
        rw [decide_eq_decide]
        exact ⟨fun h => ⟨h1, h⟩, fun h => h.2⟩
      · rw [if_neg h1, decide_eq_false (fun h => h1 h.1)]
    · refine Ev.step (f := fun k => examboardref47_ends.l1 k l out last (nx1 last (nx1 last best (rd_T33 l i).f0) (rd_T33 l i).f1) (i + 1)) (fun k => ?_) (ih (i + 1) _ (by omega) (by omega) hb')
      rw [examboardref47_ends.j2, hw]
      by_cases h1 : (rd_T33 l i).f0 > last ∧ (rd_T33 l i).f0 < best
      · have e1 : nx1 last best (rd_T33 l i).f0 = (rd_T33 l i).f0 := by unfold nx1; rw [if_pos h1]
        rw [decide_eq_true h1, if_pos rfl, if_pos h0, if_pos hlt, e1]
        unfold nx1
        by_cases h2 : (rd_T33 l i).f1 > last
        · rw [if_pos h2]
          by_cases h3 : (rd_T33 l i).f1 < (rd_T33 l i).f0
          · rw [if_pos h3, if_pos ⟨h2, h3⟩]
          · rw [if_neg h3, if_neg (fun h => h3 h.2)]
        · rw [if_neg h2, if_neg (fun h => h2 h.1)]
      · have e1 : nx1 last best (rd_T33 l i).f0 = best := by unfold nx1; rw [if_neg h1]
        rw [decide_eq_false h1, if_neg (by simp), if_pos h0, if_pos hlt, e1]
        unfold nx1
        by_cases h2 : (rd_T33 l i).f1 > last
        · rw [if_pos h2]
          by_cases h3 : (rd_T33 l i).f1 < best
          · rw [if_pos h3, if_pos ⟨h2, h3⟩]
          · rw [if_neg h3, if_neg (fun h => h3 h.2)]
        · rw [if_neg h2, if_neg (fun h => h2 h.1)]
def above (last : Int) (V : List Int) : Nat := (V.filter fun v => decide (last < v)).length
theorem above_lt (last m : Int) (V : List Int) (h1 : last < m) (hm : m ∈ V) : above m V < above last V := by
  unfold above
  induction V with
  | nil => cases hm
  | cons v V ih =>
    have mono : ∀ W : List Int, (W.filter fun v => decide (m < v)).length ≤ (W.filter fun v => decide (last < v)).length := fun W => by
      induction W with
      | nil => exact Nat.le_refl _
      | cons w W ihW =>
        by_cases hw : m < w
        · have hw' : last < w := by omega
          rw [List.filter_cons_of_pos (by simpa using hw), List.filter_cons_of_pos (by simpa using hw')]
          simpa using ihW
        · rw [List.filter_cons_of_neg (by simpa using hw)]
          by_cases hw' : last < w
          · rw [List.filter_cons_of_pos (by simpa using hw')]
            exact Nat.le_succ_of_le ihW
          · rw [List.filter_cons_of_neg (by simpa using hw')]
            exact ihW
    rcases List.mem_cons.1 hm with rfl | hm
    · rw [List.filter_cons_of_neg (by simp), List.filter_cons_of_pos (by simpa using h1)]
      have := mono V
      simp only [List.length_cons]
      omega
    · have ih' := ih hm
      by_cases hw : m < v
      · have hw' : last < v := by omega
        rw [List.filter_cons_of_pos (by simpa using hw), List.filter_cons_of_pos (by simpa using hw')]
        simpa using ih'
      · rw [List.filter_cons_of_neg (by simpa using hw)]
        by_cases hw' : last < v
        · rw [List.filter_cons_of_pos (by simpa using hw')]
          simp only [List.length_cons]
          omega
        · rw [List.filter_cons_of_neg (by simpa using hw')]
          exact ih'
theorem ends_outer (l : List S33) (hl : l.length ≤ 1000) (hin : InT l) : ∀ (d : Nat) (out : List Int) (last : Int), above last (vals l) ≤ d → out.length + d ≤ 1000000 → out.Pairwise (· < ·) → (∀ v, v ∈ out ↔ v ∈ vals l ∧ v ≤ last) →
    ∃ e, Ev (fun k => examboardref47_ends.l0 k l out last) e ∧ e.Pairwise (· < ·) ∧ ∀ v, v ∈ e ↔ v ∈ vals l := by
  intro d
  induction d with
  | zero =>
    intro out last hd hlen hp hmem
    have hno : ∀ v ∈ vals l, v ≤ last := fun v hv => by
      rcases Int.lt_or_le last v with h | h
      · have := above_lt last v (vals l) h hv
        omega
      · exact h
    have hm : nx last 1099511627777 l = 1099511627777 := by
      rcases (nx_spec last l 1099511627777).2.2 with h | h
      · exact h
      · have := hno _ h.1; omega
    refine ⟨out, ?_, hp, fun v => ⟨fun h => ((hmem v).1 h).1, fun h => (hmem v).2 ⟨h, hno v h⟩⟩⟩
    refine Ev.step (f := fun k => examboardref47_ends.l1 k l out last 1099511627777 0) (fun k => by rw [examboardref47_ends.l0]) ?_
    refine ends_inner l (by omega) out last (fun _ => out) (fun b hb => ?_) l.length 0 1099511627777 (Int.le_refl _) (by omega) rfl
    exact Ev.congr (f := fun _ => some out) (fun k => if_pos (by omega)) (Ev.now _)
  | succ d ih =>
    intro out last hd hlen hp hmem
    obtain ⟨s1, s2, s3⟩ := nx_spec last l 1099511627777
    rcases s3 with s3 | ⟨s3, s4⟩
    · refine ⟨out, ?_, hp, fun v => ⟨fun h => ((hmem v).1 h).1, fun h => (hmem v).2 ⟨h, ?_⟩⟩⟩
      · refine Ev.step (f := fun k => examboardref47_ends.l1 k l out last 1099511627777 0) (fun k => by rw [examboardref47_ends.l0]) ?_
        refine ends_inner l (by omega) out last (fun _ => out) (fun b hb => ?_) l.length 0 1099511627777 (Int.le_refl _) (by omega) rfl
        exact Ev.congr (f := fun _ => some out) (fun k => if_pos (by omega)) (Ev.now _)
      · rcases Int.lt_or_le last v with h2 | h2
        · have h3 := s2 v h h2
          obtain ⟨p, hp', h4⟩ := (mem_vals l v).1 h
          have := hin p hp'
          omega
        · exact h2
    · have hle : nx last 1099511627777 l ≤ 1099511627776 := by
        obtain ⟨p, hp', h4⟩ := (mem_vals l _).1 s3
        have := hin p hp'
        omega
      have hab := above_lt last _ (vals l) s4 s3
      generalize hm : nx last 1099511627777 l = m at *
      obtain ⟨e, he, h5, h6⟩ := ih (out ++ [m]) m (by omega) (by rw [List.length_append, List.length_singleton]; omega) (List.pairwise_append.2 ⟨hp, List.pairwise_singleton _ _, fun x hx y hy => by
        rw [List.mem_singleton.1 hy]
        have := ((hmem x).1 hx).2
        omega⟩) (fun v => by
          rw [List.mem_append, List.mem_singleton, hmem]
          constructor
          · rintro (h | rfl)
            · exact ⟨h.1, by omega⟩
            · exact ⟨s3, Int.le_refl _⟩
          · rintro ⟨h, h'⟩
            rcases Int.lt_or_le last v with h2 | h2
            · have := s2 v h h2
              exact .inr (by omega)
            · exact .inl ⟨h, h2⟩)
      refine ⟨e, ?_, h5, h6⟩
      refine Ev.step (f := fun k => examboardref47_ends.l1 k l out last 1099511627777 0) (fun k => by rw [examboardref47_ends.l0]) ?_
      have := ends_inner l (by omega) out last (fun _ => e) (fun b hb => by
        rw [hm] at hb
        subst hb
        refine Ev.congr (f := fun k => examboardref47_ends.l0 k l (out ++ [b]) b) (fun k => ?_) he
        rw [if_neg (by omega), if_pos (by omega)]) l.length 0 1099511627777 (Int.le_refl _) (by omega) rfl
      exact this
theorem vals_len (l : List S33) : (vals l).length = 2 * l.length := by
  induction l with
  | nil => rfl
  | cons p l ih =>
    have e : vals (p :: l) = p.f0 :: p.f1 :: vals l := rfl
    rw [e, List.length_cons, List.length_cons, ih, List.length_cons]
    omega
theorem ends_ev (l : List S33) (hl : l.length ≤ 1000) (hin : InT l) : ∃ e, Ev (fun k => examboardref47_ends.f k l) e ∧ e.Pairwise (· < ·) ∧ (∀ v, v ∈ e ↔ v ∈ vals l) ∧ e.length ≤ 2 * l.length := by
  obtain ⟨e, h1, h2, h3⟩ := ends_outer l hl hin (above (-1) (vals l)) [] (-1) (Nat.le_refl _) (by
    have h4 : above (-1) (vals l) ≤ (vals l).length := List.length_filter_le _ _
    rw [vals_len] at h4
    simp
    omega) List.Pairwise.nil (fun v => ⟨(fun h => by cases h), fun h => by
      obtain ⟨p, hp, h4⟩ := (mem_vals l v).1 h.1
      have := hin p hp
      omega⟩)
  refine ⟨e, h1, h2, h3, ?_⟩
  rw [← vals_len]
  exact nodup_len e (vals l) h2 (fun x hx => (h3 x).1 hx)
/-! ### the reference: pieces between the ends -/
theorem rdi_get (e : List Int) (i : Int) (h0 : 0 ≤ i) (h1 : i < (e.length : Int)) : ∃ h : i.toNat < e.length, rd e i = e[i.toNat] := by
  have hi : i.toNat < e.length := by omega
  refine ⟨hi, ?_⟩
  unfold rd
  rw [List.getD_eq_getElem?_getD, List.getElem?_eq_getElem hi]
  rfl
theorem gap_vals (e : List Int) (he : e.Pairwise (· < ·)) (i : Int) (h0 : 0 ≤ i) (h1 : i + 1 < (e.length : Int)) : rd e i < rd e (i + 1) ∧ ∀ v ∈ e, v ≤ rd e i ∨ rd e (i + 1) ≤ v := by
  obtain ⟨h2, e1⟩ := rdi_get e i h0 (by omega)
  obtain ⟨h3, e2⟩ := rdi_get e (i + 1) (by omega) h1
  rw [e1, e2]
  have hp := List.pairwise_iff_getElem.1 he
  refine ⟨hp _ _ h2 h3 (by omega), fun v hv => ?_⟩
  obtain ⟨n, hn, rfl⟩ := List.getElem_of_mem hv
  rcases Nat.lt_trichotomy n i.toNat with h | h | h
  · have := hp n i.toNat hn h2 h
    exact .inl (by omega)
  · subst h
    exact .inl (Int.le_refl _)
  · rcases Nat.lt_or_ge (i + 1).toNat n with h' | h'
    · have := hp (i + 1).toNat n h3 hn h'
      exact .inr (by omega)
    · have : n = (i + 1).toNat := by omega
      subst this
      exact .inr (Int.le_refl _)
theorem last_vals (e : List Int) (he : e.Pairwise (· < ·)) (i : Int) (h0 : 0 ≤ i) (h1 : i + 1 = (e.length : Int)) : ∀ v ∈ e, v ≤ rd e i := by
  obtain ⟨h2, e1⟩ := rdi_get e i h0 (by omega)
  rw [e1]
  intro v hv
  obtain ⟨n, hn, rfl⟩ := List.getElem_of_mem hv
  rcases Nat.lt_or_ge n i.toNat with h | h
  · have := List.pairwise_iff_getElem.1 he n i.toNat hn h2 h
    omega
  · have : n = i.toNat := by omega
    subst this
    exact Int.le_refl _
theorem piece {l : List S33} {s t : Int} (h : ∀ p ∈ l, (p.f0 ≤ s ∨ t ≤ p.f0) ∧ (p.f1 ≤ s ∨ t ≤ p.f1)) {x : Int} (h0 : s ≤ x) (h1 : x < t) : cov l x ↔ cov l s := by
  constructor
  · rintro ⟨p, hp, h2⟩
    have := h p hp
    exact ⟨p, hp, by omega, by omega⟩
  · rintro ⟨p, hp, h2⟩
    have := h p hp
    exact ⟨p, hp, by omega, by omega⟩
theorem norm_snoc : ∀ {l : List S33} {c : S33}, Norm (l ++ [c]) → Norm l ∧ c.f0 < c.f1 ∧ ∀ p ∈ l, p.f1 < c.f0
  | [], c, h => ⟨trivial, h.1, fun p hp => by cases hp⟩
  | p :: l, c, h => by
    obtain ⟨i1, i2, i3⟩ := norm_snoc h.2.2
    refine ⟨⟨h.1, fun q hq => h.2.1 q (List.mem_append_left _ hq), i1⟩, i2, fun q hq => ?_⟩
    rcases List.mem_cons.1 hq with rfl | hq
    · exact h.2.1 c (List.mem_append_right _ List.mem_cons_self)
    · exact i3 q hq
theorem norm_mk {l : List S33} {c : S33} (h1 : Norm l) (h2 : c.f0 < c.f1) (h3 : ∀ p ∈ l, p.f1 < c.f0) : Norm (l ++ [c]) :=
  norm_append h1 ⟨h2, (fun q hq => by cases hq), trivial⟩ (fun p hp q hq => by rw [List.mem_singleton.1 hq]; exact h3 p hp)
theorem rminus_loop (a b : List S33) (ha : a.length ≤ 1000) (hb : b.length ≤ 1000) (e : List Int) (hel : e.length ≤ 10000) (he : e.Pairwise (· < ·)) (hmem : ∀ v, v ∈ e ↔ v ∈ vals (a ++ b)) : ∀ (d : Nat) (i : Int) (out : List S33), 0 ≤ i → (e.length : Int) - i = d + 1 →
    Norm out → (∀ q ∈ out, q.f1 ≤ rd e i) → (out.length : Int) ≤ i → (∀ x, cov out x ↔ (cov a x ∧ ¬ cov b x) ∧ x < rd e i) →
    ∃ r, Ev (fun k => examboardref47_minus.l0 k a b e out i) r ∧ Norm r ∧ (∀ x, cov r x ↔ cov a x ∧ ¬ cov b x) ∧ r.length ≤ e.length := by
  have hma : ∀ p ∈ a, p.f0 ∈ e ∧ p.f1 ∈ e := fun p hp => ⟨(hmem _).2 ((mem_vals _ _).2 ⟨p, List.mem_append_left _ hp, .inl rfl⟩), (hmem _).2 ((mem_vals _ _).2 ⟨p, List.mem_append_left _ hp, .inr rfl⟩)⟩
  have hmb : ∀ p ∈ b, p.f0 ∈ e ∧ p.f1 ∈ e := fun p hp => ⟨(hmem _).2 ((mem_vals _ _).2 ⟨p, List.mem_append_right _ hp, .inl rfl⟩), (hmem _).2 ((mem_vals _ _).2 ⟨p, List.mem_append_right _ hp, .inr rfl⟩)⟩
  intro d
  induction d with
  | zero =>
    intro i out h0 hd hn hq hl hc
    have hw : wrap64 (i + 1) = i + 1 := wrap_id (by omega) (by omega)
    refine ⟨out, ?_, hn, fun x => ⟨fun h => ((hc x).1 h).1, fun h => (hc x).2 ⟨h, ?_⟩⟩, by omega⟩
    · refine Ev.step (f := fun _ => some out) (fun k => ?_) (Ev.now _)
      rw [examboardref47_minus.l0, hw, if_neg (by omega)]
    · obtain ⟨p, hp, h2⟩ := h.1
      have := last_vals e he i h0 (by omega) p.f1 (hma p hp).2
      omega
  | succ d ih =>
    intro i out h0 hd hn hq hl hc
    have hw : wrap64 (i + 1) = i + 1 := wrap_id (by omega) (by omega)
    have hlt : i < (e.length : Int) := by omega
    have hlt1 : i + 1 < (e.length : Int) := by omega
    obtain ⟨hst, hgap⟩ := gap_vals e he i h0 hlt1
    generalize hs : rd e i = s at *
    generalize ht : rd e (i + 1) = t at *
    have pa : ∀ {x : Int}, s ≤ x → x < t → (cov a x ↔ cov a s) := fun h1 h2 => piece (fun p hp => ⟨hgap _ (hma p hp).1, hgap _ (hma p hp).2⟩) h1 h2
    have pb : ∀ {x : Int}, s ≤ x → x < t → (cov b x ↔ cov b s) := fun h1 h2 => piece (fun p hp => ⟨hgap _ (hmb p hp).1, hgap _ (hmb p hp).2⟩) h1 h2
    -- what the next round asks
    have next : ∀ out' : List S33, Norm out' → (∀ q ∈ out', q.f1 ≤ t) → (out'.length : Int) ≤ i + 1 → (∀ x, cov out' x ↔ (cov a x ∧ ¬ cov b x) ∧ x < t) →
        ∃ r, Ev (fun k => examboardref47_minus.l0 k a b e out' (i + 1)) r ∧ Norm r ∧ (∀ x, cov r x ↔ cov a x ∧ ¬ cov b x) ∧ r.length ≤ e.length := fun out' g1 g2 g3 g4 => ih (i + 1) out' (by omega) (by omega) g1 (by rw [ht]; exact g2) g3 (by rw [ht]; exact g4)
    have start : ∀ flag : Bool, flag = (!covB a s || covB b s) → ∀ r, Ev (fun k => examboardref47_minus.j1 k a b e out i flag) r → Ev (fun k => examboardref47_minus.l0 k a b e out i) r := fun flag hf r h => by
      refine Ev.step (f := fun k => (examboardref47_covers.f k a s).bind fun t223 => (if t223 = true then ((examboardref47_covers.f k b s).bind fun t225 => (examboardref47_minus.j1 k a b e out i t225)) else (examboardref47_minus.j1 k a b e out i true))) (fun k => ?_) ?_
      · rw [examboardref47_minus.l0, hw, if_pos hlt1, if_pos h0, if_pos hlt, hs]
      · refine Ev.bind (rcov_ev a (by omega) s) ?_
        cases h1 : covB a s
        · rw [h1] at hf
          obtain rfl : flag = true := by rw [hf]; rfl
          exact Ev.congr (f := fun k => examboardref47_minus.j1 k a b e out i true) (fun k => if_neg (by simp)) h
        · rw [h1] at hf
          refine Ev.congr (f := fun k => (examboardref47_covers.f k b s).bind fun t225 => (examboardref47_minus.j1 k a b e out i t225)) (fun k => if_pos rfl) ?_
          refine Ev.bind (rcov_ev b (by omega) s) ?_
          have : flag = covB b s := by rw [hf]; simp
          rw [← this]
          exact h
    by_cases hcond : cov a s ∧ ¬ cov b s
    · have hflag : false = (!covB a s || covB b s) := by
        rw [(covB_iff a s).2 hcond.1]
        cases h : covB b s
        · rfl
        · exact absurd ((covB_iff b s).1 h) hcond.2
      -- the new pieces cover what they should
      have newcov : ∀ out' : List S33, (∀ x, cov out' x ↔ cov out x ∨ (s ≤ x ∧ x < t)) → ∀ x, cov out' x ↔ (cov a x ∧ ¬ cov b x) ∧ x < t := fun out' h x => by
        rw [h, hc]
        constructor
        · rintro (h1 | h1)
          · exact ⟨h1.1, by omega⟩
          · exact ⟨⟨(pa h1.1 h1.2).2 hcond.1, fun h2 => hcond.2 ((pb h1.1 h1.2).1 h2)⟩, h1.2⟩
        · rintro ⟨h1, h2⟩
          rcases Int.lt_or_le x s with h3 | h3
          · exact .inl ⟨h1, h3⟩
          · exact .inr ⟨h3, h2⟩
      -- appending the piece
      have app : (∀ q ∈ out, q.f1 < s) → (∀ k, examboardref47_minus.j1 (k + 1) a b e out i false = examboardref47_minus.l0 k a b e (out ++ [⟨s, t⟩]) (i + 1)) →
          ∃ r, Ev (fun k => examboardref47_minus.l0 k a b e out i) r ∧ Norm r ∧ (∀ x, cov r x ↔ cov a x ∧ ¬ cov b x) ∧ r.length ≤ e.length := fun hlt' hk => by
        obtain ⟨r, hr, h2⟩ := next (out ++ [⟨s, t⟩]) (norm_mk hn hst hlt') (fun q hq' => by
          rcases List.mem_append.1 hq' with h | h
          · have := hq q h; omega
          · rw [List.mem_singleton.1 h]; exact Int.le_refl _) (by rw [List.length_append, List.length_singleton]; omega) (newcov _ (fun x => by
            rw [cov_append, cov_cons]
            constructor
            · rintro (h | h | h)
              · exact .inl h
              · exact .inr h
              · exact absurd h (cov_nil _)
            · rintro (h | h)
              · exact .inl h
              · exact .inr (.inl h)))
        exact ⟨r, start false hflag r (Ev.step hk hr), h2⟩
      rcases List.eq_nil_or_concat out with rfl | ⟨init, c, rfl⟩
      · refine app (fun q hq' => by cases hq') (fun k => ?_)
        rw [examboardref47_minus.j1, if_neg (by simp), if_neg (by simp), if_pos h0, if_pos hlt, hw, if_pos (by omega), if_pos hlt1, if_pos (by simp), hs, ht]
      · rw [List.concat_eq_append] at *
        obtain ⟨n1, n2, n3⟩ := norm_snoc hn
        have hcq := hq c (List.mem_append_right _ List.mem_cons_self)
        have hlen : ((init ++ [c]).length : Int) = (init.length : Int) + 1 := by simp
        have hw2 : wrap64 ((init.length : Int) + 1 - 1) = (init.length : Int) := by
          rw [wrap_id (by omega) (by omega)]; omega
        by_cases hj : c.f1 = s
        · obtain ⟨r, hr, h2⟩ := next (init ++ [⟨c.f0, t⟩]) (norm_mk n1 (by show c.f0 < t; omega) n3) (fun q hq' => by
            rcases List.mem_append.1 hq' with h | h
            · have := n3 q h; omega
            · rw [List.mem_singleton.1 h]; exact Int.le_refl _) (by rw [List.length_append, List.length_singleton]; omega) (newcov _ (fun x => by
              rw [cov_append, cov_append, cov_cons, cov_cons]
              show cov init x ∨ (c.f0 ≤ x ∧ x < t) ∨ _ ↔ _
              constructor
              · rintro (h | h | h)
                · exact .inl (.inl h)
                · rcases Int.lt_or_le x s with h3 | h3
                  · exact .inl (.inr (.inl ⟨h.1, by omega⟩))
                  · exact .inr ⟨h3, h.2⟩
                · exact absurd h (cov_nil _)
              · rintro ((h | h | h) | h)
                · exact .inl h
                · exact .inr (.inl ⟨h.1, by omega⟩)
                · exact absurd h (cov_nil _)
                · exact .inr (.inl ⟨by omega, h.2⟩)))
          refine ⟨r, start false hflag r (Ev.step (f := fun k => examboardref47_minus.l0 k a b e (init ++ [⟨c.f0, t⟩]) (i + 1)) (fun k => ?_) hr), h2⟩
          rw [examboardref47_minus.j1, if_neg (by simp), hlen, if_pos (by omega), hw2, if_pos (by omega), if_pos (by omega), if_pos h0, if_pos hlt, rd_last init c _ rfl, hs, if_pos hj, hw, if_pos (by omega), if_pos hlt1, ht, set_last init c _ _ rfl]
        · refine app (fun q hq' => ?_) (fun k => ?_)
          · rcases List.mem_append.1 hq' with h | h
            · have := n3 q h; omega
            · rw [List.mem_singleton.1 h]; omega
          · rw [examboardref47_minus.j1, if_neg (by simp), hlen, if_pos (by omega), hw2, if_pos (by omega), if_pos (by omega), if_pos h0, if_pos hlt, rd_last init c _ rfl, hs, if_neg hj, hw, if_pos (by omega), if_pos hlt1, if_pos (by rw [List.length_append, List.length_singleton]; omega), ht]
    · have hflag : true = (!covB a s || covB b s) := by
        cases h : covB a s
        · rfl
        · cases h' : covB b s
          · exact absurd ⟨(covB_iff a s).1 h, fun h2 => by rw [(covB_iff b s).2 h2] at h'; cases h'⟩ hcond
          · rfl
      obtain ⟨r, hr, h2⟩ := next out hn (fun q hq' => by have := hq q hq'; omega) (by omega) (fun x => by
        rw [hc]
        constructor
        · rintro ⟨h1, h2⟩
          exact ⟨h1, by omega⟩
        · rintro ⟨h1, h2⟩
          refine ⟨h1, ?_⟩
          rcases Int.lt_or_le x s with h3 | h3
          · exact h3
          · exact absurd ⟨(pa h3 h2).1 h1.1, fun h4 => h1.2 ((pb h3 h2).2 h4)⟩ hcond)
      refine ⟨r, start true hflag r (Ev.step (f := fun k => examboardref47_minus.l0 k a b e out (i + 1)) (fun k => ?_) hr), h2⟩
      rw [examboardref47_minus.j1, if_pos rfl, hw]
theorem rminus_ev (a b : List S33) (ha : a.length ≤ 300) (hb : b.length ≤ 300) (ia : InT a) (ib : InT b) :
    ∃ r, Ev (fun k => examboardref47_minus.f k a b) r ∧ Norm r ∧ (∀ x, cov r x ↔ cov a x ∧ ¬ cov b x) ∧ r.length ≤ 2000 := by
  obtain ⟨e, h1, h2, h3, h4⟩ := ends_ev (a ++ b) (by rw [List.length_append]; omega) (fun p hp => by
    rcases List.mem_append.1 hp with hp | hp
    · exact ia p hp
    · exact ib p hp)
  rw [List.length_append] at h4
  have go : ∀ r, Ev (fun k => examboardref47_minus.l0 k a b e [] 0) r → Ev (fun k => examboardref47_minus.f k a b) r := fun r hr => by
    refine Ev.congr (f := fun k => (examboardref47_ends.f k (a ++ b)).bind fun t => examboardref47_minus.l0 k a b t [] 0) (fun k => ?_) (Ev.bind h1 hr)
    unfold examboardref47_minus.f
    simp only [Option.bind_some, List.nil_append, List.length_nil, Nat.zero_add]
    rw [if_pos (by omega), if_pos (by omega)]
  cases he : e with
  | nil =>
    have hno : ∀ p ∈ a, False := fun p hp => by
      have := (h3 p.f0).2 ((mem_vals _ _).2 ⟨p, List.mem_append_left _ hp, .inl rfl⟩)
      rw [he] at this
      cases this
    refine ⟨[], go [] ?_, trivial, fun x => ⟨fun h => absurd h (cov_nil _), ?_⟩, by simp⟩
    · rw [he]
      refine Ev.step (f := fun _ => some []) (fun k => ?_) (Ev.now _)
      rw [examboardref47_minus.l0, if_neg (by rw [wrap_id (by omega) (by omega)]; simp)]
    · rintro ⟨⟨p, hp, _⟩, _⟩
      exact absurd hp (fun h => hno p h)
  | cons v e' =>
    have hl : 0 < e.length := by rw [he]; simp
    have h0 := last_vals
    obtain ⟨hi, e1⟩ := rdi_get e 0 (Int.le_refl _) (by omega)
    have hmin : ∀ w ∈ e, rd e 0 ≤ w := fun w hw => by
      rw [e1]
      obtain ⟨n, hn, rfl⟩ := List.getElem_of_mem hw
      rcases Nat.eq_zero_or_pos n with rfl | h
      · exact Int.le_refl _
      · have := List.pairwise_iff_getElem.1 h2 0 n hl hn h
        show e[0] ≤ e[n]
        omega
    obtain ⟨r, r1, r2, r3, r4⟩ := rminus_loop a b (by omega) (by omega) e (by omega) h2 h3 (e.length - 1) 0 [] (Int.le_refl _) (by omega) trivial (fun q hq => by cases hq) (by simp) (fun x => ⟨fun h => absurd h (cov_nil _), fun h => by
      obtain ⟨p, hp, h5⟩ := h.1.1
      have := hmin p.f0 ((h3 _).2 ((mem_vals _ _).2 ⟨p, List.mem_append_left _ hp, .inl rfl⟩))
      have := h.2
      omega⟩)
    exact ⟨r, go r r1, r2, r3, by omega⟩
theorem rUnion_ev (a : List S33) (h : chk [a] = 0) : ∃ r, Ev (fun k => examboardref47_Union.f k a) (r, 0) ∧ Norm r ∧ (∀ x, cov r x ↔ cov a x) ∧ r.length ≤ 2000 := by
  have ha := chk_zero h a (by simp)
  obtain ⟨r, r1, r2, r3, r4⟩ := rminus_ev a [] ha.1 (by simp) (fun p hp => (ha.2 p hp).1) (fun p hp => by cases hp)
  refine ⟨r, ?_, r2, fun x => (r3 x).trans ⟨fun h => h.1, fun h => ⟨h, cov_nil _⟩⟩, r4⟩
  refine Ev.congr (f := fun k => (examboardref47_check.f k a []).bind fun t => if t = 0 then ((examboardref47_minus.f k a []).bind fun u => some (u, 0)) else some ([], t)) (fun k => rfl) ?_
  refine Ev.bind (rcheck_ev a []) ?_
  rw [← chk_one, h]
  exact Ev.congr (f := fun k => (examboardref47_minus.f k a []).bind fun u => some (u, 0)) (fun k => if_pos rfl) (Ev.bind r1 (Ev.now _))
theorem rUnion_err (a : List S33) (h : chk [a] ≠ 0) : Ev (fun k => examboardref47_Union.f k a) ([], chk [a]) := by
  refine Ev.congr (f := fun k => (examboardref47_check.f k a []).bind fun t => if t = 0 then ((examboardref47_minus.f k a []).bind fun u => some (u, 0)) else some ([], t)) (fun k => rfl) ?_
  refine Ev.bind (rcheck_ev a []) ?_
  rw [← chk_one]
  exact Ev.congr (f := fun _ => some ([], chk [a])) (fun k => if_neg h) (Ev.now _)
theorem rMinus_ev (a b : List S33) (h : chk [a, b] = 0) : ∃ r, Ev (fun k => examboardref47_Minus.f k a b) (r, 0) ∧ Norm r ∧ (∀ x, cov r x ↔ cov a x ∧ ¬ cov b x) ∧ r.length ≤ 2000 := by
  have ha := chk_zero h a (by simp)
  have hb := chk_zero h b (by simp)
  obtain ⟨r, r1, r2, r3, r4⟩ := rminus_ev a b ha.1 hb.1 (fun p hp => (ha.2 p hp).1) (fun p hp => (hb.2 p hp).1)
  refine ⟨r, ?_, r2, r3, r4⟩
  refine Ev.congr (f := fun k => (examboardref47_check.f k a b).bind fun t => if t = 0 then ((examboardref47_minus.f k a b).bind fun u => some (u, 0)) else some ([], t)) (fun k => rfl) ?_
  refine Ev.bind (rcheck_ev a b) ?_
  rw [h]
  exact Ev.congr (f := fun k => (examboardref47_minus.f k a b).bind fun u => some (u, 0)) (fun k => if_pos rfl) (Ev.bind r1 (Ev.now _))
theorem rMinus_err (a b : List S33) (h : chk [a, b] ≠ 0) : Ev (fun k => examboardref47_Minus.f k a b) ([], chk [a, b]) := by
  refine Ev.congr (f := fun k => (examboardref47_check.f k a b).bind fun t => if t = 0 then ((examboardref47_minus.f k a b).bind fun u => some (u, 0)) else some ([], t)) (fun k => rfl) ?_
  refine Ev.bind (rcheck_ev a b) ?_
  exact Ev.congr (f := fun _ => some ([], chk [a, b])) (fun k => if_neg h) (Ev.now _)
theorem rtotal_loop (u : List S33) (hu : u.length ≤ 10000) (hin : InT u) : ∀ (d : Nat) (i x : Int) (k : Nat), 0 ≤ i → (u.length : Int) - i = d → -(i * 1099511627776) ≤ x → x ≤ i * 1099511627776 → d < k →
    examboardref47_Total.l0 k u x i = some (x + len (u.drop i.toNat), 0) := by
  intro d
  induction d with
  | zero =>
    intro i x k h0 hd hx0 hx1 hk
    obtain ⟨k, rfl⟩ : ∃ m, k = m + 1 := ⟨k - 1, by omega⟩
    rw [examboardref47_Total.l0, if_neg (by omega), List.drop_eq_nil_of_le (by omega)]
    simp [len]
  | succ d ih =>
    intro i x k h0 hd hx0 hx1 hk
    obtain ⟨k, rfl⟩ : ∃ m, k = m + 1 := ⟨k - 1, by omega⟩
    have hlt : i < (u.length : Int) := by omega
    have hi := hin _ (rd_mem u i h0 hlt)
    have e : len (rd_T33 u i :: u.drop (i + 1).toNat) = ((rd_T33 u i).f1 - (rd_T33 u i).f0) + len (u.drop (i + 1).toNat) := rfl
    rw [examboardref47_Total.l0, if_pos hlt, if_pos h0, rd_drop u i h0 hlt, e, wrap_id (x := i + 1) (by omega) (by omega), wrap_id (x := x + (rd_T33 u i).f1) (by omega) (by omega), wrap_id (x := x + (rd_T33 u i).f1 - (rd_T33 u i).f0) (by omega) (by omega)]
    rw [ih (i + 1) _ k (by omega) (by omega) (by omega) (by omega) (by omega)]
    congr 2
    omega
theorem rTotal_ev (a : List S33) (h : chk [a] = 0) : ∃ r, Norm r ∧ (∀ x, cov r x ↔ cov a x) ∧ Ev (fun k => examboardref47_Total.f k a) (len r, 0) := by
  have ha := chk_zero h a (by simp)
  obtain ⟨r, r1, r2, r3, r4⟩ := rUnion_ev a h
  refine ⟨r, r2, r3, ?_⟩
  have hin : InT r := inT_of_cov (fun p hp => (ha.2 p hp).1) r2 (fun x hx => (r3 x).1 hx)
  refine Ev.congr (f := fun k => (examboardref47_Union.f k a).bind fun u => if u.2 = 0 then examboardref47_Total.l0 k u.1 0 0 else some (0, u.2)) (fun k => rfl) ?_
  refine Ev.bind r1 ?_
  refine Ev.congr (f := fun k => examboardref47_Total.l0 k r 0 0) (fun k => if_pos rfl) ⟨r.length + 1, fun k hk => ?_⟩
  have := rtotal_loop r (by omega) hin r.length 0 0 k (by omega) (by omega) (by omega) (by omega) (by omega)
  rw [Int.zero_add] at this
  exact this
theorem rTotal_err (a : List S33) (h : chk [a] ≠ 0) : Ev (fun k => examboardref47_Total.f k a) (0, chk [a]) := by
  refine Ev.congr (f := fun k => (examboardref47_Union.f k a).bind fun u => if u.2 = 0 then examboardref47_Total.l0 k u.1 0 0 else some (0, u.2)) (fun k => rfl) ?_
  refine Ev.bind (rUnion_err a h) ?_
  exact Ev.congr (f := fun _ => some (0, chk [a])) (fun k => if_neg h) (Ev.now _)

theorem middling_is (l : List S33) : examboardlaw47_middling.f l = some (decide (60 < l.length ∧ l.length ≤ 300)) := by
  unfold examboardlaw47_middling.f
  by_cases h : (l.length : Int) > 60
  · rw [if_pos h]
    congr 1
    rw [decide_eq_decide]
    omega
  · rw [if_neg h]
    congr 1
    rw [eq_comm, decide_eq_false_iff_not]
    omega
theorem covers_j2 (hS : Sorts) (a : List S33) : Ev (fun k => examboardlaw47_TimingCovers.j2 k a false) true := by
  refine Ev.step (f := fun k => (timing_Total.f k a).bind fun bt274 => ((examboardref47_Total.f k a).bind fun bt276 => (if bt274.1 = bt276.1 then (some (bt274.2 == bt276.2)) else (some false)))) (fun k => by rw [examboardlaw47_TimingCovers.j2, if_neg (by simp)]) ?_
  by_cases h : chk [a] = 0
  · have ha := chk_zero h a (by simp)
    obtain ⟨u1, u2, u3⟩ := un_spec hS a (fun p hp => (ha.2 p hp).2)
    obtain ⟨r, r1, r2, r3⟩ := rTotal_ev a h
    have e : un a = r := norm_unique _ _ u1 r1 (fun x => (u2 x).trans (r2 x).symm)
    refine Ev.bind (Total_ev hS a h) (Ev.bind r3 ?_)
    rw [e]
    exact Ev.congr (f := fun _ => some true) (fun k => if_pos rfl) (Ev.now _)
  · refine Ev.bind (Total_err a h) (Ev.bind (rTotal_err a h) ?_)
    exact Ev.congr (f := fun _ => some true) (fun k => by rw [if_pos rfl, beq_self_eq_true]) (Ev.now _)
theorem covers_j1 (hS : Sorts) (a b : List S33) : Ev (fun k => examboardlaw47_TimingCovers.j1 k a b false) true := by
  refine Ev.step (f := fun k => (timing_Minus.f k a b).bind fun bt265 => ((examboardref47_Minus.f k a b).bind fun bt269 => (if bt265.2 = bt269.2 then ((examboardlaw47_pairs.f k bt265.1 bt269.1).bind fun t273 => (examboardlaw47_TimingCovers.j2 k a (!t273))) else (examboardlaw47_TimingCovers.j2 k a true)))) (fun k => by rw [examboardlaw47_TimingCovers.j1, if_neg (by simp)]) ?_
  by_cases h : chk [a, b] = 0
  · obtain ⟨m1, m2, m3⟩ := minusL_spec hS a b h
    obtain ⟨r, r1, r2, r3, r4⟩ := rMinus_ev a b h
    have e : minusL (un a) (un b) = r := norm_unique _ _ m1 r2 (fun x => (m2 x).trans (r3 x).symm)
    refine Ev.bind (minus_ev hS a b h) (Ev.bind r1 ?_)
    rw [e]
    refine Ev.congr (f := fun k => (examboardlaw47_pairs.f k r r).bind fun t273 => (examboardlaw47_TimingCovers.j2 k a (!t273))) (fun k => if_pos rfl) ?_
    exact Ev.bind (pairs_ev r (by omega)) (covers_j2 hS a)
  · refine Ev.bind (minus_err a b h) (Ev.bind (rMinus_err a b h) ?_)
    refine Ev.congr (f := fun k => (examboardlaw47_pairs.f k [] []).bind fun t273 => (examboardlaw47_TimingCovers.j2 k a (!t273))) (fun k => if_pos rfl) ?_
    exact Ev.bind (pairs_ev [] (by simp)) (covers_j2 hS a)
theorem covers_j0 (hS : Sorts) (a b : List S33) (flag : Bool) : Ev (fun k => examboardlaw47_TimingCovers.j0 k a b flag) true := by
  cases flag with
  | true => exact Ev.step (f := fun _ => some true) (fun k => by rw [examboardlaw47_TimingCovers.j0, if_pos rfl]) (Ev.now _)
  | false =>
    refine Ev.step (f := fun k => (timing_Union.f k a).bind fun bt256 => ((examboardref47_Union.f k a).bind fun bt260 => (if bt256.2 = bt260.2 then ((examboardlaw47_pairs.f k bt256.1 bt260.1).bind fun t264 => (examboardlaw47_TimingCovers.j1 k a b (!t264))) else (examboardlaw47_TimingCovers.j1 k a b true)))) (fun k => by rw [examboardlaw47_TimingCovers.j0, if_neg (by simp)]) ?_
    by_cases h : chk [a] = 0
    · have ha := chk_zero h a (by simp)
      obtain ⟨u1, u2, u3⟩ := un_spec hS a (fun p hp => (ha.2 p hp).2)
      obtain ⟨r, r1, r2, r3, r4⟩ := rUnion_ev a h
      have e : un a = r := norm_unique _ _ u1 r2 (fun x => (u2 x).trans (r3 x).symm)
      refine Ev.bind (Union_ev hS a h) (Ev.bind r1 ?_)
      rw [e]
      refine Ev.congr (f := fun k => (examboardlaw47_pairs.f k r r).bind fun t264 => (examboardlaw47_TimingCovers.j1 k a b (!t264))) (fun k => if_pos rfl) ?_
      exact Ev.bind (pairs_ev r (by omega)) (covers_j1 hS a b)
    · refine Ev.bind (Union_err a h) (Ev.bind (rUnion_err a h) ?_)
      refine Ev.congr (f := fun k => (examboardlaw47_pairs.f k [] []).bind fun t264 => (examboardlaw47_TimingCovers.j1 k a b (!t264))) (fun k => if_pos rfl) ?_
      exact Ev.bind (pairs_ev [] (by simp)) (covers_j1 hS a b)
theorem TimingCovers_ev (hS : Sorts) (a b : List S33) : ∃ k, examboardlaw47_TimingCovers.f k a b = some true := by
  refine Ev.rounds (g := fun k => examboardlaw47_TimingCovers.f k a b) ?_
  refine Ev.congr (f := fun k => if decide (60 < a.length ∧ a.length ≤ 300) = true then (examboardlaw47_TimingCovers.j0 k a b true) else examboardlaw47_TimingCovers.j0 k a b (decide (60 < b.length ∧ b.length ≤ 300))) (fun k => ?_) ?_
  · unfold examboardlaw47_TimingCovers.f
    rw [middling_is, middling_is]
    rfl
  · cases decide (60 < a.length ∧ a.length ≤ 300)
    · exact Ev.congr (f := fun k => examboardlaw47_TimingCovers.j0 k a b (decide (60 < b.length ∧ b.length ≤ 300))) (fun k => if_neg (by simp)) (covers_j0 hS a b _)
    · exact Ev.congr (f := fun k => examboardlaw47_TimingCovers.j0 k a b true) (fun k => if_pos rfl) (covers_j0 hS a b _)
theorem TimingCovers (a b : List S33) : ∃ k, examboardlaw47_TimingCovers.f k a b = some true := TimingCovers_ev sortP_sorts a b
end Go.Proofs.Ytjopendipackpaa.PureTim
