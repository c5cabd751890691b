/- The plain law behind TimingUnion: a second belongs to the union exactly if it belongs to an interval; what is covered several times counts once. No condition. -/
import Derived.Test.YtjopendipackpaaPTimx20
import Derived.Test.YtjopendipackpaaPureTimU
namespace Go.Proofs.Ytjopendipackpaa.PureTim
open Go.RowKit Go.Proofs.Ytjopendipackpaa.PTim Go.Proofs.YtjopendipackpaaW.PrintWords Go.Proofs.YtjopendipackpaaW.PrintLast Go.Proofs.YtjopendipackpaaW.PrintMore
set_option linter.unusedVariables false

theorem lcov_loop (l : List S33) (hl : l.length ≤ 1000000) (x : Int) : ∀ (d : Nat) (i : Int) (k : Nat), 0 ≤ i → (l.length : Int) - i = d → d < k →
    examboardlaw47_covers.l0 k l x i = some (covB (l.drop i.toNat) x) := by
  intro d
  induction d with
  | zero =>
    intro i k h0 hd hk
    obtain ⟨k, rfl⟩ : ∃ m, k = m + 1 := ⟨k - 1, by omega⟩
    rw [examboardlaw47_covers.l0, if_neg (by omega), List.drop_eq_nil_of_le (by omega)]
    rfl
  | succ d ih =>
    intro i k h0 hd hk
    obtain ⟨k, rfl⟩ : ∃ m, k = m + 1 := ⟨k - 1, by omega⟩
    have hlt : i < (l.length : Int) := by omega
    have e : covB (rd_T33 l i :: l.drop (i + 1).toNat) x = ((decide ((rd_T33 l i).f0 ≤ x) && decide (x < (rd_T33 l i).f1)) || covB (l.drop (i + 1).toNat) x) := rfl
    rw [examboardlaw47_covers.l0, if_pos hlt, if_pos h0, rd_drop l i h0 hlt, e, wrap_id (x := i + 1) (by omega) (by omega), ih (i + 1) k (by omega) (by omega) (by omega)]
    by_cases h1 : (rd_T33 l i).f0 ≤ x
    · by_cases h2 : x < (rd_T33 l i).f1
      · rw [if_pos h1, if_pos h2, decide_eq_true h1, decide_eq_true h2]; rfl
      · rw [if_pos h1, if_neg h2, decide_eq_false h2, Bool.and_false, Bool.false_or]
    · rw [if_neg h1, decide_eq_false h1, Bool.false_and, Bool.false_or]
theorem lcov_ev (l : List S33) (hl : l.length ≤ 1000000) (x : Int) : Ev (fun k => examboardlaw47_covers.f k l x) (covB l x) :=
  ⟨l.length + 1, fun k hk => lcov_loop l hl x l.length 0 k (by omega) (by omega) (by omega)⟩
theorem norm_drop : ∀ (n : Nat) (l : List S33), Norm l → Norm (l.drop n)
  | 0, _, h => h
  | _ + 1, [], _ => trivial
  | n + 1, _ :: l, h => norm_drop n l h.2.2
theorem norm_next {l : List S33} (h : Norm l) (i : Int) (h0 : 0 < i) (h1 : i < (l.length : Int)) : (rd_T33 l (i - 1)).f1 < (rd_T33 l i).f0 := by
  have h2 := norm_drop (i - 1).toNat l h
  rw [rd_drop l (i - 1) (by omega) (by omega), show i - 1 + 1 = i by omega] at h2
  refine h2.2.1 _ ?_
  rw [rd_drop l i (by omega) h1]
  exact List.mem_cons_self
theorem normal_loop (l : List S33) (hl : l.length ≤ 1000000) (hn : Norm l) : ∀ (d : Nat) (i : Int) (k : Nat), 0 ≤ i → (l.length : Int) - i = d → d < k →
    examboardlaw47_normal.l0 k l i = some true := by
  intro d
  induction d with
  | zero =>
    intro i k h0 hd hk
    obtain ⟨k, rfl⟩ : ∃ m, k = m + 1 := ⟨k - 1, by omega⟩
    rw [examboardlaw47_normal.l0, if_neg (by omega)]
  | succ d ih =>
    intro i k h0 hd hk
    obtain ⟨k, rfl⟩ : ∃ m, k = m + 1 := ⟨k - 1, by omega⟩
    have hlt : i < (l.length : Int) := by omega
    have h1 := norm_lt hn _ (rd_mem l i h0 hlt)
    rw [examboardlaw47_normal.l0, if_pos hlt, if_pos h0, if_neg (by omega), wrap_id (x := i + 1) (by omega) (by omega), ih (i + 1) k (by omega) (by omega) (by omega)]
    by_cases h2 : i > 0
    · have h3 := norm_next hn i (by omega) hlt
      rw [if_pos h2, wrap_id (x := i - 1) (by omega) (by omega), if_pos (by omega), if_pos (by omega), if_neg (by omega)]
    · rw [if_neg h2]
theorem normal_ev (l : List S33) (hl : l.length ≤ 1000000) (hn : Norm l) : Ev (fun k => examboardlaw47_normal.f k l) true :=
  ⟨l.length + 1, fun k hk => normal_loop l hl hn l.length 0 k (by omega) (by omega) (by omega)⟩

theorem union_l0 (a b u m : List S33) (x f n all : Int) (hu : u.length ≤ 1000) (hin : InT u) (r : Bool) (hr : Ev (fun k => examboardlaw47_TimingUnion.l1 k a b x u m f n (len u) all 0) r) : ∀ (d : Nat) (i s : Int), 0 ≤ i → (u.length : Int) - i = d → -(i * 1099511627776) ≤ s → s ≤ i * 1099511627776 → s + len (u.drop i.toNat) = len u →
    Ev (fun k => examboardlaw47_TimingUnion.l0 k a b x u m f n s all i) r := by
  intro d
  induction d with
  | zero =>
    intro i s h0 hd hs0 hs1 hs
    rw [List.drop_eq_nil_of_le (by omega)] at hs
    obtain rfl : s = len u := by rw [← hs]; simp [len]
    refine Ev.step (f := fun k => examboardlaw47_TimingUnion.l1 k a b x u m f n (len u) all 0) (fun k => ?_) hr
    rw [examboardlaw47_TimingUnion.l0, if_neg (by omega)]
  | succ d ih =>
    intro i s h0 hd hs0 hs1 hs
    have hlt : i < (u.length : Int) := by omega
    have hi := hin _ (rd_mem u i h0 hlt)
    rw [rd_drop u i h0 hlt] at hs
    have e : len (rd_T33 u i :: u.drop (i + 1).toNat) = ((rd_T33 u i).f1 - (rd_T33 u i).f0) + len (u.drop (i + 1).toNat) := rfl
    rw [e] at hs
    refine Ev.step (f := fun k => examboardlaw47_TimingUnion.l0 k a b x u m f n (s + (rd_T33 u i).f1 - (rd_T33 u i).f0) all (i + 1)) (fun k => ?_) (ih (i + 1) _ (by omega) (by omega) (by omega) (by omega) (by omega))
    rw [examboardlaw47_TimingUnion.l0, if_pos hlt, if_pos h0, wrap_id (x := i + 1) (by omega) (by omega), wrap_id (x := s + (rd_T33 u i).f1) (by omega) (by omega), wrap_id (x := s + (rd_T33 u i).f1 - (rd_T33 u i).f0) (by omega) (by omega)]
theorem union_l1 (a b u m : List S33) (x f n : Int) (hu : u.length ≤ 1000) (ha : a.length ≤ 1000) (hin : InT a) (hv : ∀ p ∈ a, p.f0 < p.f1) (hc : ∀ y, cov u y ↔ cov a y) (hn : n ≤ len a) (hr : Ev (fun k => examboardlaw47_TimingUnion.j4 k a b x m f false) true) : ∀ (d : Nat) (i s : Int), 0 ≤ i → (a.length : Int) - i = d → -(i * 1099511627776) ≤ s → s ≤ i * 1099511627776 → s + len (a.drop i.toNat) = len a →
    Ev (fun k => examboardlaw47_TimingUnion.l1 k a b x u m f n n s i) true := by
  intro d
  induction d with
  | zero =>
    intro i s h0 hd hs0 hs1 hs
    rw [List.drop_eq_nil_of_le (by omega)] at hs
    obtain rfl : s = len a := by rw [← hs]; simp [len]
    refine Ev.step (f := fun k => examboardlaw47_TimingUnion.j4 k a b x m f false) (fun k => ?_) hr
    rw [examboardlaw47_TimingUnion.l1, if_neg (by omega), if_pos rfl, decide_eq_false (by omega)]
  | succ d ih =>
    intro i s h0 hd hs0 hs1 hs
    have hlt : i < (a.length : Int) := by omega
    have hmem := rd_mem a i h0 hlt
    have hi := hin _ hmem
    have hlt2 := hv _ hmem
    rw [rd_drop a i h0 hlt] at hs
    have e : len (rd_T33 a i :: a.drop (i + 1).toNat) = ((rd_T33 a i).f1 - (rd_T33 a i).f0) + len (a.drop (i + 1).toNat) := rfl
    rw [e] at hs
    have c1 : covB u (rd_T33 a i).f0 = true := (covB_iff _ _).2 ((hc _).2 ⟨_, hmem, Int.le_refl _, hlt2⟩)
    have c2 : covB u ((rd_T33 a i).f1 - 1) = true := (covB_iff _ _).2 ((hc _).2 ⟨_, hmem, by omega, by omega⟩)
    refine Ev.step (f := fun k => (examboardlaw47_covers.f k u ((rd_T33 a i).f0)).bind fun t308 => (if t308 = true then ((examboardlaw47_covers.f k u ((rd_T33 a i).f1 - 1)).bind fun t310 => (if t310 = true then (examboardlaw47_TimingUnion.l1 k a b x u m f n n (s + (rd_T33 a i).f1 - (rd_T33 a i).f0) (i + 1)) else (some false))) else (some false))) (fun k => ?_) ?_
    · rw [examboardlaw47_TimingUnion.l1, if_pos hlt, if_pos h0, wrap_id (x := i + 1) (by omega) (by omega), wrap_id (x := s + (rd_T33 a i).f1) (by omega) (by omega), wrap_id (x := s + (rd_T33 a i).f1 - (rd_T33 a i).f0) (by omega) (by omega), wrap_id (x := (rd_T33 a i).f1 - 1) (by omega) (by omega)]
    · refine Ev.bind (lcov_ev u (by omega) _) ?_
      rw [c1]
      refine Ev.congr (f := fun k => (examboardlaw47_covers.f k u ((rd_T33 a i).f1 - 1)).bind fun t310 => (if t310 = true then (examboardlaw47_TimingUnion.l1 k a b x u m f n n (s + (rd_T33 a i).f1 - (rd_T33 a i).f0) (i + 1)) else (some false))) (fun k => if_pos rfl) ?_
      refine Ev.bind (lcov_ev u (by omega) _) ?_
      rw [c2]
      exact Ev.congr (f := fun k => examboardlaw47_TimingUnion.l1 k a b x u m f n n (s + (rd_T33 a i).f1 - (rd_T33 a i).f0) (i + 1)) (fun k => if_pos rfl) (ih (i + 1) _ (by omega) (by omega) (by omega) (by omega) (by omega))
theorem union_j4 (a b m : List S33) (x f : Int) (ha : a.length ≤ 1000) (hb : b.length ≤ 1000) (hm : m.length ≤ 1000) (h : f = 0 → (cov m x ↔ cov a x ∧ ¬ cov b x)) : Ev (fun k => examboardlaw47_TimingUnion.j4 k a b x m f false) true := by
  by_cases hf : f = 0
  · have hc := h hf
    refine Ev.step (f := fun k => (examboardlaw47_covers.f k m x).bind fun t311 => ((examboardlaw47_covers.f k a x).bind fun t312 => (if t312 = true then ((examboardlaw47_covers.f k b x).bind fun t313 => (some (t311 == (!t313)))) else (some (t311 == false))))) (fun k => by rw [examboardlaw47_TimingUnion.j4, if_neg (by simp), if_pos hf]) ?_
    refine Ev.bind (lcov_ev m (by omega) x) (Ev.bind (lcov_ev a (by omega) x) ?_)
    cases h1 : covB a x
    · refine Ev.congr (f := fun _ => some true) (fun k => ?_) (Ev.now _)
      rw [if_neg (by simp)]
      have : covB m x = false := by
        cases h2 : covB m x
        · rfl
        · have := (hc.1 ((covB_iff _ _).1 h2)).1
          rw [← covB_iff, h1] at this
          cases this
      rw [this]
      rfl
    · refine Ev.congr (f := fun k => (examboardlaw47_covers.f k b x).bind fun t313 => (some (covB m x == (!t313)))) (fun k => if_pos rfl) (Ev.bind (lcov_ev b (by omega) x) ?_)
      have : (covB m x == !covB b x) = true := by
        rw [beq_iff_eq, Bool.eq_iff_iff, covB_iff, hc, Bool.not_eq_true', ← covB_iff a, h1]
        constructor
        · rintro ⟨_, h2⟩
          cases h3 : covB b x
          · rfl
          · exact absurd ((covB_iff _ _).1 h3) h2
        · intro h2
          refine ⟨rfl, fun h3 => ?_⟩
          rw [(covB_iff _ _).2 h3] at h2
          cases h2
      rw [this]
      exact Ev.now _
  · refine Ev.step (f := fun _ => some true) (fun k => ?_) (Ev.now _)
    rw [examboardlaw47_TimingUnion.j4, if_neg (by simp), if_neg hf]
theorem union_j0 (hS : Sorts) (a b : List S33) (x : Int) (ha : a.length ≤ 60) (hb : b.length ≤ 60) : Ev (fun k => examboardlaw47_TimingUnion.j0 k a b x false) true := by
  refine Ev.step (f := fun k => (timing_Union.f k a).bind fun bt289 => ((timing_Minus.f k a b).bind fun bt293 => ((timing_Total.f k a).bind fun bt297 => (if bt289.2 = 0 then (if bt297.2 = 0 then ((examboardlaw47_normal.f k bt289.1).bind fun t299 => (if t299 = true then ((examboardlaw47_normal.f k bt293.1).bind fun t300 => (if t300 = true then ((examboardlaw47_covers.f k bt289.1 x).bind fun t301 => ((examboardlaw47_covers.f k a x).bind fun t302 => (examboardlaw47_TimingUnion.j1 k a b x bt289.1 bt293.1 bt293.2 bt297.1 (t301 != t302)))) else (examboardlaw47_TimingUnion.j1 k a b x bt289.1 bt293.1 bt293.2 bt297.1 true))) else (examboardlaw47_TimingUnion.j1 k a b x bt289.1 bt293.1 bt293.2 bt297.1 true))) else (examboardlaw47_TimingUnion.j1 k a b x bt289.1 bt293.1 bt293.2 bt297.1 true)) else (if bt289.2 = bt297.2 then (if bt293.2 = 0 then (some false) else (if (bt289.1.length : Int) = 0 then (if (bt293.1.length : Int) = 0 then (some (bt297.1 == 0)) else (some false)) else (some false))) else (some false)))))) (fun k => by rw [examboardlaw47_TimingUnion.j0, if_neg (by simp)]) ?_
  by_cases h : chk [a] = 0
  · have va := chk_zero h a (by simp)
    obtain ⟨u1, u2, u3⟩ := un_spec hS a (fun p hp => (va.2 p hp).2)
    have hina : InT a := fun p hp => (va.2 p hp).1
    have hin : InT (un a) := inT_of_cov hina u1 (fun y hy => (u2 y).1 hy)
    -- whatever the difference is
    have main : ∀ (m : List S33) (f : Int), Ev (fun k => timing_Minus.f k a b) (m, f) → Norm m → m.length ≤ 1000 → (f = 0 → (cov m x ↔ cov a x ∧ ¬ cov b x)) → Ev (fun k => (timing_Minus.f k a b).bind fun bt293 => ((timing_Total.f k a).bind fun bt297 => (if (un a, (0 : Int)).2 = 0 then (if bt297.2 = 0 then ((examboardlaw47_normal.f k (un a, (0 : Int)).1).bind fun t299 => (if t299 = true then ((examboardlaw47_normal.f k bt293.1).bind fun t300 => (if t300 = true then ((examboardlaw47_covers.f k (un a, (0 : Int)).1 x).bind fun t301 => ((examboardlaw47_covers.f k a x).bind fun t302 => (examboardlaw47_TimingUnion.j1 k a b x (un a, (0 : Int)).1 bt293.1 bt293.2 bt297.1 (t301 != t302)))) else (examboardlaw47_TimingUnion.j1 k a b x (un a, (0 : Int)).1 bt293.1 bt293.2 bt297.1 true))) else (examboardlaw47_TimingUnion.j1 k a b x (un a, (0 : Int)).1 bt293.1 bt293.2 bt297.1 true))) else (examboardlaw47_TimingUnion.j1 k a b x (un a, (0 : Int)).1 bt293.1 bt293.2 bt297.1 true)) else (if (un a, (0 : Int)).2 = bt297.2 then (if bt293.2 = 0 then (some false) else (if ((un a, (0 : Int)).1.length : Int) = 0 then (if (bt293.1.length : Int) = 0 then (some (bt297.1 == 0)) else (some false)) else (some false))) else (some false))))) true := fun m f hm n1 n2 n3 => by
      refine Ev.bind hm (Ev.bind (Total_ev hS a h) ?_)
      refine Ev.congr (f := fun k => (examboardlaw47_normal.f k (un a)).bind fun t299 => (if t299 = true then ((examboardlaw47_normal.f k m).bind fun t300 => (if t300 = true then ((examboardlaw47_covers.f k (un a) x).bind fun t301 => ((examboardlaw47_covers.f k a x).bind fun t302 => (examboardlaw47_TimingUnion.j1 k a b x (un a) m f (len (un a)) (t301 != t302)))) else (examboardlaw47_TimingUnion.j1 k a b x (un a) m f (len (un a)) true))) else (examboardlaw47_TimingUnion.j1 k a b x (un a) m f (len (un a)) true))) (fun k => by rw [if_pos rfl, if_pos rfl]) ?_
      refine Ev.bind (normal_ev (un a) (by omega) u1) ?_
      refine Ev.congr (f := fun k => (examboardlaw47_normal.f k m).bind fun t300 => (if t300 = true then ((examboardlaw47_covers.f k (un a) x).bind fun t301 => ((examboardlaw47_covers.f k a x).bind fun t302 => (examboardlaw47_TimingUnion.j1 k a b x (un a) m f (len (un a)) (t301 != t302)))) else (examboardlaw47_TimingUnion.j1 k a b x (un a) m f (len (un a)) true))) (fun k => if_pos rfl) ?_
      refine Ev.bind (normal_ev m (by omega) n1) ?_
      refine Ev.congr (f := fun k => (examboardlaw47_covers.f k (un a) x).bind fun t301 => ((examboardlaw47_covers.f k a x).bind fun t302 => (examboardlaw47_TimingUnion.j1 k a b x (un a) m f (len (un a)) (t301 != t302)))) (fun k => if_pos rfl) ?_
      refine Ev.bind (lcov_ev (un a) (by omega) x) (Ev.bind (lcov_ev a (by omega) x) ?_)
      rw [covB_eq (u2 x), bne_self_eq_false]
      refine Ev.step (f := fun k => examboardlaw47_TimingUnion.l0 k a b x (un a) m f (len (un a)) 0 0 0) (fun k => by rw [examboardlaw47_TimingUnion.j1, if_neg (by simp)]) ?_
      refine union_l0 a b (un a) m x f (len (un a)) 0 (by omega) hin true ?_ (un a).length 0 0 (Int.le_refl _) (by omega) (by omega) (by omega) (by rw [Int.zero_add]; rfl)
      exact union_l1 a b (un a) m x f (len (un a)) (by omega) (by omega) hina (fun p hp => (va.2 p hp).2) u2 (len_le u1 hina (fun p hp => (va.2 p hp).2) u2) (union_j4 a b m x f (by omega) (by omega) n2 n3) a.length 0 0 (Int.le_refl _) (by omega) (by omega) (by omega) (by rw [Int.zero_add]; rfl)
    refine Ev.bind (Union_ev hS a h) ?_
    by_cases h2 : chk [a, b] = 0
    · obtain ⟨m1, m2, m3⟩ := minusL_spec hS a b h2
      exact main _ _ (minus_ev hS a b h2) m1 (by omega) (fun _ => m2 x)
    · exact main _ _ (minus_err a b h2) trivial (by simp) (fun h3 => absurd h3 h2)
  · have h2 : chk [a, b] ≠ 0 := fun h2 => h (chk_first h2)
    refine Ev.bind (Union_err a h) (Ev.bind (minus_err a b h2) (Ev.bind (Total_err a h) ?_))
    refine Ev.congr (f := fun _ => some true) (fun k => ?_) (Ev.now _)
    rw [if_neg h, if_pos rfl, if_neg h2]
    rfl
theorem TimingUnion_ev (hS : Sorts) (a b : List S33) (x : Int) : ∃ k, examboardlaw47_TimingUnion.f k a b x = some true := by
  refine Ev.rounds (g := fun k => examboardlaw47_TimingUnion.f k a b x) ?_
  have yes : Ev (fun k => examboardlaw47_TimingUnion.j0 k a b x true) true := Ev.step (f := fun _ => some true) (fun k => by rw [examboardlaw47_TimingUnion.j0, if_pos rfl]) (Ev.now _)
  by_cases ha : (a.length : Int) > 60
  · exact Ev.congr (f := fun k => examboardlaw47_TimingUnion.j0 k a b x true) (fun k => by unfold examboardlaw47_TimingUnion.f; rw [if_pos ha]) yes
  · by_cases hb : (b.length : Int) > 60
    · exact Ev.congr (f := fun k => examboardlaw47_TimingUnion.j0 k a b x true) (fun k => by unfold examboardlaw47_TimingUnion.f; rw [if_neg ha, decide_eq_true hb]) yes
    · exact Ev.congr (f := fun k => examboardlaw47_TimingUnion.j0 k a b x false) (fun k => by unfold examboardlaw47_TimingUnion.f; rw [if_neg ha, decide_eq_false hb]) (union_j0 hS a b x (by omega) (by omega))

theorem TimingUnion (a b : List S33) (x : Int) : ∃ k, examboardlaw47_TimingUnion.f k a b x = some true := TimingUnion_ev sortP_sorts a b x
end Go.Proofs.Ytjopendipackpaa.PureTim
