/- slices.Compact at incidents, on a row of one's own: of equal neighbours the first one stays. Condition: the row is read as told. -/
import Derived.Test.YtidehmfaebiebaaDoorPA
import Derived.Test.YtidehmfaebiebaaDoorSorted
import Derived.Test.YtidehmfaebiebaaDoorGSort
namespace Go.Proofs.YtidehmfaebiebaaDoor.PInc
open Go.RowKit Go.Proofs.YtidehmfaebiebaaDoorW.PrintWords Go.Proofs.YtidehmfaebiebaaDoorW.PrintLast Go.Proofs.YtidehmfaebiebaaDoorW.PrintMore
attribute [local go_sem high] eqA23
set_option linter.unusedVariables false
set_option linter.unusedSimpArgs false

instance : DecidableEq S23 := fun x y => by
  rcases x with ⟨a, b, c, d⟩
  rcases y with ⟨a', b', c', d'⟩
  by_cases h : a = a' ∧ b = b' ∧ c = c' ∧ d = d'
  · obtain ⟨rfl, rfl, rfl, rfl⟩ := h
    exact .isTrue rfl
  · exact .isFalse (fun e => by injection e with h1 h2 h3 h4; exact h ⟨h1, h2, h3, h4⟩)
/-- Of equal neighbours the first one. -/
def compP : List S23 → List S23
  | [] => []
  | [x] => [x]
  | x :: y :: r => if x = y then compP (y :: r) else x :: compP (y :: r)
theorem compP_ne (x : S23) (l : List S23) : compP (x :: l) ≠ [] := by
  induction l generalizing x with
  | nil => simp [compP]
  | cons y r ih =>
    rw [compP]
    split
    · exact ih y
    · simp
theorem compP_snoc (l : List S23) (y x : S23) (h : l.getLast? = some y) : compP (l ++ [x]) = if y = x then compP l else compP l ++ [x] := by
  induction l with
  | nil => simp at h
  | cons a t ih =>
    cases t with
    | nil =>
      simp at h
      subst h
      show compP [a, x] = if a = x then compP [a] else compP [a] ++ [x]
      by_cases e : a = x
      · simp [compP, e]
      · simp [compP, e]
    | cons b r =>
      have h' : (b :: r).getLast? = some y := by rw [List.getLast?_cons_cons] at h; exact h
      have := ih h'
      show compP (a :: b :: (r ++ [x])) = _
      rw [compP, compP]
      rw [show b :: (r ++ [x]) = (b :: r) ++ [x] from rfl, this]
      by_cases e : a = b
      · rw [if_pos e, if_pos e]
      · rw [if_neg e, if_neg e]
        by_cases e2 : y = x
        · rw [if_pos e2, if_pos e2]
        · rw [if_neg e2, if_neg e2]; rfl
theorem compP_le (l : List S23) : (compP l).length ≤ l.length := by
  induction l with
  | nil => exact Nat.le_refl _
  | cons a t ih =>
    cases t with
    | nil => exact Nat.le_refl _
    | cons b r =>
      rw [compP]
      split
      · exact Nat.le_succ_of_le ih
      · simp only [List.length_cons] at ih ⊢; omega
theorem compP_step (l : List S23) (m : Nat) (h0 : 1 ≤ m) (hm : m < l.length) : compP (l.take (m + 1)) = if rd_T23 l ((m : Int) - 1) = rd_T23 l (m : Int) then compP (l.take m) else compP (l.take m) ++ [rd_T23 l (m : Int)] := by
  have e1 : l.take (m + 1) = l.take m ++ [rd_T23 l (m : Int)] := by
    rw [List.take_add_one, List.getElem?_eq_getElem hm]
    simp [rd_T23, List.getD, List.getElem?_eq_getElem hm]
  have hm1 : m - 1 < l.length := by omega
  have e2 : (l.take m).getLast? = some (rd_T23 l ((m : Int) - 1)) := by
    rw [List.getLast?_eq_getElem?, List.length_take, Nat.min_eq_left (by omega), List.getElem?_take_of_lt (by omega), List.getElem?_eq_getElem hm1]
    have : ((m : Int) - 1).toNat = m - 1 := by omega
    simp [rd_T23, this, List.getD, List.getElem?_eq_getElem hm1]
  rw [e1, compP_snoc _ _ _ e2]

/-! ### The block's cells -/
def putL : Nat → List Value → List Value → List Value
  | _, [], c => c
  | o, v :: r, c => putL (o + 1) r (c.set o v)
theorem putL_length : ∀ (vs : List Value) (o : Nat) (c : List Value), (putL o vs c).length = c.length
  | [], _, _ => rfl
  | v :: r, o, c => by rw [putL, putL_length r, List.length_set]
theorem putL_out : ∀ (vs : List Value) (o : Nat) (c : List Value) (j : Nat), (j < o ∨ o + vs.length ≤ j) → (putL o vs c)[j]? = c[j]?
  | [], _, _, _, _ => rfl
  | v :: r, o, c, j, h => by
    rw [putL, putL_out r (o + 1) _ j (by simp only [List.length_cons] at h; omega), List.getElem?_set]
    rw [if_neg (by simp only [List.length_cons] at h; omega)]
theorem putL_in : ∀ (vs : List Value) (o : Nat) (c : List Value) (i : Nat), i < vs.length → o + i < c.length → (putL o vs c)[o + i]? = vs[i]?
  | [], _, _, i, h, _ => by simp at h
  | v :: r, o, c, 0, _, h2 => by
    rw [putL, putL_out r (o + 1) _ (o + 0) (by omega), List.getElem?_set]
    simp at h2
    simp [h2]
  | v :: r, o, c, i + 1, h1, h2 => by
    rw [putL, show o + (i + 1) = (o + 1) + i by omega, putL_in r (o + 1) _ i (by simpa using h1) (by rw [List.length_set]; omega)]
    simp
/-- Block g holds these cells; they are not frozen. -/
def Bk (w : World) (g : Nat) (cs : List Value) : Prop := w.heap[g]? = some (.cells cs.toArray 23 (0, 0))
theorem bk_setCells : ∀ (vs : List Value) (g o : Nat) (w : World) (cs : List Value), Bk w g cs → Bk (w.setCells g o vs) g (putL o vs cs)
  | [], _, _, _, _, h => h
  | v :: r, g, o, w, cs, h => by
    refine bk_setCells r g (o + 1) _ _ ?_
    unfold Bk at h ⊢
    rw [blk_set h o v]
    simp
theorem bk_cell {w : World} {g : Nat} {cs : List Value} (h : Bk w g cs) (j : Nat) : w.cell? ⟨g, j, none⟩ = cs[j]? := by
  rw [blk_cell h]; simp
/-- The cells hold the list, four to an element. -/
def Lay (cs : List Value) (d : List S23) : Prop := ∀ (j : Nat) (x : S23), d[j]? = some x → cs[j * 4]? = some (.int .i64 x.f0) ∧ cs[j * 4 + 1]? = some (.int .i64 x.f1) ∧ cs[j * 4 + 2]? = some (.int .i64 x.f2) ∧ cs[j * 4 + 3]? = some (.int .i64 x.f3)
theorem Lay.put {cs : List Value} {d : List S23} (h : Lay cs d) (hl : d.length * 4 ≤ cs.length) (i : Nat) (x : S23) : Lay (putL (i * 4) (encInc x) cs) (d.set i x) := by
  intro j y hj
  rw [List.getElem?_set] at hj
  by_cases e : i = j
  · subst e
    rw [if_pos rfl] at hj
    by_cases hi : i < d.length
    · rw [if_pos hi] at hj
      obtain rfl := Option.some.inj hj
      have h0 := putL_in (encInc x) (i * 4) cs 0 (by simp [encInc]) (by omega)
      have h1 := putL_in (encInc x) (i * 4) cs 1 (by simp [encInc]) (by omega)
      have h2 := putL_in (encInc x) (i * 4) cs 2 (by simp [encInc]) (by omega)
      have h3 := putL_in (encInc x) (i * 4) cs 3 (by simp [encInc]) (by omega)
      exact ⟨h0, h1, h2, h3⟩
    · rw [if_neg hi] at hj; cases hj
  · rw [if_neg e] at hj
    obtain ⟨h0, h1, h2, h3⟩ := h j y hj
    have hlen : (encInc x).length = 4 := rfl
    refine ⟨?_, ?_, ?_, ?_⟩
    · rw [putL_out _ _ _ _ (by rw [hlen]; omega)]; exact h0
    · rw [putL_out _ _ _ _ (by rw [hlen]; omega)]; exact h1
    · rw [putL_out _ _ _ _ (by rw [hlen]; omega)]; exact h2
    · rw [putL_out _ _ _ _ (by rw [hlen]; omega)]; exact h3
theorem Lay.low {cs : List Value} {d : List S23} (h : Lay cs d) (k : Nat) (vs : List Value) : Lay (putL (k * 4) vs cs) (d.take k) := by
  intro j x hj
  have hjk : j < k := by
    apply Classical.byContradiction
    intro hn
    rw [List.getElem?_take_eq_none (by omega)] at hj
    cases hj
  rw [List.getElem?_take_of_lt hjk] at hj
  obtain ⟨h0, h1, h2, h3⟩ := h j x hj
  refine ⟨?_, ?_, ?_, ?_⟩
  · rw [putL_out _ _ _ _ (by omega)]; exact h0
  · rw [putL_out _ _ _ _ (by omega)]; exact h1
  · rw [putL_out _ _ _ _ (by omega)]; exact h2
  · rw [putL_out _ _ _ _ (by omega)]; exact h3
theorem Lay.at {cs : List Value} {d : List S23} (h : Lay cs d) (i : Int) (h0 : 0 ≤ i) (h1 : i < (d.length : Int)) : cs[i.toNat * 4]? = some (.int .i64 (rd_T23 d i).f0) ∧ cs[i.toNat * 4 + 1]? = some (.int .i64 (rd_T23 d i).f1) ∧ cs[i.toNat * 4 + 2]? = some (.int .i64 (rd_T23 d i).f2) ∧ cs[i.toNat * 4 + 3]? = some (.int .i64 (rd_T23 d i).f3) := by
  have hi : i.toNat < d.length := by omega
  refine h i.toNat _ ?_
  simp [rd_T23, List.getD, List.getElem?_eq_getElem hi]
/-- From a row of one's own to its block, and back. -/
theorem lay_of {w : World} {base : Nat} {P0 : Nat → Prop} {u : Value} {l : List S23} (h : Kd.R k23 23 w base P0 u l) :
    (u = .slice none 0 0 ∧ l = []) ∨ ∃ g cap cs, u = .slice (some ⟨g, 0, none⟩) l.length cap ∧ base ≤ g ∧ P0 g ∧ Bk w g cs ∧ l.length ≤ cap ∧ cap ≤ maxLen ∧ cs.length = cap * 4 ∧ Lay cs l := by
  obtain ⟨h0, inner, hown, hreps⟩ := h
  rcases hown.2 with ⟨rfl, hn⟩ | ⟨g, cap, cur, rfl, hg, hb, hnc, hcm, hcs, htk⟩
  · exact .inl ⟨rfl, List.eq_nil_of_length_eq_zero hn⟩
  · refine .inr ⟨g, cap, cur.toList, rfl, hg, h0 g rfl, by unfold Bk; rw [Array.toArray_toList]; exact hb, hnc, hcm, by rw [Array.length_toList]; exact hcs, fun j x hj => ?_⟩
    have hx := k23_openM (hreps.2 j x hj)
    have hz : k23.sz = 4 := rfl
    rw [hz] at hx htk
    have hjl : j < l.length := (List.getElem?_eq_some_iff.1 hj).1
    have key : ∀ c, c < 4 → cur.toList[j * 4 + c]? = [Value.int .i64 x.f0, .int .i64 x.f1, .int .i64 x.f2, .int .i64 x.f3][c]? := by
      intro c hc
      rw [← hx, List.getElem?_take_of_lt hc, List.getElem?_drop, ← htk, List.getElem?_take_of_lt (by omega)]
    exact ⟨key 0 (by omega), key 1 (by omega), key 2 (by omega), key 3 (by omega)⟩
theorem of_lay {w : World} {base : Nat} {P0 : Nat → Prop} {l : List S23} {g cap : Nat} {cs : List Value} (hg : base ≤ g) (hP : P0 g) (hb : Bk w g cs) (hn : l.length ≤ cap) (hc : cap ≤ maxLen) (hs : cs.length = cap * 4) (hL : Lay cs l) :
    Kd.R k23 23 w base P0 (.slice (some ⟨g, 0, none⟩) l.length cap) l := by
  have hz : k23.sz = 4 := rfl
  refine ⟨fun k hk => by have : g = k := by simpa [Value.ownBlock] using hk
                         subst this; exact hP, cs.take (l.length * 4), ⟨?_, .inr ⟨g, cap, cs.toArray, rfl, hg, hb, hn, hc, by rw [hz]; simpa using hs, by rw [hz]⟩⟩, ?_⟩
  · rw [hz, List.length_take]
    omega
  · refine ⟨by rw [hz, List.length_take]; omega, fun j x hj => ?_⟩
    rw [hz]
    have hjl : j < l.length := (List.getElem?_eq_some_iff.1 hj).1
    obtain ⟨h0, h1, h2, h3⟩ := hL j x hj
    have e : ((cs.take (l.length * 4)).drop (j * 4)).take 4 = [Value.int .i64 x.f0, .int .i64 x.f1, .int .i64 x.f2, .int .i64 x.f3] := by
      apply List.ext_getElem?
      intro c
      by_cases hc : c < 4
      · rw [List.getElem?_take_of_lt hc, List.getElem?_drop, List.getElem?_take_of_lt (by omega)]
        rcases c with _ | _ | _ | _ | c
        · exact h0
        · exact h1
        · exact h2
        · exact h3
        · omega
      · rw [List.getElem?_take_eq_none (by omega), List.getElem?_eq_none (by simp; omega)]
    rw [e]
    exact k23_mkM _ _ _ _
/-- Nothing but block g has turned. -/
structure OnlyG (w w' : World) (g : Nat) : Prop where
  os : w'.os = w.os
  tape : w'.tape = w.tape
  output : w'.output = w.output
  size : w'.heap.size = w.heap.size
  block : ∀ j, j ≠ g → w'.heap[j]? = w.heap[j]?
theorem OnlyG.refl (w : World) (g : Nat) : OnlyG w w g := ⟨rfl, rfl, rfl, rfl, fun _ _ => rfl⟩
theorem OnlyG.drewN {w w' : World} {g : Nat} (h : OnlyG w w' g) (q : Nat) : OnlyG w (w'.drewN q) g := ⟨h.os, h.tape, h.output, h.size, h.block⟩
theorem OnlyG.drew {w w' : World} {g : Nat} (h : OnlyG w w' g) : OnlyG w w'.drew g := ⟨h.os, h.tape, h.output, h.size, h.block⟩
theorem OnlyG.set {w w' : World} {g : Nat} (h : OnlyG w w' g) (o : Nat) (v : Value) : OnlyG w (w'.setCell ⟨g, o, none⟩ v) g :=
  ⟨h.os, h.tape, h.output, by rw [← h.size]; simp [World.setCell], fun j hj => (Below.heap_setCell w' ⟨g, o, none⟩ v j hj).trans (h.block j hj)⟩
theorem OnlyG.sets {w : World} {g : Nat} : ∀ (vs : List Value) (o : Nat) (w' : World), OnlyG w w' g → OnlyG w (w'.setCells g o vs) g
  | [], _, _, h => h
  | v :: r, o, w', h => OnlyG.sets r (o + 1) _ (h.set o v)
theorem OnlyG.by_ {w w' : World} {g : Nat} (h : OnlyG w w' g) : w.grownBy w' (some g) :=
  ⟨h.os, h.tape, h.output, by rw [h.size]; exact Nat.le_refl _, fun k _ hne => h.block k (fun e => hne (by rw [e]))⟩
theorem bk_drewN {w : World} {g : Nat} {cs : List Value} (h : Bk w g cs) (q : Nat) : Bk (w.drewN q) g cs := h
theorem bk_frozen {w : World} {g : Nat} {cs : List Value} (h : Bk w g cs) (j : Nat) : w.frozen? ⟨g, j, none⟩ = false := blk_frozen h j
theorem read4 {w : World} {g : Nat} {cs : List Value} {d : List S23} (hb : Bk w g cs) (hL : Lay cs d) (j o : Nat) (x : S23) (hj : d[j]? = some x) (ho : j * 4 = o) :
    w.cell? ⟨g, o, none⟩ = some (.int .i64 x.f0) ∧ w.cell? ⟨g, o + 1, none⟩ = some (.int .i64 x.f1) ∧ w.cell? ⟨g, o + 2, none⟩ = some (.int .i64 x.f2) ∧ w.cell? ⟨g, o + 3, none⟩ = some (.int .i64 x.f3) := by
  subst ho
  rw [bk_cell hb, bk_cell hb, bk_cell hb, bk_cell hb]
  exact hL j x hj
theorem rd_some (l : List S23) (i : Int) (h0 : 0 ≤ i) (h1 : i < (l.length : Int)) : l[i.toNat]? = some (rd_T23 l i) := by
  have hi : i.toNat < l.length := by omega
  simp [rd_T23, List.getD, List.getElem?_eq_getElem hi]
theorem eq4 {u v : S23} (h : (!u.f0 == v.f0) = false ∧ (!u.f1 == v.f1) = false ∧ (!u.f2 == v.f2) = false ∧ (!u.f3 == v.f3) = false) : u = v := by
  obtain ⟨h0, h1, h2, h3⟩ := h
  rcases u with ⟨a, b, c, d⟩
  rcases v with ⟨a', b', c', d'⟩
  simp at h0 h1 h2 h3
  subst h0; subst h1; subst h2; subst h3
  rfl
theorem eq4b {u v : S23} (h : (u.f0 == v.f0) = true ∧ (u.f1 == v.f1) = true ∧ (u.f2 == v.f2) = true ∧ (u.f3 == v.f3) = true) : u = v := by
  obtain ⟨h0, h1, h2, h3⟩ := h
  refine eq4 ⟨by rw [h0]; rfl, by rw [h1]; rfl, by rw [h2]; rfl, by rw [h3]; rfl⟩
theorem take_set_succ (d : List S23) (i : Nat) (x : S23) (h : i < d.length) : (d.set i x).take (i + 1) = d.take i ++ [x] := by
  rw [List.take_add_one, List.getElem?_set_self h, List.take_set, List.set_eq_of_length_le (by rw [List.length_take]; omega)]
  rfl
theorem run_clear4 (w : World) (ty : TypeId) (g o n c : Nat) (hn : 0 < n) (cs : List Value) (hb : Bk w g cs) (hl : o + n * 4 ≤ cs.length) :
    (Builtin.clear_ #[24] ty #[.slice (some ⟨g, o, none⟩) n c]).run Tryd.prog w = .ok (.tuple #[]) (w.setCells g o (Builtin.zeroCells #[.int .i64 0, .int .i64 0, .int .i64 0, .int .i64 0] n).toList) := by
  have hz : (Builtin.zeroCells #[.int .i64 0, .int .i64 0, .int .i64 0, .int .i64 0] n).toList.length = n * 4 := by
    rw [Array.length_toList, size_zeroCells]; rfl
  have hone : ∀ v ∈ (Builtin.zeroCells #[Value.int .i64 0, .int .i64 0, .int .i64 0, .int .i64 0] n).toList, v.oneCell' = true := by
    intro v hv
    simp [Builtin.zeroCells] at hv
    obtain ⟨i, _, rfl⟩ := hv
    have hi : i % 4 < 4 := Nat.mod_lt _ (by omega)
    generalize i % 4 = j at hi
    rcases j with _ | _ | _ | _ | j
    · rfl
    · rfl
    · rfl
    · rfl
    · omega
  have hst := run_storeCells_cells (P := Tryd.prog) g o (Builtin.zeroCells #[.int .i64 0, .int .i64 0, .int .i64 0, .int .i64 0] n).toList 0 w
    (fun j hj => by rw [bk_cell hb, List.getElem?_eq_getElem (by rw [hz] at hj; omega)]; rfl) (fun j _ => bk_frozen hb _) hone
  simp only [Nat.add_zero] at hst
  obtain ⟨m, rfl⟩ : ∃ m, n = m + 1 := ⟨n - 1, by omega⟩
  simp [Builtin.clear_, run_underlying Tryd.underlying24, Tryd.zeroValue23, Value.cells, hst]
def compactInc.f (l0 : List S23) : Option (List S23) := some (compP l0)
set_option maxHeartbeats 8000000 in
set_option maxRecDepth 100000 in
theorem compactInc.calls (P0_ : Nat → Prop) (u : Value) (l0 : List S23) (r : List S23) (w0 w : World) (hB : Below w0.heap.size w0 w) (ho0 : Kd.R k23 23 w w0.heap.size P0_ u l0) (h : compactInc.f l0 = some r) :
    Calls Tryd.prog 35 #[u] w fun e w' => ∃ v1, e = .returned v1 ∧ Kd.R k23 23 w' w0.heap.size P0_ v1 r ∧ Below w0.heap.size w0 w' ∧ Kept w w' (fun k_ => P0_ k_) := by
  obtain rfl := Option.some.inj h
  clear h
  have hu23 := Tryd.underlying23
  rcases lay_of ho0 with ⟨rfl, rfl⟩ | ⟨g, cap, cs, rfl, hg, hP, hb, hn, hc, hs, hL⟩
  · go_enter Tryd.func35, Tryd.ntmps35
    go_wp2
    go_ret
    exact ⟨_, rfl, Kd.R_nil _ _ _ _ _, hB, Kept.refl _ _⟩
  · by_cases h2 : l0.length < 2
    · have HO := Aside0.mk ho0
      have HBB := Aside0.mk hB
      have h2i : (l0.length : Int) < 2 := by omega
      clear ho0 hb hL hs hc hn hB
      go_enter Tryd.func35, Tryd.ntmps35
      go_wp2
      go_ret
      have e : compP l0 = l0 := by
        match l0, h2 with
        | [], _ => rfl
        | [x], _ => rfl
      rw [e]
      exact ⟨_, rfl, HO.out, HBB.out, Kept.refl _ _⟩
    · have h2i : ¬ (l0.length : Int) < 2 := by omega
      have HB := Aside0.mk hB
      have HK := Aside0.mk hb
      have HL := Aside0.mk hL
      have HG := Aside0.mk hg
      have HPP := Aside0.mk hP
      have HN := Aside0.mk hn
      have HC := Aside0.mk hc
      have HS := Aside0.mk hs
      clear ho0 hb hL hs hc hn hB hg hP
      go_enter Tryd.func35, Tryd.ntmps35
      go_wp2
      go_loopg [3] l0.length (fun gk s3 wr => ∃ k q : Nat, s3 = .int .i64 k ∧ wr = w.drewN q ∧ Aside0 (1 ≤ k ∧ k ≤ l0.length ∧ l0.length - k ≤ gk ∧ compP (l0.take k) = l0.take k))
      case atStart => exact ⟨1, 0, rfl, rfl, ⟨⟨Nat.le_refl _, by omega, by omega, by
        match l0 with
        | [] => rfl
        | x :: t => rfl⟩⟩⟩
      case round =>
        obtain ⟨k, q, rfl, rfl, HI⟩ := hrel
        obtain ⟨hk1, hk2, hgk, hcomp⟩ := HI.out
        by_cases hlt : k < l0.length
        · have hli : (k : Int) < (l0.length : Int) := by omega
          have p0 : (0 : Int) ≤ k := by omega
          have p1 : (0 : Int) ≤ (k : Int) - 1 := by omega
          have p2 : (k : Int) - 1 < (l0.length : Int) := by omega
          have hw1 : wrap64 ((k : Int) - 1) = (k : Int) - 1 := by have h1 := HN.out; have h2 := HC.out; simp only [maxLen] at h2; unfold wrap64; omega
          obtain ⟨a0, a1, a2, a3⟩ := HL.out.at (k : Int) p0 hli
          obtain ⟨b0, b1, b2, b3⟩ := HL.out.at ((k : Int) - 1) p1 p2
          rw [show ((k : Int)).toNat = k from rfl] at a0 a1 a2 a3
          rw [show ((k : Int) - 1).toNat = k - 1 by omega] at b0 b1 b2 b3
          rw [← bk_cell HK.out] at a0 a1 a2 a3 b0 b1 b2 b3
          generalize hx : rd_T23 l0 (k : Int) = x at a0 a1 a2 a3
          generalize hy : rd_T23 l0 ((k : Int) - 1) = y at b0 b1 b2 b3
          by_cases hxy : x = y
          · subst hxy
            have hck : ¬ cap = k := by have := HN.out; omega
            go_wp2_with fail
            go_region
            go_wp2
            have X := Aside0.mk (And.intro hx hy)
            clear a0 a1 a2 a3 b0 b1 b2 b3 hx hy
            go_loopg [3, 5] l0.length (fun gk s3 s5 wr => ∃ (kk k2 : Nat) (dk : List S23) (cs2 : List Value), s3 = .int .i64 kk ∧ s5 = .int .i64 k2 ∧ Aside0 (1 ≤ k2 ∧ k + k2 ≤ l0.length ∧ l0.length - (k + k2) ≤ gk ∧ kk < k + k2 ∧ 1 ≤ kk) ∧ Aside0 (OnlyG w wr g) ∧ Aside0 (Bk wr g cs2) ∧ Aside0 (cs2.length = cs.length ∧ dk.length = l0.length ∧ Lay cs2 dk) ∧ Aside0 (dk.take kk = compP (l0.take (k + k2)) ∧ ∀ j, k + k2 - 1 ≤ j → dk[j]? = l0[j]?))
            case atStart => exact ⟨k, 1, l0, cs, rfl, rfl, ⟨⟨Nat.le_refl _, by omega, by omega, by omega, hk1⟩⟩, ⟨(OnlyG.refl w g).drewN _⟩, ⟨HK.out⟩, ⟨⟨rfl, rfl, HL.out⟩⟩, ⟨⟨by
              rw [compP_step l0 k hk1 hlt, X.out.1, X.out.2, if_pos rfl, hcomp], fun _ _ => rfl⟩⟩⟩
            case round =>
              obtain ⟨kk, k2, dk, cs2, rfl, rfl, HJ, HO, HK2, HL2, HQ⟩ := hrel
              obtain ⟨j1, j2, j3, j4, j5⟩ := HJ.out
              by_cases hlt2 : k + k2 < l0.length
              · have g0 : (0 : Int) ≤ k2 := by omega
                have g1 : (k2 : Int) < ((l0.length - k : Nat) : Int) := by omega
                have g2 : (0 : Int) ≤ (k2 : Int) - 1 := by omega
                have g3 : (k2 : Int) - 1 < ((l0.length - k : Nat) : Int) := by omega
                have g4 : k2 < l0.length - k := by omega
                have hw2 : wrap64 ((k2 : Int) - 1) = (k2 : Int) - 1 := by have h1 := HN.out; have h2 := HC.out; simp only [maxLen] at h2; unfold wrap64; omega
                have m0 : ((k + k2 : Nat) : Int) < (l0.length : Int) := by omega
                have hm := rd_some l0 ((k + k2 : Nat) : Int) (by omega) m0
                have hm1 := rd_some l0 (((k + k2 : Nat) : Int) - 1) (by omega) (by omega)
                rw [show (((k + k2 : Nat) : Int)).toNat = k + k2 from rfl] at hm
                rw [show (((k + k2 : Nat) : Int) - 1).toNat = k + k2 - 1 by omega] at hm1
                generalize hu : rd_T23 l0 ((k + k2 : Nat) : Int) = u at hm
                generalize hv : rd_T23 l0 (((k + k2 : Nat) : Int) - 1) = v at hm1
                have hm' := (HQ.out.2 (k + k2) (by omega)).trans hm
                have hm1' := (HQ.out.2 (k + k2 - 1) (Nat.le_refl _)).trans hm1
                obtain ⟨a0, a1, a2, a3⟩ := read4 HK2.out HL2.out.2.2 (k + k2) (k * 4 + k2 * 4) u hm' (by omega)
                obtain ⟨b0, b1, b2, b3⟩ := read4 HK2.out HL2.out.2.2 (k + k2 - 1) (k * 4 + (k2 - 1) * 4) v hm1' (by omega)
                have Y := Aside0.mk (And.intro hu hv)
                clear hu hv hm hm1 hm' hm1'
                have g5 : k2 - 1 < l0.length - k := by omega
                have hwk2 : Aside0 (wrap64 ((k2 : Int) + 1) = ((k2 + 1 : Nat) : Int)) := ⟨by have h1 := HN.out; have h2 := HC.out; simp only [maxLen] at h2; unfold wrap64; omega⟩
                have hwkk : Aside0 (wrap64 ((kk : Int) + 1) = ((kk + 1 : Nat) : Int)) := ⟨by have h1 := HN.out; have h2 := HC.out; simp only [maxLen] at h2; unfold wrap64; omega⟩
                by_cases huv : u = v
                · subst huv
                  go_wp2_with fail
                  go_region
                  go_wp2
                  go_roundg (l0.length - (k + (k2 + 1)))
                  case measure => omega
                  case rel => exact ⟨kk, k2 + 1, dk, cs2, rfl, by rw [hwk2.out], ⟨⟨by omega, by omega, Nat.le_refl _, by omega, j5⟩⟩, ⟨HO.out.drew⟩, ⟨HK2.out⟩, HL2, ⟨⟨by
                    have hst := compP_step l0 (k + k2) (by omega) hlt2
                    rw [Y.out.1, Y.out.2, if_pos rfl] at hst
                    exact HQ.out.1.trans hst.symm, fun j hj => HQ.out.2 j (by omega)⟩⟩⟩
                · obtain ⟨old, hold⟩ : ∃ old, dk[kk]? = some old := ⟨_, List.getElem?_eq_getElem (by have := HL2.out.2.1; omega)⟩
                  obtain ⟨c0, c1, c2, c3⟩ := read4 HK2.out HL2.out.2.2 kk (kk * 4) old hold rfl
                  have f0 := bk_frozen HK2.out (kk * 4)
                  have f1 := bk_frozen HK2.out (kk * 4 + 1)
                  have f2 := bk_frozen HK2.out (kk * 4 + 2)
                  have f3 := bk_frozen HK2.out (kk * 4 + 3)
                  have g6 : kk < l0.length := by omega
                  go_wp2_with fail
                  go_region
                  go_wp2
                  · go_roundg (l0.length - (k + (k2 + 1)))
                    case measure => omega
                    case rel => exact ⟨kk + 1, k2 + 1, dk.set kk u, putL (kk * 4) (encInc u) cs2, by rw [hwkk.out], by rw [hwk2.out], ⟨⟨by omega, by omega, Nat.le_refl _, by omega, by omega⟩⟩, ⟨(OnlyG.sets (encInc u) (kk * 4) wr HO.out).drew⟩, ⟨bk_setCells (encInc u) g (kk * 4) wr cs2 HK2.out⟩, ⟨⟨by rw [putL_length]; exact HL2.out.1, by rw [List.length_set]; exact HL2.out.2.1, HL2.out.2.2.put (by have := HL2.out.1; have := HL2.out.2.1; have := HN.out; have := HS.out; omega) kk u⟩⟩, ⟨⟨by
                      have hst := compP_step l0 (k + k2) (by omega) hlt2
                      rw [Y.out.1, Y.out.2, if_neg (fun e => huv e.symm)] at hst
                      rw [take_set_succ _ _ _ (by have := HL2.out.2.1; omega), HQ.out.1]
                      exact hst.symm, fun j hj => by rw [List.getElem?_set, if_neg (by omega)]; exact HQ.out.2 j (by omega)⟩⟩⟩
                  · rename_i hh
                    exact absurd (eq4 hh) huv
              · have hend : k + k2 = l0.length := by omega
                have e1 : ¬ (k2 : Int) < ((l0.length - k : Nat) : Int) := by omega
                have e2 : kk ≤ cap := by have := HN.out; omega
                have e3 : kk ≤ l0.length := by omega
                have e4 : ¬ cap = kk := by have := HN.out; omega
                have hcl := fun ty => run_clear4 wr ty g (kk * 4) (l0.length - kk) (cap - kk) (by omega) cs2 HK2.out (by have := HL2.out.1; have := HN.out; have := HS.out; omega)
                go_wp2
                go_ret
                have hcomp2 : dk.take kk = compP l0 := by
                  have := HQ.out.1
                  rw [hend, List.take_length] at this
                  exact this
                have hkk : (compP l0).length = kk := by rw [← hcomp2, List.length_take]; have := HL2.out.2.1; omega
                have hO := OnlyG.sets (Builtin.zeroCells #[.int .i64 0, .int .i64 0, .int .i64 0, .int .i64 0] (l0.length - kk)).toList (kk * 4) wr HO.out
                refine ⟨_, rfl, ?_, HB.out.grown hO.by_ HB.out.size (fun b hb' => by injection hb' with hb'; have := HG.out; omega), Kept.of_grown hO.by_ (Kept.refl _ _) (fun b hb' => by injection hb' with hb'; subst hb'; exact .inl HPP.out)⟩
                have key := of_lay (l := compP l0) (P0 := P0_) (cs := putL (kk * 4) (Builtin.zeroCells #[.int .i64 0, .int .i64 0, .int .i64 0, .int .i64 0] (l0.length - kk)).toList cs2) HG.out HPP.out (bk_setCells (Builtin.zeroCells #[.int .i64 0, .int .i64 0, .int .i64 0, .int .i64 0] (l0.length - kk)).toList g (kk * 4) wr cs2 HK2.out) (by rw [hkk]; exact e2) HC.out (by rw [putL_length, HL2.out.1]; exact HS.out) (by rw [← hcomp2]; exact HL2.out.2.2.low kk _)
                rw [hkk] at key
                exact key
          · have hck : ¬ cap = k := by have := HN.out; omega
            have hwk : Aside0 (wrap64 ((k : Int) + 1) = ((k + 1 : Nat) : Int)) := ⟨by have h1 := HN.out; have h2 := HC.out; simp only [maxLen] at h2; unfold wrap64; omega⟩
            have X := Aside0.mk (And.intro hx hy)
            clear hx hy
            go_wp2_with fail
            go_region
            go_wp2
            · exact absurd (eq4b (by assumption)) hxy
            · go_roundg (l0.length - (k + 1))
              case measure => omega
              case rel => exact ⟨k + 1, q + 1, by rw [hwk.out], rfl, ⟨⟨by omega, by omega, Nat.le_refl _, by
                have hst := compP_step l0 k hk1 hlt
                rw [X.out.1, X.out.2, if_neg (fun e => hxy e.symm), hcomp] at hst
                rw [hst, List.take_add_one, show l0[k]? = some x from by rw [← X.out.1]; exact rd_some l0 (k : Int) p0 hli]
                rfl⟩⟩⟩
        · have hend : k = l0.length := by omega
          have e1 : ¬ (k : Int) < (l0.length : Int) := by omega
          go_wp2
          go_ret
          have hcomp2 : compP l0 = l0 := by
            rw [hend, List.take_length] at hcomp
            exact hcomp
          rw [hcomp2]
          have hO := (OnlyG.refl w g).drewN q
          exact ⟨_, rfl, of_lay HG.out HPP.out (bk_drewN HK.out q) HN.out HC.out HS.out HL.out, HB.out.grown hO.by_ HB.out.size (fun b hb' => by injection hb' with hb'; have := HG.out; omega), Kept.of_grown hO.by_ (Kept.refl _ _) (fun b hb' => by injection hb' with hb'; subst hb'; exact .inl HPP.out)⟩
end Go.Proofs.YtidehmfaebiebaaDoor.PInc
