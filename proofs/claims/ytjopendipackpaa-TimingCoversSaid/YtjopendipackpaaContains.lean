/- slices.ContainsFunc over a slice of structs that is read, in the words of the printed contracts. Condition: the predicate hands back the plain function's value. -/
import Derived.Shelf.SlicesQ.IndexFunc
import Derived.Test.YtjopendipackpaaWWords
namespace Go.Proofs.Ytjopendipackpaa.Cnt
open Go.Sort Go.Shelf Go.RowKit Go.Proofs.YtjopendipackpaaW.PrintWords Go.Proofs
set_option linter.unusedVariables false

set_option maxHeartbeats 1000000 in
/-- slices.IndexFunc at a slice of length 0. -/
theorem index_empty {P : Program} {ρ : Ren} (L : SlLaysH0.n6 P ρ) (a : Option Addr) (c : Nat) (fv : Value) (w : World) :
    Calls P (ρ.f 6) #[.slice a 0 c, fv] w fun e w' => e = .returned (.int .i64 (-1)) ∧ w' = w := by
  have mixed := L.mixed; have t0 := L.t0; have a0 := L.a0; have z0 := L.z0; have v0 := L.v0; have t3 := L.t3; have a3 := L.a3; have z3 := L.z3; have v3 := L.v3; have t4 := L.t4; have a4 := L.a4; have z4 := L.z4; have v4 := L.v4; have t22 := L.t22; have a22 := L.a22; have z22 := L.z22; have v22 := L.v22; have t25 := L.t25; have a25 := L.a25; have z25 := L.z25; have v25 := L.v25
  obtain ⟨_, _, FG⟩ := L.f6
  go_enter FG, SlBodyH.n6_ntmps ρ
  go_wp2
  go_loopg [5, 8] 0 (fun _ _ s8 wr => s8 = .int .i64 0 ∧ wr = w)
  case atStart => exact ⟨rfl, rfl⟩
  case round =>
    obtain ⟨rfl, rfl⟩ := hrel
    go_wp2
    go_ret
    exact ⟨rfl, rfl⟩
/-- slices.ContainsFunc at a slice of length 0. -/
theorem contains_empty {P : Program} {ρ : Ren} (L : SlLaysH0.n8 P ρ) (a : Option Addr) (c : Nat) (fv : Value) (w : World) :
    Calls P (ρ.f 8) #[.slice a 0 c, fv] w fun e w' => e = .returned (.bool false) ∧ w' = w := by
  have mixed := L.mixed; have t0 := L.t0; have a0 := L.a0; have z0 := L.z0; have v0 := L.v0; have t3 := L.t3; have a3 := L.a3; have z3 := L.z3; have v3 := L.v3; have t4 := L.t4; have a4 := L.a4; have z4 := L.z4; have v4 := L.v4; have t22 := L.t22; have a22 := L.a22; have z22 := L.z22; have v22 := L.v22; have t25 := L.t25; have a25 := L.a25; have z25 := L.z25; have v25 := L.v25
  have e6 : ∀ args w, (callFunc (ρ.f 6) args).run P w = .ok (.enter (ρ.f 6) args) w := L.f6.enters rfl
  obtain ⟨_, _, FG⟩ := L.f8
  go_enter FG, SlBodyH.n8_ntmps ρ
  go_wp2_with (go_at_fn (ρ.f 6); refine (index_empty { L with } a c fv _).mono ?_; rintro e w' ⟨rfl, rfl⟩)
  go_ret
  exact ⟨rfl, rfl⟩

/-- An address that has a cell is a plain one. -/
theorem plain_addr {w : World} {b o : Nat} {m : Option Nat} {v : Value} (h : w.cell? ⟨b, o, m⟩ = some v) : m = none := by
  cases m with
  | none => rfl
  | some j =>
    simp [World.cell?] at h
    split at h <;> cases h

theorem contains_any {α : Type} [Inhabited α] (enc : α → List Value) (k : Nat) {P : Program} {ρ : Ren} (L : SlLaysH0.n8 P ρ) (aE : ∀ w, (isAgg (ρ.t 23)).run P w = .ok true w) (zE : ∀ w, (Go.sizeOf (ρ.t 23)).run P w = .ok k w) (hk : ∀ x, (enc x).length = k) (hk0 : 0 < k)
    (p : α → Bool) (g : Nat) (lb : Array Value) (eg : ∀ args w, (callFunc g args).run P w = .ok (.enter g args) w)
    (hp : ∀ (W : World) (x : α), Calls P g (#[.agg (enc x).toArray] ++ lb) W fun e w' => e = .returned (.bool (p x)) ∧ Below W.heap.size W w')
    {d : Kd α} (hK : ∀ {w x cs}, d.K w x cs → cs = enc x) (hsz : d.sz = k) {A : Option Addr} {c : Nat} {l : List α} {w : World} (hr : Kd.C d w A l.length l) :
    Calls P (ρ.f 8) #[.slice A l.length c, .func (.func g) #[] lb] w fun e w' => e = .returned (.bool (l.any p)) ∧ Below w.heap.size w w' := by
  rcases Nat.eq_zero_or_pos l.length with h0 | h0
  · obtain rfl : l = [] := List.eq_nil_of_length_eq_zero h0
    refine (contains_empty L A c _ w).mono ?_
    rintro e w' ⟨rfl, rfl⟩
    exact ⟨rfl, Below.refl _ _⟩
  · obtain ⟨_, hbig, hrow⟩ := hr
    obtain ⟨ad, rfl, hc⟩ := hrow h0
    have hcell : ∀ j x, l[j]? = some x → ∀ i v, (enc x)[i]? = some v → w.cell? (ad.add (j * k + i)) = some v := fun j x hj i v hi => by
      obtain ⟨cs, _, h1, h2⟩ := hc j x hj
      rw [hK h1, hsz] at h2
      exact h2 i v hi
    obtain ⟨b, o, m⟩ := ad
    have hlt : 0 < (enc l[0]).length := by rw [hk]; exact hk0
    have h00 := hcell 0 l[0] (List.getElem?_eq_getElem h0) 0 _ (List.getElem?_eq_getElem hlt)
    rw [Nat.zero_mul, Nat.add_zero, Addr.add_zero'] at h00
    obtain rfl := plain_addr h00
    have hb : b < w.heap.size := World.block_lt_of_cell? w _ h00
    have h := AnyQ.slices_ContainsFunc L k aE zE enc hk p g lb eg b o l.length c l w (fun W x hW => (hp W x).mono fun _ _ ⟨he, hb'⟩ => ⟨he, hW.trans (hb'.mono hW.size)⟩) (Nat.le_refl _) hbig hb (fun j hj i v hi => by
      have h1 := hcell j l[j] (List.getElem?_eq_getElem hj) i v (by rw [getElem!_pos l j hj] at hi; exact hi)
      rw [Addr.add_lit, ← Nat.add_assoc] at h1
      exact h1)
    rw [List.take_length] at h
    exact h
end Go.Proofs.Ytjopendipackpaa.Cnt
