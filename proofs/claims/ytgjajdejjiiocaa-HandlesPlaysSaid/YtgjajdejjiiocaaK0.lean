/- The rows of a script. -/
import Derived.Test.YtgjajdejjiiocaaH11
namespace Go.Proofs.Ytgjajdejjiiocaa.Q
open Go.RowKit Go.Proofs.YtgjajdejjiiocaaW.PrintWords Go.Proofs.YtgjajdejjiiocaaW.PrintLast Go.Proofs.Ytgjajdejjiiocaa.Sep
set_option linter.unusedVariables false
set_option linter.unusedSimpArgs false
structure S37 where
  f0 : Int
  f1 : Int
  f2 : Int
  f3 : Int
  f4 : Int
  f5 : Int
  f6 : Int
def z37 : S37 := ⟨0, 0, 0, 0, 0, 0, 0⟩
def i64K : Kd Int := Kd.int .i64
def k37 : Kd S37 := Kd.iso (Kd.pair i64K (Kd.pair i64K (Kd.pair i64K (Kd.pair i64K (Kd.pair i64K (Kd.pair i64K i64K)))))) (fun x : S37 => (x.f0, x.f1, x.f2, x.f3, x.f4, x.f5, x.f6))
def ocells (x : S37) : List Value := [.int .i64 x.f0, .int .i64 x.f1, .int .i64 x.f2, .int .i64 x.f3, .int .i64 x.f4, .int .i64 x.f5, .int .i64 x.f6]
theorem k37_open {w : World} {x : S37} {cs : List Value} (h : k37.K w x cs) : cs = ocells x := by
  obtain ⟨_, _, rfl, rfl, ⟨_, _, rfl, rfl, ⟨_, _, rfl, rfl, ⟨_, _, rfl, rfl, ⟨_, _, rfl, rfl, ⟨_, _, rfl, rfl, rfl⟩⟩⟩⟩⟩⟩ := h
  exact rfl
theorem k37_mk (w : World) (x : S37) : k37.K w x [.int .i64 x.f0, .int .i64 x.f1, .int .i64 x.f2, .int .i64 x.f3, .int .i64 x.f4, .int .i64 x.f5, .int .i64 x.f6] :=
  ⟨[_], _, rfl, rfl, ⟨[_], _, rfl, rfl, ⟨[_], _, rfl, rfl, ⟨[_], _, rfl, rfl, ⟨[_], _, rfl, rfl, ⟨[_], [_], rfl, rfl, rfl⟩⟩⟩⟩⟩⟩
theorem at37 {w : World} {A : Option Addr} {xs : List S37} (h : Kd.C k37 w A xs.length xs) {k : Nat} {x : S37} (hx : xs[k]? = some x) : ∃ b off, A = some ⟨b, off, none⟩ ∧ b < w.heap.size ∧ ∀ (j : Nat) (u : Value), (ocells x)[j]? = some u → w.cell? ⟨b, off + k * 7 + j, none⟩ = some u := by
  have hlt : k < xs.length := (List.getElem?_eq_some_iff.1 hx).1
  obtain ⟨ad, c, e, _, hK, hc0⟩ := Kd.C_get h z37 (k : Int) (by omega) (by omega)
  rw [Int.toNat_natCast] at hK hc0
  have hg : xs.getD k z37 = x := by rw [List.getD_eq_getElem?_getD, hx]; rfl
  rw [hg] at hK
  obtain rfl := k37_open hK
  have hc : ∀ (j : Nat) (u : Value), (ocells x)[j]? = some u → w.cell? (ad.add (k * 7 + j)) = some u := hc0
  obtain ⟨ad', c', e', _, hK', hc0'⟩ := Kd.C_get h z37 (0 : Int) (by omega) (by omega)
  obtain rfl : ad = ad' := by rw [e] at e'; exact Option.some.inj e'
  obtain rfl := k37_open hK'
  have hc' : ∀ (j : Nat) (u : Value), (ocells (xs.getD (0 : Int).toNat z37))[j]? = some u → w.cell? (ad.add ((0 : Int).toNat * 7 + j)) = some u := hc0'
  have h0 := hc' 0 _ rfl
  obtain ⟨b, off, sp⟩ := ad
  have hsp : sp = none := by
    have h0' : w.cell? ⟨b, off, sp⟩ = some _ := h0
    cases sp with
    | none => rfl
    | some s =>
      exfalso
      unfold World.cell? at h0'
      split at h0' <;> simp at h0'
  subst hsp
  refine ⟨b, off, e, World.block_lt_of_cell? w _ h0, fun j u hj => ?_⟩
  have := hc j u hj
  rw [Sep.add_at] at this
  rw [Nat.add_assoc]
  exact this
end Go.Proofs.Ytgjajdejjiiocaa.Q
