/- A region that draws its order, with what is held. -/
import Derived.Test.YtakchpeohmkpkaaS2
namespace Go.Proofs.Ytakchpeohmkpkaa.Sep
open Go.RowKit Go.Proofs.YtakchpeohmkpkaaW.PrintWords Go.Proofs.YtakchpeohmkpkaaW.PrintLast
set_option linter.unusedVariables false
set_option linter.unusedSimpArgs false
section
variable {P : Program} {ops : Array Oper} {Q : Exit → Act → World → Prop} {md : Region.Mode} {ds : List Nat} {w0 w W : World} {H H' : Frag} {a a' : Act} {K : Act → World → Prop} {oi : Oper} {N : Option Tmp}
theorem start_H (HH : Holds w0 w H) {id n : Nat} (ds : List Nat) (l : Array Bool) (hm : P.follows .mixedOrders = true) (hn : ops.size = n) (hl : Array.replicate n false = l)
    (h : wpAnyLast P .any ops Q (fun w' => Holds w0 w' H) ds n l a w.drew) : (Code.region id ops true).wp P Q a w := start_ l hm hn hl HH.drew (fun _ => h)
theorem take1_ (hS : Holds w0 w H) {i : Nat} {fuel : Nat} {l : Array Bool} (l' : Array Bool) {t : TypeId} {x : Operand} {b j : Nat} {cs : List Value} {ty : TypeId} {fz : Nat × Nat} {v : Value} (hi : ops[i]? = some oi) (hN : oi.dst = N) (hc : takeB md ops ds l l' i = true) (hQ : ∀ c a w, Q (.panic c) (a.put oi.dst v) w → Q (.panic c) a w)
    (hop : oi.op = .load t x) (ht : oneB P t = true) (hx : a.eval x = .pointer (some ⟨b, j, none⟩)) (hw : Region.wanted oi (yielded ops a.tmps) = true) (hm : (b, Cl cs ty fz) ∈ H) (hv : cs[j]? = some v) (ha : a.put N v = a')
    (h : wpAnyLast P md ops Q (fun w' => Holds w0 w' H) ds fuel l' a' w) : wpAnyLast P md ops Q (fun w' => Holds w0 w' H) ds (fuel + 1) l a w :=
  take_ (S := fun w' => Holds w0 w' H) l' hi hN hc hQ (Or.inl ⟨hw, fun w' hw' => run_load1 hop ht hx (hw'.cell hm hv)⟩) hS ha h
theorem takeN_ (hS : Holds w0 w H) {i : Nat} {fuel : Nat} {l : Array Bool} (l' : Array Bool) {t : TypeId} {x : Operand} {n b j : Nat} {cs vs : List Value} {ty : TypeId} {fz : Nat × Nat} (hi : ops[i]? = some oi) (hN : oi.dst = N) (hc : takeB md ops ds l l' i = true) (hQ : ∀ c a w, Q (.panic c) (a.put oi.dst (.agg vs.toArray)) w → Q (.panic c) a w)
    (hop : oi.op = .load t x) (ht : aggB P t = true) (hn : (P.info? t).map (·.size) = some n) (hx : a.eval x = .pointer (some ⟨b, j, none⟩)) (hw : Region.wanted oi (yielded ops a.tmps) = true) (hm : (b, Cl cs ty fz) ∈ H) (hv : (cs.drop j).take n = vs) (hl : vs.length = n) (ha : a.put N (.agg vs.toArray) = a')
    (h : wpAnyLast P md ops Q (fun w' => Holds w0 w' H) ds fuel l' a' w) : wpAnyLast P md ops Q (fun w' => Holds w0 w' H) ds (fuel + 1) l a w :=
  take_ (S := fun w' => Holds w0 w' H) l' hi hN hc hQ (Or.inl ⟨hw, fun w' hw' => run_loadN hop (manyB_of ht hn) hx (hw'.has _ hm) hv hl⟩) hS ha h
theorem store_e (HH : Holds w0 W H) {t : TypeId} {x y : Operand} {n b i : Nat} {cs vs : List Value} {ty : TypeId} (hop : oi.op = .store t x y) (hN : oi.dst = none) (hw : Region.wanted oi (yielded ops a.tmps) = true) (hx : a.eval x = .pointer (some ⟨b, i, none⟩))
    {v : Value} (hev : a.eval y = v) (hy : v.cells = vs.toArray) (hm : Holds.At b (Cl cs ty) (Cl (splice cs i vs) ty) H H') (hl : vs.length = n) (hn : (P.info? t).map (·.size) = some n) (h1 : ∀ u, u ∈ vs → u.oneCell' = true) (hi : i + n ≤ cs.length)
    (k : ∀ w1, Holds w0 w1 H' → K a w1) : if Region.wanted oi (yielded ops a.tmps) = true then Oper.wp P oi a W K Q else K (a.put none undef) W := by
  subst hev
  exact skip_ hw hN (run_storeN hop hn hx (HH.has _ hm.mem) hy hl h1 hi) (k _ (HH.repl hm))
theorem alloc_e (HH : Holds w0 W H) {t : TypeId} {z : Value} {cs : List Value} (hop : oi.op = .alloc t) (hN : oi.dst = N) (hw : Region.wanted oi (yielded ops a.tmps) = true) (hz : (P.info? t).bind (·.zero) = some z) (hx : z.cells = cs.toArray)
    (k : ∀ b w1, Holds w0 w1 ((b, Cl cs t) :: H) → K (a.put N (.pointer (some ⟨b, 0, none⟩))) w1) : if Region.wanted oi (yielded ops a.tmps) = true then Oper.wp P oi a W K Q else K (a.put N undef) W := by
  refine value_ hw hN (run_alloc hop ?_ hx) (k _ _ (HH.alloc _))
  obtain ⟨i, hi, hzz⟩ := Option.bind_eq_some_iff.1 hz
  simp [zeroValue, typeInfo, hi, hzz]
theorem box_e (HH : Holds w0 W H) {t : TypeId} {x : Operand} {cs : List Value} (hop : oi.op = .box t x) (hN : oi.dst = N) (hw : Region.wanted oi (yielded ops a.tmps) = true) {v : Value} (hev : a.eval x = v) (hy : v.cells = cs.toArray)
    (k : ∀ b w1, Holds w0 w1 ((b, Cl cs t) :: H) → K (a.put N (.pointer (some ⟨b, 0, none⟩))) w1) : if Region.wanted oi (yielded ops a.tmps) = true then Oper.wp P oi a W K Q else K (a.put N undef) W :=
  value_ hw hN (run_box hop (hev ▸ hy)) (k _ _ (HH.alloc _))
theorem text_e (HH : Holds w0 W H) {src dst : TypeId} {x : Operand} {A : Option Addr} {c : Nat} {xs : List Int} {e : TypeId} {v : Value} (hop : oi.op = .convert src dst x) (hN : oi.dst = N) (hw : Region.wanted oi (yielded ops a.tmps) = true) (hev : a.eval x = v) (hv : v = .slice A xs.length c) (hs : P.underlying src = some (.slice e)) (hd : P.underlying dst = some .string) (he : P.underlying e = some (.int .u8)) (hSr : Src (Value.int .u8) w0 H A xs) (hl : xs.length ≤ 9223372036854775807)
    (k : K (a.put N (.string (strOfNums xs))) W) : if Region.wanted oi (yielded ops a.tmps) = true then Oper.wp P oi a W K Q else K (a.put N undef) W := by
  subst hev
  refine value_ hw hN (w1 := W) ?_ k
  have hC : (Kd.int .u8).C W A xs.length xs := hSr.C (h1 := fun _ => rfl) HH hl
  unfold execOp
  simp [hop, hv, Kd.C_string hs he hd hC]
theorem conv_e (HH : Holds w0 W H) {src dst : TypeId} {x : Operand} {s : ByteArray} {e : TypeId} {v : Value} (hop : oi.op = .convert src dst x) (hN : oi.dst = N) (hw : Region.wanted oi (yielded ops a.tmps) = true) (hev : a.eval x = v) (hv : v = .string s) (hs : P.underlying src = some .string) (hd : P.underlying dst = some (.slice e)) (he : P.underlying e = some (.int .u8))
    (k : ∀ b w1 o cap, Holds w0 w1 ((b, o) :: H) → Src (Value.int .u8) w0 [(b, o)] (some ⟨b, 0, none⟩) (bytesOf s) → (bytesOf s).length ≤ cap → K (a.put N (.slice (some ⟨b, 0, none⟩) (bytesOf s).length cap)) w1) : if Region.wanted oi (yielded ops a.tmps) = true then Oper.wp P oi a W K Q else K (a.put N undef) W := by
  subst hev
  obtain ⟨o, h1, h2⟩ := bytesWorld_holds HH e s
  refine value_ hw hN (w1 := Lib.bytesWorld W e s) (v := .slice (some ⟨W.heap.size, 0, none⟩) (bytesOf s).length (grownCap W s.size 0 e)) ?_ (k _ _ o _ h1 h2 ?_)
  · unfold execOp
    simp [hop, hv, Lib.run_convert_string_bytes W src dst e s hs hd he, bytesOf_length]
  · rw [bytesOf_length]
    exact grownCap_ge W s.size 0 e
theorem call_e {f : FuncId} {fn : Func} {as : Array Operand} {ts : Array TypeId} {args : Array Value} {R : Ending → World → Prop} (hf : P.funcs[f]? = some fn) (hname : (fn.name == "runtime.NumGoroutine") = false) (hb : fn.body.isSome = true) (hop : oi.op = .call { callee := .value (.func f), args := as, argTypes := ts }) (hN : oi.dst = N) (hw : Region.wanted oi (yielded ops a.tmps) = true) (hargs : as.map a.eval = args)
    (hcl : Calls P f args W R) (k : ∀ e w', R e w' → ∃ v, e = .returned v ∧ K (a.put N v) w') : if Region.wanted oi (yielded ops a.tmps) = true then Oper.wp P oi a W K Q else K (a.put N undef) W :=
  goes_ hf hname hb args hw hN hop hargs (hcl.mono k)
end
end Go.Proofs.Ytakchpeohmkpkaa.Sep
