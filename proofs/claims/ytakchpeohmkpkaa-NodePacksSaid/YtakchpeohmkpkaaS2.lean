/- Conversions between texts and bytes, with what is held. -/
import Derived.Test.YtakchpeohmkpkaaS1
import Derived.Laws.AppendOwn
namespace Go.Proofs.Ytakchpeohmkpkaa.Sep
open Go.RowKit Go.Proofs.YtakchpeohmkpkaaW.PrintWords Go.Proofs.YtakchpeohmkpkaaW.PrintLast
set_option linter.unusedVariables false
set_option linter.unusedSimpArgs false
theorem Holds.none {w0 w : World} {H : Frag} (h : Holds w0 w H) : Holds w0 w [] := h.sub (List.nil_sublist _)
theorem bytesOf_get (s : ByteArray) (j : Nat) (x : Int) (h : (bytesOf s)[j]? = some x) : j < s.size ∧ x = ((s.data.toList.getD j 0).toNat : Int) := by
  unfold bytesOf at h
  rw [List.getElem?_map] at h
  obtain ⟨b, hb, rfl⟩ := Option.map_eq_some_iff.1 h
  have hl := (List.getElem?_eq_some_iff.1 hb).1
  rw [data_length] at hl
  refine ⟨hl, ?_⟩
  rw [List.getD_eq_getElem?_getD, hb]
  rfl
section
variable {P : Program} {ops : Array Oper} {Q : Exit → Act → World → Prop} {rest : List Oper} {a : Act} {W w0 : World} {H : Frag} {d : Option Tmp} {tp : TypeId} {ps : String} {af : Array Edge} {gd : Option (Nat × Bool)}
theorem bytesWorld_holds (HH : Holds w0 W H) (e : TypeId) (s : ByteArray) : ∃ o, Holds w0 (Lib.bytesWorld W e s) ((W.heap.size, o) :: H) ∧ Src (Value.int .u8) w0 [(W.heap.size, o)] (some ⟨W.heap.size, 0, none⟩) (bytesOf s) := by
  have hold : ∀ x, x ∈ H → (Lib.bytesWorld W e s).heap[x.1]? = W.heap[x.1]? := fun x hx => Lib.bytesWorld_at_old W e s x.1 (HH.lt hx)
  refine ⟨.cells (Lib.bytesCells W e s) e ((Lib.bytesCells W e s).size, (Lib.bytesCells W e s).size + 1), ⟨?_, ?_, ?_, ?_⟩, ?_⟩
  · refine HH.below.trans ⟨?_, ?_, ?_, ?_, fun k hk => ?_⟩
    · simp [Lib.bytesWorld, World.freeze, World.alloc, World.drew, -World.alloc_eq, -World.drew_eq]
    · simp [Lib.bytesWorld, World.freeze, World.alloc, World.drew, -World.alloc_eq, -World.drew_eq]
    · simp [Lib.bytesWorld, World.freeze, World.alloc, World.drew, -World.alloc_eq, -World.drew_eq]
    · rw [Lib.bytesWorld_size]
      omega
    · exact Lib.bytesWorld_at_old W e s k (Nat.lt_of_lt_of_le hk HH.below.size)
  · intro x hx
    rcases List.mem_cons.1 hx with rfl | hx
    · exact Lib.bytesWorld_at_new W e s
    · rw [hold x hx]
      exact HH.has x hx
  · intro x hx
    rcases List.mem_cons.1 hx with rfl | hx
    · exact HH.below.size
    · exact HH.low x hx
  · simp only [List.map_cons, List.nodup_cons]
    refine ⟨fun hm => ?_, HH.nodup⟩
    obtain ⟨x, hx, he⟩ := List.mem_map.1 hm
    have := HH.lt hx
    omega
  · refine .inr ⟨_, 0, rfl, .inr ⟨(Lib.bytesCells W e s).toList, e, ((Lib.bytesCells W e s).size, (Lib.bytesCells W e s).size + 1), by simp [Cl], fun j x hx => ?_⟩⟩
    obtain ⟨hj, rfl⟩ := bytesOf_get s j x hx
    have hc := Lib.bytesWorld_cell W e s j hj
    simp only [World.cell?, Lib.bytesWorld_at_new] at hc
    simpa using hc
/-- []byte(s). -/
theorem conv_ (HH : Holds w0 W H) {src dst : TypeId} {x : Operand} {s : ByteArray} {e : TypeId} {v : Value} (hw : Region.wanted ⟨d, .convert src dst x, tp, ps, af, gd⟩ (yielded ops a.tmps) = true) (hev : a.eval x = v) (hv : v = .string s) (hs : P.underlying src = some .string) (hd : P.underlying dst = some (.slice e)) (he : P.underlying e = some (.int .u8))
    (k : ∀ b w1 o cap, Holds w0 w1 ((b, o) :: H) → Src (Value.int .u8) w0 [(b, o)] (some ⟨b, 0, none⟩) (bytesOf s) → (bytesOf s).length ≤ cap → wpList P ops Q rest (a.put d (.slice (some ⟨b, 0, none⟩) (bytesOf s).length cap)) w1) : wpList P ops Q (⟨d, .convert src dst x, tp, ps, af, gd⟩ :: rest) a W := by
  subst hev
  obtain ⟨o, h1, h2⟩ := bytesWorld_holds HH e s
  refine wpList_value hw (w1 := Lib.bytesWorld W e s) (v := .slice (some ⟨W.heap.size, 0, none⟩) (bytesOf s).length (grownCap W s.size 0 e)) ?_ (k _ _ o _ h1 h2 ?_)
  · unfold execOp
    simp [hv, Lib.run_convert_string_bytes W src dst e s hs hd he, bytesOf_length]
  · rw [bytesOf_length]
    exact grownCap_ge W s.size 0 e
/-- string(b). -/
theorem text_ (HH : Holds w0 W H) {src dst : TypeId} {x : Operand} {A : Option Addr} {c : Nat} {xs : List Int} {e : TypeId} {v : Value} (hw : Region.wanted ⟨d, .convert src dst x, tp, ps, af, gd⟩ (yielded ops a.tmps) = true) (hev : a.eval x = v) (hv : v = .slice A xs.length c) (hs : P.underlying src = some (.slice e)) (hd : P.underlying dst = some .string) (he : P.underlying e = some (.int .u8)) (hS : Src (Value.int .u8) w0 H A xs) (hl : xs.length ≤ 9223372036854775807)
    (k : wpList P ops Q rest (a.put d (.string (strOfNums xs))) W) : wpList P ops Q (⟨d, .convert src dst x, tp, ps, af, gd⟩ :: rest) a W := by
  subst hev
  refine wpList_value hw (w1 := W) ?_ k
  have hC : (Kd.int .u8).C W A xs.length xs := hS.C (h1 := fun _ => rfl) HH hl
  unfold execOp
  simp [hv, Kd.C_string hs he hd hC]
end
end Go.Proofs.Ytakchpeohmkpkaa.Sep
