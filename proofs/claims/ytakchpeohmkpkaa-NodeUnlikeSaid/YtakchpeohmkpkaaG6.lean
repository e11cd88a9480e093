/- NodeUnlike, walked by hand. -/
import Derived.Test.YtakchpeohmkpkaaQ6
import Derived.Test.YtakchpeohmkpkaaK3
import Derived.Test.YtakchpeohmkpkaaH1
import Derived.Test.YtakchpeohmkpkaaS0
namespace Go.Proofs.Ytakchpeohmkpkaa.Q
open Go.RowKit Go.Proofs.YtakchpeohmkpkaaW.PrintWords Go.Proofs.YtakchpeohmkpkaaW.PrintLast Go.Proofs.YtakchpeohmkpkaaW.PrintMore Go.Proofs.Ytakchpeohmkpkaa.Sep
set_option linter.unusedVariables false
set_option linter.unusedSimpArgs false
set_option maxHeartbeats 8000000 in
set_option maxRecDepth 100000 in
theorem un_neg1 (a0 : Int) (a1 : ByteArray) (a2 : Int) (kI : ByteArray) (k1 n1 b1 : Int) (s1 : ByteArray) (w : World) (i1 : node_InodeKey.f a0 = some kI) (i2 : node_Kind.f kI = some (k1, n1, s1, b1)) (al : pumicelaw06_alive.f = some true) (f0 : decide (1 ≤ a0) = false) (f1 : decide (0 ≤ a0) = false) (f2 : (k1 == 1) = true) (f3 : (k1 != 1) = false) :
    Calls Try.prog 6 #[.int .i64 a0, .string a1, .int .i64 a2] w fun e w' => e = .returned (.bool true) ∧ Below w.heap.size w w' := by
  have Hi1 := Aside0.mk i1
  have Hi2 := Aside0.mk i2
  have Hal := Aside0.mk al
  have HA := Aside0.mk (Holds.start w)
  clear i1 i2 al
  go_enter Try.func6, Try.ntmps6
  go_wp2_with (first
    | (go_at_call 16; (with_reducible apply Calls.mono); (case h => exact node_InodeKey.calls _ _ _ Hi1.out); rintro ew w1 ⟨rfl, hb_⟩; have HB_ := HA.out.call1 hb_ rfl rfl rfl rfl; clear hb_ HA; have HA := Aside0.mk HB_; clear HB_)
    | (go_at_call 30; (with_reducible apply Calls.mono); (case h => first | with_reducible exact node_Kind.calls kI _ _ _ _ _ Hi2.out); rintro ew w1 ⟨rfl, hb_⟩; have HB_ := HA.out.call1 hb_ rfl rfl rfl rfl; clear hb_ HA; have HA := Aside0.mk HB_; clear HB_)
    | (go_at_call 10; (with_reducible apply Calls.mono); (case h => exact pumicelaw06_alive.calls _ _ Hal.out); rintro ew w1 ⟨rfl, hb_⟩; have HB_ := HA.out.call1 hb_ rfl rfl rfl rfl; clear hb_ HA; have HA := Aside0.mk HB_; clear HB_))
  (apply end_one (.tmp 6); (case hres => rfl); (case hd => rfl); (case hvs => apply Vals.tmp; exact .nil); (case hR => exact ⟨rfl, by first | exact HA.out.below | exact (HA.out.any rfl rfl rfl rfl).below⟩))
set_option maxHeartbeats 8000000 in
set_option maxRecDepth 100000 in
theorem un_neg0 (a0 : Int) (a1 : ByteArray) (a2 : Int) (kI : ByteArray) (k1 n1 b1 : Int) (s1 : ByteArray) (w : World) (i1 : node_InodeKey.f a0 = some kI) (i2 : node_Kind.f kI = some (k1, n1, s1, b1)) (al : pumicelaw06_alive.f = some true) (f0 : decide (1 ≤ a0) = false) (f1 : decide (0 ≤ a0) = false) (f2 : (k1 == 1) = false) (f3 : (k1 != 1) = true) :
    Calls Try.prog 6 #[.int .i64 a0, .string a1, .int .i64 a2] w fun e w' => e = .returned (.bool true) ∧ Below w.heap.size w w' := by
  have Hi1 := Aside0.mk i1
  have Hi2 := Aside0.mk i2
  have Hal := Aside0.mk al
  have HA := Aside0.mk (Holds.start w)
  clear i1 i2 al
  go_enter Try.func6, Try.ntmps6
  go_wp2_with (first
    | (go_at_call 16; (with_reducible apply Calls.mono); (case h => exact node_InodeKey.calls _ _ _ Hi1.out); rintro ew w1 ⟨rfl, hb_⟩; have HB_ := HA.out.call1 hb_ rfl rfl rfl rfl; clear hb_ HA; have HA := Aside0.mk HB_; clear HB_)
    | (go_at_call 30; (with_reducible apply Calls.mono); (case h => first | with_reducible exact node_Kind.calls kI _ _ _ _ _ Hi2.out); rintro ew w1 ⟨rfl, hb_⟩; have HB_ := HA.out.call1 hb_ rfl rfl rfl rfl; clear hb_ HA; have HA := Aside0.mk HB_; clear HB_)
    | (go_at_call 10; (with_reducible apply Calls.mono); (case h => exact pumicelaw06_alive.calls _ _ Hal.out); rintro ew w1 ⟨rfl, hb_⟩; have HB_ := HA.out.call1 hb_ rfl rfl rfl rfl; clear hb_ HA; have HA := Aside0.mk HB_; clear HB_))
  (apply end_one (.tmp 6); (case hres => rfl); (case hd => rfl); (case hvs => apply Vals.tmp; exact .nil); (case hR => exact ⟨rfl, by first | exact HA.out.below | exact (HA.out.any rfl rfl rfl rfl).below⟩))
set_option maxHeartbeats 8000000 in
set_option maxRecDepth 100000 in
theorem un_huge1 (a0 : Int) (a1 : ByteArray) (a2 : Int) (kI : ByteArray) (k1 n1 b1 : Int) (s1 : ByteArray) (w : World) (i1 : node_InodeKey.f a0 = some kI) (i2 : node_Kind.f kI = some (k1, n1, s1, b1)) (al : pumicelaw06_alive.f = some true) (f0 : decide (1 ≤ a0) = true) (f1 : decide (a0 ≤ 4096) = false) (f2 : decide (0 ≤ a0) = true) (f3 : decide (a0 ≤ 65535) = false) (f4 : (k1 == 1) = true) (f5 : (k1 != 1) = false) :
    Calls Try.prog 6 #[.int .i64 a0, .string a1, .int .i64 a2] w fun e w' => e = .returned (.bool true) ∧ Below w.heap.size w w' := by
  have Hi1 := Aside0.mk i1
  have Hi2 := Aside0.mk i2
  have Hal := Aside0.mk al
  have HA := Aside0.mk (Holds.start w)
  clear i1 i2 al
  go_enter Try.func6, Try.ntmps6
  go_wp2_with (first
    | (go_at_call 16; (with_reducible apply Calls.mono); (case h => exact node_InodeKey.calls _ _ _ Hi1.out); rintro ew w1 ⟨rfl, hb_⟩; have HB_ := HA.out.call1 hb_ rfl rfl rfl rfl; clear hb_ HA; have HA := Aside0.mk HB_; clear HB_)
    | (go_at_call 30; (with_reducible apply Calls.mono); (case h => first | with_reducible exact node_Kind.calls kI _ _ _ _ _ Hi2.out); rintro ew w1 ⟨rfl, hb_⟩; have HB_ := HA.out.call1 hb_ rfl rfl rfl rfl; clear hb_ HA; have HA := Aside0.mk HB_; clear HB_)
    | (go_at_call 10; (with_reducible apply Calls.mono); (case h => exact pumicelaw06_alive.calls _ _ Hal.out); rintro ew w1 ⟨rfl, hb_⟩; have HB_ := HA.out.call1 hb_ rfl rfl rfl rfl; clear hb_ HA; have HA := Aside0.mk HB_; clear HB_))
  (apply end_one (.tmp 6); (case hres => rfl); (case hd => rfl); (case hvs => apply Vals.tmp; exact .nil); (case hR => exact ⟨rfl, by first | exact HA.out.below | exact (HA.out.any rfl rfl rfl rfl).below⟩))
set_option maxHeartbeats 8000000 in
set_option maxRecDepth 100000 in
theorem un_huge0 (a0 : Int) (a1 : ByteArray) (a2 : Int) (kI : ByteArray) (k1 n1 b1 : Int) (s1 : ByteArray) (w : World) (i1 : node_InodeKey.f a0 = some kI) (i2 : node_Kind.f kI = some (k1, n1, s1, b1)) (al : pumicelaw06_alive.f = some true) (f0 : decide (1 ≤ a0) = true) (f1 : decide (a0 ≤ 4096) = false) (f2 : decide (0 ≤ a0) = true) (f3 : decide (a0 ≤ 65535) = false) (f4 : (k1 == 1) = false) (f5 : (k1 != 1) = true) :
    Calls Try.prog 6 #[.int .i64 a0, .string a1, .int .i64 a2] w fun e w' => e = .returned (.bool true) ∧ Below w.heap.size w w' := by
  have Hi1 := Aside0.mk i1
  have Hi2 := Aside0.mk i2
  have Hal := Aside0.mk al
  have HA := Aside0.mk (Holds.start w)
  clear i1 i2 al
  go_enter Try.func6, Try.ntmps6
  go_wp2_with (first
    | (go_at_call 16; (with_reducible apply Calls.mono); (case h => exact node_InodeKey.calls _ _ _ Hi1.out); rintro ew w1 ⟨rfl, hb_⟩; have HB_ := HA.out.call1 hb_ rfl rfl rfl rfl; clear hb_ HA; have HA := Aside0.mk HB_; clear HB_)
    | (go_at_call 30; (with_reducible apply Calls.mono); (case h => first | with_reducible exact node_Kind.calls kI _ _ _ _ _ Hi2.out); rintro ew w1 ⟨rfl, hb_⟩; have HB_ := HA.out.call1 hb_ rfl rfl rfl rfl; clear hb_ HA; have HA := Aside0.mk HB_; clear HB_)
    | (go_at_call 10; (with_reducible apply Calls.mono); (case h => exact pumicelaw06_alive.calls _ _ Hal.out); rintro ew w1 ⟨rfl, hb_⟩; have HB_ := HA.out.call1 hb_ rfl rfl rfl rfl; clear hb_ HA; have HA := Aside0.mk HB_; clear HB_))
  (apply end_one (.tmp 6); (case hres => rfl); (case hd => rfl); (case hvs => apply Vals.tmp; exact .nil); (case hR => exact ⟨rfl, by first | exact HA.out.below | exact (HA.out.any rfl rfl rfl rfl).below⟩))
set_option maxHeartbeats 8000000 in
set_option maxRecDepth 100000 in
theorem un_zero (a0 : Int) (a1 : ByteArray) (a2 : Int) (kI : ByteArray) (k1 n1 b1 : Int) (s1 : ByteArray) (w : World) (i1 : node_InodeKey.f a0 = some kI) (i2 : node_Kind.f kI = some (k1, n1, s1, b1)) (al : pumicelaw06_alive.f = some true) (f0 : decide (1 ≤ a0) = false) (f1 : decide (0 ≤ a0) = true) (f2 : decide (a0 ≤ 65535) = true) (f3 : (k1 == 1) = false) (f4 : (k1 != 1) = true) :
    Calls Try.prog 6 #[.int .i64 a0, .string a1, .int .i64 a2] w fun e w' => e = .returned (.bool true) ∧ Below w.heap.size w w' := by
  have Hi1 := Aside0.mk i1
  have Hi2 := Aside0.mk i2
  have Hal := Aside0.mk al
  have HA := Aside0.mk (Holds.start w)
  clear i1 i2 al
  go_enter Try.func6, Try.ntmps6
  go_wp2_with (first
    | (go_at_call 16; (with_reducible apply Calls.mono); (case h => exact node_InodeKey.calls _ _ _ Hi1.out); rintro ew w1 ⟨rfl, hb_⟩; have HB_ := HA.out.call1 hb_ rfl rfl rfl rfl; clear hb_ HA; have HA := Aside0.mk HB_; clear HB_)
    | (go_at_call 30; (with_reducible apply Calls.mono); (case h => first | with_reducible exact node_Kind.calls kI _ _ _ _ _ Hi2.out); rintro ew w1 ⟨rfl, hb_⟩; have HB_ := HA.out.call1 hb_ rfl rfl rfl rfl; clear hb_ HA; have HA := Aside0.mk HB_; clear HB_)
    | (go_at_call 10; (with_reducible apply Calls.mono); (case h => exact pumicelaw06_alive.calls _ _ Hal.out); rintro ew w1 ⟨rfl, hb_⟩; have HB_ := HA.out.call1 hb_ rfl rfl rfl rfl; clear hb_ HA; have HA := Aside0.mk HB_; clear HB_))
  (apply end_one (.tmp 6); (case hres => rfl); (case hd => rfl); (case hvs => apply Vals.tmp; exact .nil); (case hR => exact ⟨rfl, by first | exact HA.out.below | exact (HA.out.any rfl rfl rfl rfl).below⟩))
set_option maxHeartbeats 8000000 in
set_option maxRecDepth 100000 in
theorem un_big (a0 : Int) (a1 : ByteArray) (a2 : Int) (kI : ByteArray) (k1 n1 b1 : Int) (s1 : ByteArray) (w : World) (i1 : node_InodeKey.f a0 = some kI) (i2 : node_Kind.f kI = some (k1, n1, s1, b1)) (al : pumicelaw06_alive.f = some true) (f0 : decide (1 ≤ a0) = true) (f1 : decide (a0 ≤ 4096) = false) (f2 : decide (0 ≤ a0) = true) (f3 : decide (a0 ≤ 65535) = true) (f4 : (k1 == 1) = false) (f5 : (k1 != 1) = true) :
    Calls Try.prog 6 #[.int .i64 a0, .string a1, .int .i64 a2] w fun e w' => e = .returned (.bool true) ∧ Below w.heap.size w w' := by
  have Hi1 := Aside0.mk i1
  have Hi2 := Aside0.mk i2
  have Hal := Aside0.mk al
  have HA := Aside0.mk (Holds.start w)
  clear i1 i2 al
  go_enter Try.func6, Try.ntmps6
  go_wp2_with (first
    | (go_at_call 16; (with_reducible apply Calls.mono); (case h => exact node_InodeKey.calls _ _ _ Hi1.out); rintro ew w1 ⟨rfl, hb_⟩; have HB_ := HA.out.call1 hb_ rfl rfl rfl rfl; clear hb_ HA; have HA := Aside0.mk HB_; clear HB_)
    | (go_at_call 30; (with_reducible apply Calls.mono); (case h => first | with_reducible exact node_Kind.calls kI _ _ _ _ _ Hi2.out); rintro ew w1 ⟨rfl, hb_⟩; have HB_ := HA.out.call1 hb_ rfl rfl rfl rfl; clear hb_ HA; have HA := Aside0.mk HB_; clear HB_)
    | (go_at_call 10; (with_reducible apply Calls.mono); (case h => exact pumicelaw06_alive.calls _ _ Hal.out); rintro ew w1 ⟨rfl, hb_⟩; have HB_ := HA.out.call1 hb_ rfl rfl rfl rfl; clear hb_ HA; have HA := Aside0.mk HB_; clear HB_))
  (apply end_one (.tmp 6); (case hres => rfl); (case hd => rfl); (case hvs => apply Vals.tmp; exact .nil); (case hR => exact ⟨rfl, by first | exact HA.out.below | exact (HA.out.any rfl rfl rfl rfl).below⟩))
set_option maxHeartbeats 8000000 in
set_option maxRecDepth 100000 in
theorem un_in1 (a0 : Int) (a1 : ByteArray) (a2 : Int) (kI : ByteArray) (k1 n1 b1 : Int) (s1 : ByteArray) (w : World) (i1 : node_InodeKey.f a0 = some kI) (i2 : node_Kind.f kI = some (k1, n1, s1, b1)) (al : pumicelaw06_alive.f = some true) (kE kB kO : ByteArray) (k2 n2 b2 k3 n3 b3 k4 n4 b4 e : Int) (s2 s3 s4 : ByteArray) (e1 : node_EntryKey.f a0 a1 = some kE) (e2 : node_Kind.f kE = some (k2, n2, s2, b2)) (e3 : names_Right.f a1 = some e) (q1 : node_BlockKey.f a0 a2 = some kB) (q2 : node_Kind.f kB = some (k3, n3, s3, b3)) (o1 : node_OrphanKey.f a0 = some kO) (o2 : node_Kind.f kO = some (k4, n4, s4, b4)) (f0 : decide (1 ≤ a0) = true) (f1 : decide (a0 ≤ 4096) = true) (f2 : decide (0 ≤ a0) = true) (f3 : decide (a0 ≤ 65535) = true) (f4 : (k1 == 1) = true) (f5 : (k1 != 1) = false) (f6 : (n1 == a0) = true) (f7 : (n1 != a0) = false) (f8 : (k2 == 2) = true) (f9 : (k2 != 2) = false) (f10 : (e == 0) = true) (f11 : (e != 0) = false) (f12 : (n2 == a0) = true) (f13 : (n2 != a0) = false) (f14 : (s2.toList == a1.toList) = true) (f15 : decide (0 ≤ a2) = true) (f16 : decide (a2 < 128) = true) (f17 : (k3 == 3) = true) (f18 : (k3 != 3) = false) (f19 : (n3 == a0) = true) (f20 : (n3 != a0) = false) (f21 : (b3 == a2) = true) (f22 : (b3 != a2) = false) (f23 : (k4 == 4) = true) (f24 : (k4 != 4) = false) (f25 : (n4 == a0) = true) (f26 : (n4 != a0) = false) :
    Calls Try.prog 6 #[.int .i64 a0, .string a1, .int .i64 a2] w fun e w' => e = .returned (.bool true) ∧ Below w.heap.size w w' := by
  have Hi1 := Aside0.mk i1
  have Hi2 := Aside0.mk i2
  have Hal := Aside0.mk al
  have He1 := Aside0.mk e1
  have He2 := Aside0.mk e2
  have He3 := Aside0.mk e3
  have Hq1 := Aside0.mk q1
  have Hq2 := Aside0.mk q2
  have Ho1 := Aside0.mk o1
  have Ho2 := Aside0.mk o2
  have HA := Aside0.mk (Holds.start w)
  clear i1 i2 al e1 e2 e3 q1 q2 o1 o2
  go_enter Try.func6, Try.ntmps6
  go_wp2_with (first
    | (go_at_call 16; (with_reducible apply Calls.mono); (case h => exact node_InodeKey.calls _ _ _ Hi1.out); rintro ew w1 ⟨rfl, hb_⟩; have HB_ := HA.out.call1 hb_ rfl rfl rfl rfl; clear hb_ HA; have HA := Aside0.mk HB_; clear HB_)
    | (go_at_call 30; (with_reducible apply Calls.mono); (case h => first | with_reducible exact node_Kind.calls kI _ _ _ _ _ Hi2.out | with_reducible exact node_Kind.calls kE _ _ _ _ _ He2.out | with_reducible exact node_Kind.calls kB _ _ _ _ _ Hq2.out | with_reducible exact node_Kind.calls kO _ _ _ _ _ Ho2.out); rintro ew w1 ⟨rfl, hb_⟩; have HB_ := HA.out.call1 hb_ rfl rfl rfl rfl; clear hb_ HA; have HA := Aside0.mk HB_; clear HB_)
    | (go_at_call 10; (with_reducible apply Calls.mono); (case h => exact pumicelaw06_alive.calls _ _ Hal.out); rintro ew w1 ⟨rfl, hb_⟩; have HB_ := HA.out.call1 hb_ rfl rfl rfl rfl; clear hb_ HA; have HA := Aside0.mk HB_; clear HB_)
    | (go_at_call 12; (with_reducible apply Calls.mono); (case h => exact node_EntryKey.calls _ _ _ _ He1.out); rintro ew w1 ⟨rfl, hb_⟩; have HB_ := HA.out.call1 hb_ rfl rfl rfl rfl; clear hb_ HA; have HA := Aside0.mk HB_; clear HB_)
    | (go_at_call 31; (with_reducible apply Calls.mono); (case h => exact names_Right.calls _ _ _ He3.out); rintro ew w1 ⟨rfl, hb_⟩; have HB_ := HA.out.call1 hb_ rfl rfl rfl rfl; clear hb_ HA; have HA := Aside0.mk HB_; clear HB_)
    | (go_at_call 13; (with_reducible apply Calls.mono); (case h => exact node_BlockKey.calls _ _ _ _ Hq1.out); rintro ew w1 ⟨rfl, hb_⟩; have HB_ := HA.out.call1 hb_ rfl rfl rfl rfl; clear hb_ HA; have HA := Aside0.mk HB_; clear HB_)
    | (go_at_call 17; (with_reducible apply Calls.mono); (case h => exact node_OrphanKey.calls _ _ _ Ho1.out); rintro ew w1 ⟨rfl, hb_⟩; have HB_ := HA.out.call1 hb_ rfl rfl rfl rfl; clear hb_ HA; have HA := Aside0.mk HB_; clear HB_))
  (apply end_one (.tmp 6); (case hres => rfl); (case hd => rfl); (case hvs => apply Vals.tmp; exact .nil); (case hR => exact ⟨rfl, by first | exact HA.out.below | exact (HA.out.any rfl rfl rfl rfl).below⟩))
set_option maxHeartbeats 8000000 in
set_option maxRecDepth 100000 in
theorem un_lo1 (a0 : Int) (a1 : ByteArray) (a2 : Int) (kI : ByteArray) (k1 n1 b1 : Int) (s1 : ByteArray) (w : World) (i1 : node_InodeKey.f a0 = some kI) (i2 : node_Kind.f kI = some (k1, n1, s1, b1)) (al : pumicelaw06_alive.f = some true) (kE kB kO : ByteArray) (k2 n2 b2 k3 n3 b3 k4 n4 b4 e : Int) (s2 s3 s4 : ByteArray) (e1 : node_EntryKey.f a0 a1 = some kE) (e2 : node_Kind.f kE = some (k2, n2, s2, b2)) (e3 : names_Right.f a1 = some e) (q1 : node_BlockKey.f a0 a2 = some kB) (q2 : node_Kind.f kB = some (k3, n3, s3, b3)) (o1 : node_OrphanKey.f a0 = some kO) (o2 : node_Kind.f kO = some (k4, n4, s4, b4)) (f0 : decide (1 ≤ a0) = true) (f1 : decide (a0 ≤ 4096) = true) (f2 : decide (0 ≤ a0) = true) (f3 : decide (a0 ≤ 65535) = true) (f4 : (k1 == 1) = true) (f5 : (k1 != 1) = false) (f6 : (n1 == a0) = true) (f7 : (n1 != a0) = false) (f8 : (k2 == 2) = true) (f9 : (k2 != 2) = false) (f10 : (e == 0) = true) (f11 : (e != 0) = false) (f12 : (n2 == a0) = true) (f13 : (n2 != a0) = false) (f14 : (s2.toList == a1.toList) = true) (f15 : decide (0 ≤ a2) = false) (f16 : (k4 == 4) = true) (f17 : (k4 != 4) = false) (f18 : (n4 == a0) = true) (f19 : (n4 != a0) = false) :
    Calls Try.prog 6 #[.int .i64 a0, .string a1, .int .i64 a2] w fun e w' => e = .returned (.bool true) ∧ Below w.heap.size w w' := by
  have Hi1 := Aside0.mk i1
  have Hi2 := Aside0.mk i2
  have Hal := Aside0.mk al
  have He1 := Aside0.mk e1
  have He2 := Aside0.mk e2
  have He3 := Aside0.mk e3
  have Hq1 := Aside0.mk q1
  have Hq2 := Aside0.mk q2
  have Ho1 := Aside0.mk o1
  have Ho2 := Aside0.mk o2
  have HA := Aside0.mk (Holds.start w)
  clear i1 i2 al e1 e2 e3 q1 q2 o1 o2
  go_enter Try.func6, Try.ntmps6
  go_wp2_with (first
    | (go_at_call 16; (with_reducible apply Calls.mono); (case h => exact node_InodeKey.calls _ _ _ Hi1.out); rintro ew w1 ⟨rfl, hb_⟩; have HB_ := HA.out.call1 hb_ rfl rfl rfl rfl; clear hb_ HA; have HA := Aside0.mk HB_; clear HB_)
    | (go_at_call 30; (with_reducible apply Calls.mono); (case h => first | with_reducible exact node_Kind.calls kI _ _ _ _ _ Hi2.out | with_reducible exact node_Kind.calls kE _ _ _ _ _ He2.out | with_reducible exact node_Kind.calls kB _ _ _ _ _ Hq2.out | with_reducible exact node_Kind.calls kO _ _ _ _ _ Ho2.out); rintro ew w1 ⟨rfl, hb_⟩; have HB_ := HA.out.call1 hb_ rfl rfl rfl rfl; clear hb_ HA; have HA := Aside0.mk HB_; clear HB_)
    | (go_at_call 10; (with_reducible apply Calls.mono); (case h => exact pumicelaw06_alive.calls _ _ Hal.out); rintro ew w1 ⟨rfl, hb_⟩; have HB_ := HA.out.call1 hb_ rfl rfl rfl rfl; clear hb_ HA; have HA := Aside0.mk HB_; clear HB_)
    | (go_at_call 12; (with_reducible apply Calls.mono); (case h => exact node_EntryKey.calls _ _ _ _ He1.out); rintro ew w1 ⟨rfl, hb_⟩; have HB_ := HA.out.call1 hb_ rfl rfl rfl rfl; clear hb_ HA; have HA := Aside0.mk HB_; clear HB_)
    | (go_at_call 31; (with_reducible apply Calls.mono); (case h => exact names_Right.calls _ _ _ He3.out); rintro ew w1 ⟨rfl, hb_⟩; have HB_ := HA.out.call1 hb_ rfl rfl rfl rfl; clear hb_ HA; have HA := Aside0.mk HB_; clear HB_)
    | (go_at_call 13; (with_reducible apply Calls.mono); (case h => exact node_BlockKey.calls _ _ _ _ Hq1.out); rintro ew w1 ⟨rfl, hb_⟩; have HB_ := HA.out.call1 hb_ rfl rfl rfl rfl; clear hb_ HA; have HA := Aside0.mk HB_; clear HB_)
    | (go_at_call 17; (with_reducible apply Calls.mono); (case h => exact node_OrphanKey.calls _ _ _ Ho1.out); rintro ew w1 ⟨rfl, hb_⟩; have HB_ := HA.out.call1 hb_ rfl rfl rfl rfl; clear hb_ HA; have HA := Aside0.mk HB_; clear HB_))
  (apply end_one (.tmp 6); (case hres => rfl); (case hd => rfl); (case hvs => apply Vals.tmp; exact .nil); (case hR => exact ⟨rfl, by first | exact HA.out.below | exact (HA.out.any rfl rfl rfl rfl).below⟩))
set_option maxHeartbeats 8000000 in
set_option maxRecDepth 100000 in
theorem un_hi1 (a0 : Int) (a1 : ByteArray) (a2 : Int) (kI : ByteArray) (k1 n1 b1 : Int) (s1 : ByteArray) (w : World) (i1 : node_InodeKey.f a0 = some kI) (i2 : node_Kind.f kI = some (k1, n1, s1, b1)) (al : pumicelaw06_alive.f = some true) (kE kB kO : ByteArray) (k2 n2 b2 k3 n3 b3 k4 n4 b4 e : Int) (s2 s3 s4 : ByteArray) (e1 : node_EntryKey.f a0 a1 = some kE) (e2 : node_Kind.f kE = some (k2, n2, s2, b2)) (e3 : names_Right.f a1 = some e) (q1 : node_BlockKey.f a0 a2 = some kB) (q2 : node_Kind.f kB = some (k3, n3, s3, b3)) (o1 : node_OrphanKey.f a0 = some kO) (o2 : node_Kind.f kO = some (k4, n4, s4, b4)) (f0 : decide (1 ≤ a0) = true) (f1 : decide (a0 ≤ 4096) = true) (f2 : decide (0 ≤ a0) = true) (f3 : decide (a0 ≤ 65535) = true) (f4 : (k1 == 1) = true) (f5 : (k1 != 1) = false) (f6 : (n1 == a0) = true) (f7 : (n1 != a0) = false) (f8 : (k2 == 2) = true) (f9 : (k2 != 2) = false) (f10 : (e == 0) = true) (f11 : (e != 0) = false) (f12 : (n2 == a0) = true) (f13 : (n2 != a0) = false) (f14 : (s2.toList == a1.toList) = true) (f15 : decide (0 ≤ a2) = true) (f16 : decide (a2 < 128) = false) (f17 : (k4 == 4) = true) (f18 : (k4 != 4) = false) (f19 : (n4 == a0) = true) (f20 : (n4 != a0) = false) :
    Calls Try.prog 6 #[.int .i64 a0, .string a1, .int .i64 a2] w fun e w' => e = .returned (.bool true) ∧ Below w.heap.size w w' := by
  have Hi1 := Aside0.mk i1
  have Hi2 := Aside0.mk i2
  have Hal := Aside0.mk al
  have He1 := Aside0.mk e1
  have He2 := Aside0.mk e2
  have He3 := Aside0.mk e3
  have Hq1 := Aside0.mk q1
  have Hq2 := Aside0.mk q2
  have Ho1 := Aside0.mk o1
  have Ho2 := Aside0.mk o2
  have HA := Aside0.mk (Holds.start w)
  clear i1 i2 al e1 e2 e3 q1 q2 o1 o2
  go_enter Try.func6, Try.ntmps6
  go_wp2_with (first
    | (go_at_call 16; (with_reducible apply Calls.mono); (case h => exact node_InodeKey.calls _ _ _ Hi1.out); rintro ew w1 ⟨rfl, hb_⟩; have HB_ := HA.out.call1 hb_ rfl rfl rfl rfl; clear hb_ HA; have HA := Aside0.mk HB_; clear HB_)
    | (go_at_call 30; (with_reducible apply Calls.mono); (case h => first | with_reducible exact node_Kind.calls kI _ _ _ _ _ Hi2.out | with_reducible exact node_Kind.calls kE _ _ _ _ _ He2.out | with_reducible exact node_Kind.calls kB _ _ _ _ _ Hq2.out | with_reducible exact node_Kind.calls kO _ _ _ _ _ Ho2.out); rintro ew w1 ⟨rfl, hb_⟩; have HB_ := HA.out.call1 hb_ rfl rfl rfl rfl; clear hb_ HA; have HA := Aside0.mk HB_; clear HB_)
    | (go_at_call 10; (with_reducible apply Calls.mono); (case h => exact pumicelaw06_alive.calls _ _ Hal.out); rintro ew w1 ⟨rfl, hb_⟩; have HB_ := HA.out.call1 hb_ rfl rfl rfl rfl; clear hb_ HA; have HA := Aside0.mk HB_; clear HB_)
    | (go_at_call 12; (with_reducible apply Calls.mono); (case h => exact node_EntryKey.calls _ _ _ _ He1.out); rintro ew w1 ⟨rfl, hb_⟩; have HB_ := HA.out.call1 hb_ rfl rfl rfl rfl; clear hb_ HA; have HA := Aside0.mk HB_; clear HB_)
    | (go_at_call 31; (with_reducible apply Calls.mono); (case h => exact names_Right.calls _ _ _ He3.out); rintro ew w1 ⟨rfl, hb_⟩; have HB_ := HA.out.call1 hb_ rfl rfl rfl rfl; clear hb_ HA; have HA := Aside0.mk HB_; clear HB_)
    | (go_at_call 13; (with_reducible apply Calls.mono); (case h => exact node_BlockKey.calls _ _ _ _ Hq1.out); rintro ew w1 ⟨rfl, hb_⟩; have HB_ := HA.out.call1 hb_ rfl rfl rfl rfl; clear hb_ HA; have HA := Aside0.mk HB_; clear HB_)
    | (go_at_call 17; (with_reducible apply Calls.mono); (case h => exact node_OrphanKey.calls _ _ _ Ho1.out); rintro ew w1 ⟨rfl, hb_⟩; have HB_ := HA.out.call1 hb_ rfl rfl rfl rfl; clear hb_ HA; have HA := Aside0.mk HB_; clear HB_))
  (apply end_one (.tmp 6); (case hres => rfl); (case hd => rfl); (case hvs => apply Vals.tmp; exact .nil); (case hR => exact ⟨rfl, by first | exact HA.out.below | exact (HA.out.any rfl rfl rfl rfl).below⟩))
set_option maxHeartbeats 8000000 in
set_option maxRecDepth 100000 in
theorem un_in0 (a0 : Int) (a1 : ByteArray) (a2 : Int) (kI : ByteArray) (k1 n1 b1 : Int) (s1 : ByteArray) (w : World) (i1 : node_InodeKey.f a0 = some kI) (i2 : node_Kind.f kI = some (k1, n1, s1, b1)) (al : pumicelaw06_alive.f = some true) (kE kB kO : ByteArray) (k2 n2 b2 k3 n3 b3 k4 n4 b4 e : Int) (s2 s3 s4 : ByteArray) (e1 : node_EntryKey.f a0 a1 = some kE) (e2 : node_Kind.f kE = some (k2, n2, s2, b2)) (e3 : names_Right.f a1 = some e) (q1 : node_BlockKey.f a0 a2 = some kB) (q2 : node_Kind.f kB = some (k3, n3, s3, b3)) (o1 : node_OrphanKey.f a0 = some kO) (o2 : node_Kind.f kO = some (k4, n4, s4, b4)) (f0 : decide (1 ≤ a0) = true) (f1 : decide (a0 ≤ 4096) = true) (f2 : decide (0 ≤ a0) = true) (f3 : decide (a0 ≤ 65535) = true) (f4 : (k1 == 1) = true) (f5 : (k1 != 1) = false) (f6 : (n1 == a0) = true) (f7 : (n1 != a0) = false) (f8 : (k2 == 2) = false) (f9 : (k2 != 2) = true) (f10 : (e == 0) = false) (f11 : (e != 0) = true) (f12 : decide (0 ≤ a2) = true) (f13 : decide (a2 < 128) = true) (f14 : (k3 == 3) = true) (f15 : (k3 != 3) = false) (f16 : (n3 == a0) = true) (f17 : (n3 != a0) = false) (f18 : (b3 == a2) = true) (f19 : (b3 != a2) = false) (f20 : (k4 == 4) = true) (f21 : (k4 != 4) = false) (f22 : (n4 == a0) = true) (f23 : (n4 != a0) = false) :
    Calls Try.prog 6 #[.int .i64 a0, .string a1, .int .i64 a2] w fun e w' => e = .returned (.bool true) ∧ Below w.heap.size w w' := by
  have Hi1 := Aside0.mk i1
  have Hi2 := Aside0.mk i2
  have Hal := Aside0.mk al
  have He1 := Aside0.mk e1
  have He2 := Aside0.mk e2
  have He3 := Aside0.mk e3
  have Hq1 := Aside0.mk q1
  have Hq2 := Aside0.mk q2
  have Ho1 := Aside0.mk o1
  have Ho2 := Aside0.mk o2
  have HA := Aside0.mk (Holds.start w)
  clear i1 i2 al e1 e2 e3 q1 q2 o1 o2
  go_enter Try.func6, Try.ntmps6
  go_wp2_with (first
    | (go_at_call 16; (with_reducible apply Calls.mono); (case h => exact node_InodeKey.calls _ _ _ Hi1.out); rintro ew w1 ⟨rfl, hb_⟩; have HB_ := HA.out.call1 hb_ rfl rfl rfl rfl; clear hb_ HA; have HA := Aside0.mk HB_; clear HB_)
    | (go_at_call 30; (with_reducible apply Calls.mono); (case h => first | with_reducible exact node_Kind.calls kI _ _ _ _ _ Hi2.out | with_reducible exact node_Kind.calls kE _ _ _ _ _ He2.out | with_reducible exact node_Kind.calls kB _ _ _ _ _ Hq2.out | with_reducible exact node_Kind.calls kO _ _ _ _ _ Ho2.out); rintro ew w1 ⟨rfl, hb_⟩; have HB_ := HA.out.call1 hb_ rfl rfl rfl rfl; clear hb_ HA; have HA := Aside0.mk HB_; clear HB_)
    | (go_at_call 10; (with_reducible apply Calls.mono); (case h => exact pumicelaw06_alive.calls _ _ Hal.out); rintro ew w1 ⟨rfl, hb_⟩; have HB_ := HA.out.call1 hb_ rfl rfl rfl rfl; clear hb_ HA; have HA := Aside0.mk HB_; clear HB_)
    | (go_at_call 12; (with_reducible apply Calls.mono); (case h => exact node_EntryKey.calls _ _ _ _ He1.out); rintro ew w1 ⟨rfl, hb_⟩; have HB_ := HA.out.call1 hb_ rfl rfl rfl rfl; clear hb_ HA; have HA := Aside0.mk HB_; clear HB_)
    | (go_at_call 31; (with_reducible apply Calls.mono); (case h => exact names_Right.calls _ _ _ He3.out); rintro ew w1 ⟨rfl, hb_⟩; have HB_ := HA.out.call1 hb_ rfl rfl rfl rfl; clear hb_ HA; have HA := Aside0.mk HB_; clear HB_)
    | (go_at_call 13; (with_reducible apply Calls.mono); (case h => exact node_BlockKey.calls _ _ _ _ Hq1.out); rintro ew w1 ⟨rfl, hb_⟩; have HB_ := HA.out.call1 hb_ rfl rfl rfl rfl; clear hb_ HA; have HA := Aside0.mk HB_; clear HB_)
    | (go_at_call 17; (with_reducible apply Calls.mono); (case h => exact node_OrphanKey.calls _ _ _ Ho1.out); rintro ew w1 ⟨rfl, hb_⟩; have HB_ := HA.out.call1 hb_ rfl rfl rfl rfl; clear hb_ HA; have HA := Aside0.mk HB_; clear HB_))
  (apply end_one (.tmp 6); (case hres => rfl); (case hd => rfl); (case hvs => apply Vals.tmp; exact .nil); (case hR => exact ⟨rfl, by first | exact HA.out.below | exact (HA.out.any rfl rfl rfl rfl).below⟩))
set_option maxHeartbeats 8000000 in
set_option maxRecDepth 100000 in
theorem un_lo0 (a0 : Int) (a1 : ByteArray) (a2 : Int) (kI : ByteArray) (k1 n1 b1 : Int) (s1 : ByteArray) (w : World) (i1 : node_InodeKey.f a0 = some kI) (i2 : node_Kind.f kI = some (k1, n1, s1, b1)) (al : pumicelaw06_alive.f = some true) (kE kB kO : ByteArray) (k2 n2 b2 k3 n3 b3 k4 n4 b4 e : Int) (s2 s3 s4 : ByteArray) (e1 : node_EntryKey.f a0 a1 = some kE) (e2 : node_Kind.f kE = some (k2, n2, s2, b2)) (e3 : names_Right.f a1 = some e) (q1 : node_BlockKey.f a0 a2 = some kB) (q2 : node_Kind.f kB = some (k3, n3, s3, b3)) (o1 : node_OrphanKey.f a0 = some kO) (o2 : node_Kind.f kO = some (k4, n4, s4, b4)) (f0 : decide (1 ≤ a0) = true) (f1 : decide (a0 ≤ 4096) = true) (f2 : decide (0 ≤ a0) = true) (f3 : decide (a0 ≤ 65535) = true) (f4 : (k1 == 1) = true) (f5 : (k1 != 1) = false) (f6 : (n1 == a0) = true) (f7 : (n1 != a0) = false) (f8 : (k2 == 2) = false) (f9 : (k2 != 2) = true) (f10 : (e == 0) = false) (f11 : (e != 0) = true) (f12 : decide (0 ≤ a2) = false) (f13 : (k4 == 4) = true) (f14 : (k4 != 4) = false) (f15 : (n4 == a0) = true) (f16 : (n4 != a0) = false) :
    Calls Try.prog 6 #[.int .i64 a0, .string a1, .int .i64 a2] w fun e w' => e = .returned (.bool true) ∧ Below w.heap.size w w' := by
  have Hi1 := Aside0.mk i1
  have Hi2 := Aside0.mk i2
  have Hal := Aside0.mk al
  have He1 := Aside0.mk e1
  have He2 := Aside0.mk e2
  have He3 := Aside0.mk e3
  have Hq1 := Aside0.mk q1
  have Hq2 := Aside0.mk q2
  have Ho1 := Aside0.mk o1
  have Ho2 := Aside0.mk o2
  have HA := Aside0.mk (Holds.start w)
  clear i1 i2 al e1 e2 e3 q1 q2 o1 o2
  go_enter Try.func6, Try.ntmps6
  go_wp2_with (first
    | (go_at_call 16; (with_reducible apply Calls.mono); (case h => exact node_InodeKey.calls _ _ _ Hi1.out); rintro ew w1 ⟨rfl, hb_⟩; have HB_ := HA.out.call1 hb_ rfl rfl rfl rfl; clear hb_ HA; have HA := Aside0.mk HB_; clear HB_)
    | (go_at_call 30; (with_reducible apply Calls.mono); (case h => first | with_reducible exact node_Kind.calls kI _ _ _ _ _ Hi2.out | with_reducible exact node_Kind.calls kE _ _ _ _ _ He2.out | with_reducible exact node_Kind.calls kB _ _ _ _ _ Hq2.out | with_reducible exact node_Kind.calls kO _ _ _ _ _ Ho2.out); rintro ew w1 ⟨rfl, hb_⟩; have HB_ := HA.out.call1 hb_ rfl rfl rfl rfl; clear hb_ HA; have HA := Aside0.mk HB_; clear HB_)
    | (go_at_call 10; (with_reducible apply Calls.mono); (case h => exact pumicelaw06_alive.calls _ _ Hal.out); rintro ew w1 ⟨rfl, hb_⟩; have HB_ := HA.out.call1 hb_ rfl rfl rfl rfl; clear hb_ HA; have HA := Aside0.mk HB_; clear HB_)
    | (go_at_call 12; (with_reducible apply Calls.mono); (case h => exact node_EntryKey.calls _ _ _ _ He1.out); rintro ew w1 ⟨rfl, hb_⟩; have HB_ := HA.out.call1 hb_ rfl rfl rfl rfl; clear hb_ HA; have HA := Aside0.mk HB_; clear HB_)
    | (go_at_call 31; (with_reducible apply Calls.mono); (case h => exact names_Right.calls _ _ _ He3.out); rintro ew w1 ⟨rfl, hb_⟩; have HB_ := HA.out.call1 hb_ rfl rfl rfl rfl; clear hb_ HA; have HA := Aside0.mk HB_; clear HB_)
    | (go_at_call 13; (with_reducible apply Calls.mono); (case h => exact node_BlockKey.calls _ _ _ _ Hq1.out); rintro ew w1 ⟨rfl, hb_⟩; have HB_ := HA.out.call1 hb_ rfl rfl rfl rfl; clear hb_ HA; have HA := Aside0.mk HB_; clear HB_)
    | (go_at_call 17; (with_reducible apply Calls.mono); (case h => exact node_OrphanKey.calls _ _ _ Ho1.out); rintro ew w1 ⟨rfl, hb_⟩; have HB_ := HA.out.call1 hb_ rfl rfl rfl rfl; clear hb_ HA; have HA := Aside0.mk HB_; clear HB_))
  (apply end_one (.tmp 6); (case hres => rfl); (case hd => rfl); (case hvs => apply Vals.tmp; exact .nil); (case hR => exact ⟨rfl, by first | exact HA.out.below | exact (HA.out.any rfl rfl rfl rfl).below⟩))
set_option maxHeartbeats 8000000 in
set_option maxRecDepth 100000 in
theorem un_hi0 (a0 : Int) (a1 : ByteArray) (a2 : Int) (kI : ByteArray) (k1 n1 b1 : Int) (s1 : ByteArray) (w : World) (i1 : node_InodeKey.f a0 = some kI) (i2 : node_Kind.f kI = some (k1, n1, s1, b1)) (al : pumicelaw06_alive.f = some true) (kE kB kO : ByteArray) (k2 n2 b2 k3 n3 b3 k4 n4 b4 e : Int) (s2 s3 s4 : ByteArray) (e1 : node_EntryKey.f a0 a1 = some kE) (e2 : node_Kind.f kE = some (k2, n2, s2, b2)) (e3 : names_Right.f a1 = some e) (q1 : node_BlockKey.f a0 a2 = some kB) (q2 : node_Kind.f kB = some (k3, n3, s3, b3)) (o1 : node_OrphanKey.f a0 = some kO) (o2 : node_Kind.f kO = some (k4, n4, s4, b4)) (f0 : decide (1 ≤ a0) = true) (f1 : decide (a0 ≤ 4096) = true) (f2 : decide (0 ≤ a0) = true) (f3 : decide (a0 ≤ 65535) = true) (f4 : (k1 == 1) = true) (f5 : (k1 != 1) = false) (f6 : (n1 == a0) = true) (f7 : (n1 != a0) = false) (f8 : (k2 == 2) = false) (f9 : (k2 != 2) = true) (f10 : (e == 0) = false) (f11 : (e != 0) = true) (f12 : decide (0 ≤ a2) = true) (f13 : decide (a2 < 128) = false) (f14 : (k4 == 4) = true) (f15 : (k4 != 4) = false) (f16 : (n4 == a0) = true) (f17 : (n4 != a0) = false) :
    Calls Try.prog 6 #[.int .i64 a0, .string a1, .int .i64 a2] w fun e w' => e = .returned (.bool true) ∧ Below w.heap.size w w' := by
  have Hi1 := Aside0.mk i1
  have Hi2 := Aside0.mk i2
  have Hal := Aside0.mk al
  have He1 := Aside0.mk e1
  have He2 := Aside0.mk e2
  have He3 := Aside0.mk e3
  have Hq1 := Aside0.mk q1
  have Hq2 := Aside0.mk q2
  have Ho1 := Aside0.mk o1
  have Ho2 := Aside0.mk o2
  have HA := Aside0.mk (Holds.start w)
  clear i1 i2 al e1 e2 e3 q1 q2 o1 o2
  go_enter Try.func6, Try.ntmps6
  go_wp2_with (first
    | (go_at_call 16; (with_reducible apply Calls.mono); (case h => exact node_InodeKey.calls _ _ _ Hi1.out); rintro ew w1 ⟨rfl, hb_⟩; have HB_ := HA.out.call1 hb_ rfl rfl rfl rfl; clear hb_ HA; have HA := Aside0.mk HB_; clear HB_)
    | (go_at_call 30; (with_reducible apply Calls.mono); (case h => first | with_reducible exact node_Kind.calls kI _ _ _ _ _ Hi2.out | with_reducible exact node_Kind.calls kE _ _ _ _ _ He2.out | with_reducible exact node_Kind.calls kB _ _ _ _ _ Hq2.out | with_reducible exact node_Kind.calls kO _ _ _ _ _ Ho2.out); rintro ew w1 ⟨rfl, hb_⟩; have HB_ := HA.out.call1 hb_ rfl rfl rfl rfl; clear hb_ HA; have HA := Aside0.mk HB_; clear HB_)
    | (go_at_call 10; (with_reducible apply Calls.mono); (case h => exact pumicelaw06_alive.calls _ _ Hal.out); rintro ew w1 ⟨rfl, hb_⟩; have HB_ := HA.out.call1 hb_ rfl rfl rfl rfl; clear hb_ HA; have HA := Aside0.mk HB_; clear HB_)
    | (go_at_call 12; (with_reducible apply Calls.mono); (case h => exact node_EntryKey.calls _ _ _ _ He1.out); rintro ew w1 ⟨rfl, hb_⟩; have HB_ := HA.out.call1 hb_ rfl rfl rfl rfl; clear hb_ HA; have HA := Aside0.mk HB_; clear HB_)
    | (go_at_call 31; (with_reducible apply Calls.mono); (case h => exact names_Right.calls _ _ _ He3.out); rintro ew w1 ⟨rfl, hb_⟩; have HB_ := HA.out.call1 hb_ rfl rfl rfl rfl; clear hb_ HA; have HA := Aside0.mk HB_; clear HB_)
    | (go_at_call 13; (with_reducible apply Calls.mono); (case h => exact node_BlockKey.calls _ _ _ _ Hq1.out); rintro ew w1 ⟨rfl, hb_⟩; have HB_ := HA.out.call1 hb_ rfl rfl rfl rfl; clear hb_ HA; have HA := Aside0.mk HB_; clear HB_)
    | (go_at_call 17; (with_reducible apply Calls.mono); (case h => exact node_OrphanKey.calls _ _ _ Ho1.out); rintro ew w1 ⟨rfl, hb_⟩; have HB_ := HA.out.call1 hb_ rfl rfl rfl rfl; clear hb_ HA; have HA := Aside0.mk HB_; clear HB_))
  (apply end_one (.tmp 6); (case hres => rfl); (case hd => rfl); (case hvs => apply Vals.tmp; exact .nil); (case hR => exact ⟨rfl, by first | exact HA.out.below | exact (HA.out.any rfl rfl rfl rfl).below⟩))
end Go.Proofs.Ytakchpeohmkpkaa.Q
