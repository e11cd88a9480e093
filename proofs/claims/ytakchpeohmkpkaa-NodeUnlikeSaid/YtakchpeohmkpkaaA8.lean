/- NodeUnlike: what is walked, joined with what it computes. -/
import Derived.Test.YtakchpeohmkpkaaA4
import Derived.Test.YtakchpeohmkpkaaG6
namespace Go.Proofs.Ytakchpeohmkpkaa.Q
open Go.RowKit Go.Proofs.YtakchpeohmkpkaaW.PrintWords
set_option linter.unusedVariables false
set_option linter.unusedSimpArgs false
theorem ba_ext {a b : ByteArray} (h : a.toList = b.toList) : a = b := by
  rw [Lib.toList_data, Lib.toList_data] at h
  cases a
  cases b
  congr 1
  exact Array.toList_inj.1 h
theorem bt_of (s : ByteArray) (i : Nat) (x : Int) (hx : 0 ≤ x ∧ x < 256) (h : s.toList[i]? = some (u8_ x)) : bt s (i : Int) = x := by
  have hi : i < s.size := by
    rw [size_l]
    exact (List.getElem?_eq_some_iff.1 h).1
  obtain ⟨h1, h2⟩ := bt_get s i hi
  rw [h] at h1
  have := bt_range s (i : Int)
  exact ((u8_eq hx (by omega)).1 (Option.some.inj h1)).symm
theorem num2_of (s : ByteArray) (x y : Int) (r : List UInt8) (hx : 0 ≤ x ∧ x < 256) (hy : 0 ≤ y ∧ y < 256) (h : s.toList = u8_ x :: u8_ y :: r) : num2 s = x * 256 + y := by
  unfold num2
  have h0 := bt_of s 0 x hx (by rw [h]; rfl)
  have h1 := bt_of s 1 y hy (by rw [h]; rfl)
  rw [show ((0 : Nat) : Int) = 0 from rfl] at h0
  rw [show ((1 : Nat) : Int) = 1 from rfl] at h1
  rw [h0, h1]
theorem ext_list (s : ByteArray) (a b : Nat) : (s.extract a b).toList = (s.toList.take b).drop a := by
  rw [Lib.toList_data, Lib.toList_data]
  simp [List.drop_take]
theorem kind_key (s : ByteArray) (x y z : Int) (r : List UInt8) (hx : 0 ≤ x ∧ x < 256) (hy : 0 ≤ y ∧ y < 256) (hz : 0 ≤ z ∧ z < 256) (h : s.toList = u8_ x :: u8_ y :: u8_ z :: r) (hs : s.size ≤ 281474976710656) :
    ∃ rest, rest.toList = r ∧ node_Kind.f s = some (kindK ((x * 256 + y == 0) && decide (z = 4)) (nameE rest) (x * 256 + y) z rest) := by
  have hl : s.size = r.length + 3 := by rw [size_l, h]; rfl
  refine ⟨s.extract 3 s.size, ?_, ?_⟩
  · rw [ext_list, size_l, List.take_length, h]
    rfl
  · rw [← kind_same s hs]
    unfold pumiceref06_Kind.f
    have hr : (s.extract 3 s.size).size ≤ 281474976710656 := by rw [ByteArray.size_extract]; omega
    have h2 := bt_of s 2 z hz (by rw [h]; rfl)
    rw [show ((2 : Nat) : Int) = 2 from rfl] at h2
    rw [if_neg (by omega), right02_val _ hr _ (by omega), num2_of s x y _ hx hy h, h2]
    simp only [Option.bind_some]
    congr 2
theorem hilo_val {x : Int} (hx : 0 ≤ x ∧ x ≤ 65535) : hi x * 256 + lo x = x := by unfold hi lo; omega
theorem kindK_eq1 (o : Bool) (e n : Int) (rest : ByteArray) (hr : rest.toList = []) : kindK o e n 1 rest = if goodInoB n = false then (0, 0, ⟨#[]⟩, 0) else (1, n, ⟨#[]⟩, 0) := by
  have h0 : rest.size = 0 := by rw [size_l, hr]; rfl
  unfold kindK
  rw [h0]
  simp
theorem good_true {a : Int} (h : 1 ≤ a ∧ a ≤ 4096) : goodInoB a = true := by unfold goodInoB; simp [h.1, h.2]
theorem good_false {a : Int} (h : ¬ (1 ≤ a ∧ a ≤ 4096)) : goodInoB a = false := by
  unfold goodInoB
  by_cases h1 : 1 ≤ a
  · have : ¬ a ≤ 4096 := fun h2 => h ⟨h1, h2⟩
    simp [this]
  · simp [h1]
def pumicelaw06_NodeUnlike.f (a0 : Int) (a1 : ByteArray) (a2 : Int) : Option Bool := if a1.size ≤ 140737488355328 then some true else none
theorem NodeUnlike_pure (a0 : Int) (a1 : ByteArray) (a2 : Int) (h : a1.size ≤ 140737488355328) : pumicelaw06_NodeUnlike.f a0 a1 a2 = some true := if_pos h
theorem pumicelaw06_NodeUnlike.calls (a0 : Int) (a1 : ByteArray) (a2 : Int) (r : Bool) (w : World) (h : pumicelaw06_NodeUnlike.f a0 a1 a2 = some r) :
    Calls Try.prog 6 #[.int .i64 a0, .string a1, .int .i64 a2] w fun e w' => e = .returned (.bool r) ∧ Below w.heap.size w w' := by
  unfold pumicelaw06_NodeUnlike.f at h
  by_cases hsz : a1.size ≤ 140737488355328
  rotate_left
  · rw [if_neg hsz] at h
    cases h
  rw [if_pos hsz] at h
  obtain rfl := Option.some.inj h
  have hB : ∀ (a b : Int), a = b → (a == b) = true ∧ (a != b) = false := fun a b h => by subst h; simp
  have hN : ∀ (a b : Int), ¬ a = b → (a == b) = false ∧ (a != b) = true := fun a b h => by simp [h]
  obtain ⟨kI, hI, hIl⟩ := inode_ok a0
  obtain ⟨rI, hrI, hKI⟩ := kind_key kI (hi a0) (lo a0) 1 [] (hi_r _) (lo_r _) (by omega) hIl (by rw [size_l, hIl]; simp)
  rw [kindK_eq1 _ _ _ _ hrI] at hKI
  by_cases hgood : goodInoB (hi a0 * 256 + lo a0) = false
  · rw [if_pos hgood] at hKI
    have hng : ¬ (1 ≤ a0 ∧ a0 ≤ 4096) := fun hr => by
      rw [hilo_val (by omega), good_true hr] at hgood
      cases hgood
    by_cases h0 : a0 < 0
    · exact un_neg0 a0 a1 a2 kI 0 0 0 _ w hI hKI alive_true (decide_eq_false (by omega)) (decide_eq_false (by omega)) (by decide) (by decide)
    by_cases h1 : a0 = 0
    · exact un_zero a0 a1 a2 kI 0 0 0 _ w hI hKI alive_true (decide_eq_false (by omega)) (decide_eq_true (by omega)) (decide_eq_true (by omega)) (by decide) (by decide)
    by_cases h2 : a0 ≤ 65535
    · exact un_big a0 a1 a2 kI 0 0 0 _ w hI hKI alive_true (decide_eq_true (by omega)) (decide_eq_false (by omega)) (decide_eq_true (by omega)) (decide_eq_true (by omega)) (by decide) (by decide)
    · exact un_huge0 a0 a1 a2 kI 0 0 0 _ w hI hKI alive_true (decide_eq_true (by omega)) (decide_eq_false (by omega)) (decide_eq_true (by omega)) (decide_eq_false (by omega)) (by decide) (by decide)
  · rw [if_neg hgood] at hKI
    by_cases h0 : a0 < 0
    · exact un_neg1 a0 a1 a2 kI 1 _ 0 _ w hI hKI alive_true (decide_eq_false (by omega)) (decide_eq_false (by omega)) (by decide) (by decide)
    by_cases h2 : a0 ≤ 65535
    rotate_left
    · exact un_huge1 a0 a1 a2 kI 1 _ 0 _ w hI hKI alive_true (decide_eq_true (by omega)) (decide_eq_false (by omega)) (decide_eq_true (by omega)) (decide_eq_false (by omega)) (by decide) (by decide)
    have hv := hilo_val (x := a0) (by omega)
    rw [hv] at hgood hKI
    have hr : 1 ≤ a0 ∧ a0 ≤ 4096 := Decidable.byContradiction (fun hh => hgood (good_false hh))
    have hg := good_true hr
    -- the entry's key
    obtain ⟨kE, hE, hEl⟩ := entry_ok a0 a1 hsz
    obtain ⟨rE, hrE, hKE⟩ := kind_key kE (hi a0) (lo a0) 2 a1.toList (hi_r _) (lo_r _) (by omega) hEl (by rw [size_l, hEl]; have := size_l a1; simp only [List.length_cons]; omega)
    rw [ba_ext hrE, hv] at hKE
    have hKE' : node_Kind.f kE = some (if nameE a1 = 0 then (2, a0, a1, 0) else (0, 0, ⟨#[]⟩, 0)) := by
      rw [hKE]
      unfold kindK
      have : (a0 == 0) = false := (hN _ _ (by omega)).1
      simp [this, hg]
    have hEn := names_val a1 (by omega)
    -- the block's key
    obtain ⟨kB, hBk, hBl⟩ := block_ok a0 a2
    obtain ⟨rB, hrB, hKB⟩ := kind_key kB (hi a0) (lo a0) 3 _ (hi_r _) (lo_r _) (by omega) hBl (by rw [size_l, hBl]; simp)
    -- the orphan's key
    obtain ⟨kO, hO, hOl⟩ := orphan_ok a0
    obtain ⟨rO, hrO, hKO⟩ := kind_key kO 0 0 4 _ (by omega) (by omega) (by omega) hOl (by rw [size_l, hOl]; simp)
    have hnO := num2_of rO _ _ [] (hi_r a0) (lo_r a0) hrO
    rw [hv] at hnO
    have hsO : rO.size = 2 := by rw [size_l, hrO]; rfl
    have hKO' : node_Kind.f kO = some (4, a0, ⟨#[]⟩, 0) := by
      rw [hKO]
      unfold kindK
      rw [hnO, hsO, hg]
      rfl
    by_cases hin : 0 ≤ a2 ∧ a2 < 128
    · have hnB := num2_of rB _ _ [] (hi_r a2) (lo_r a2) hrB
      rw [hilo_val (x := a2) (by omega)] at hnB
      have hsB : rB.size = 2 := by rw [size_l, hrB]; rfl
      have hgB : goodBlockB a2 = true := by unfold goodBlockB; simp [hin.1, hin.2]
      have hKB' : node_Kind.f kB = some (3, a0, ⟨#[]⟩, a2) := by
        rw [hKB, hv]
        unfold kindK
        have : (a0 == 0) = false := (hN _ _ (by omega)).1
        rw [hnB, hsB, hgB, hg, this]
        rfl
      by_cases he : nameE a1 = 0
      · rw [if_pos he] at hKE'
        exact un_in1 a0 a1 a2 kI 1 a0 0 _ w hI hKI alive_true kE kB kO 2 a0 0 3 a0 a2 4 a0 0 _ _ _ _ hE hKE' hEn hBk hKB' hO hKO' (decide_eq_true hr.1) (decide_eq_true hr.2) (decide_eq_true (by omega)) (decide_eq_true h2) rfl rfl (hB _ _ rfl).1 (hB _ _ rfl).2 rfl rfl (hB _ _ he).1 (hB _ _ he).2 (hB _ _ rfl).1 (hB _ _ rfl).2 (by simp) (decide_eq_true hin.1) (decide_eq_true hin.2) rfl rfl (hB _ _ rfl).1 (hB _ _ rfl).2 (hB _ _ rfl).1 (hB _ _ rfl).2 rfl rfl (hB _ _ rfl).1 (hB _ _ rfl).2
      · rw [if_neg he] at hKE'
        exact un_in0 a0 a1 a2 kI 1 a0 0 _ w hI hKI alive_true kE kB kO 0 0 0 3 a0 a2 4 a0 0 _ _ _ _ hE hKE' hEn hBk hKB' hO hKO' (decide_eq_true hr.1) (decide_eq_true hr.2) (decide_eq_true (by omega)) (decide_eq_true h2) rfl rfl (hB _ _ rfl).1 (hB _ _ rfl).2 rfl rfl (hN _ _ he).1 (hN _ _ he).2 (decide_eq_true hin.1) (decide_eq_true hin.2) rfl rfl (hB _ _ rfl).1 (hB _ _ rfl).2 (hB _ _ rfl).1 (hB _ _ rfl).2 rfl rfl (hB _ _ rfl).1 (hB _ _ rfl).2
    · obtain ⟨⟨k3, n3, s3, b3⟩, hq⟩ : ∃ t, node_Kind.f kB = some t := ⟨_, hKB⟩
      by_cases he : nameE a1 = 0
      · rw [if_pos he] at hKE'
        by_cases hlo : 0 ≤ a2
        · exact un_hi1 a0 a1 a2 kI 1 a0 0 _ w hI hKI alive_true kE kB kO 2 a0 0 k3 n3 b3 4 a0 0 _ _ _ _ hE hKE' hEn hBk hq hO hKO' (decide_eq_true hr.1) (decide_eq_true hr.2) (decide_eq_true (by omega)) (decide_eq_true h2) rfl rfl (hB _ _ rfl).1 (hB _ _ rfl).2 rfl rfl (hB _ _ he).1 (hB _ _ he).2 (hB _ _ rfl).1 (hB _ _ rfl).2 (by simp) (decide_eq_true hlo) (decide_eq_false (by omega)) rfl rfl (hB _ _ rfl).1 (hB _ _ rfl).2
        · exact un_lo1 a0 a1 a2 kI 1 a0 0 _ w hI hKI alive_true kE kB kO 2 a0 0 k3 n3 b3 4 a0 0 _ _ _ _ hE hKE' hEn hBk hq hO hKO' (decide_eq_true hr.1) (decide_eq_true hr.2) (decide_eq_true (by omega)) (decide_eq_true h2) rfl rfl (hB _ _ rfl).1 (hB _ _ rfl).2 rfl rfl (hB _ _ he).1 (hB _ _ he).2 (hB _ _ rfl).1 (hB _ _ rfl).2 (by simp) (decide_eq_false hlo) rfl rfl (hB _ _ rfl).1 (hB _ _ rfl).2
      · rw [if_neg he] at hKE'
        by_cases hlo : 0 ≤ a2
        · exact un_hi0 a0 a1 a2 kI 1 a0 0 _ w hI hKI alive_true kE kB kO 0 0 0 k3 n3 b3 4 a0 0 _ _ _ _ hE hKE' hEn hBk hq hO hKO' (decide_eq_true hr.1) (decide_eq_true hr.2) (decide_eq_true (by omega)) (decide_eq_true h2) rfl rfl (hB _ _ rfl).1 (hB _ _ rfl).2 rfl rfl (hN _ _ he).1 (hN _ _ he).2 (decide_eq_true hlo) (decide_eq_false (by omega)) rfl rfl (hB _ _ rfl).1 (hB _ _ rfl).2
        · exact un_lo0 a0 a1 a2 kI 1 a0 0 _ w hI hKI alive_true kE kB kO 0 0 0 k3 n3 b3 4 a0 0 _ _ _ _ hE hKE' hEn hBk hq hO hKO' (decide_eq_true hr.1) (decide_eq_true hr.2) (decide_eq_true (by omega)) (decide_eq_true h2) rfl rfl (hB _ _ rfl).1 (hB _ _ rfl).2 rfl rfl (hN _ _ he).1 (hN _ _ he).2 (decide_eq_false hlo) rfl rfl (hB _ _ rfl).1 (hB _ _ rfl).2
end Go.Proofs.Ytakchpeohmkpkaa.Q
