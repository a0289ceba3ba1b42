/-
  A drawn prime; FnConverted's walk.
-/
import Derived.Test.YtllokfcappfkiaaDot
import Derived.Test.YtllokfcappfkiaaBits
import Derived.Test.YtllokfcappfkiaaPick
import Derived.Test.YtllokfcappfkiaaSubsets
namespace Go.Proofs.Ytllokfcappfkiaa
open Go.RowKit
set_option linter.unusedVariables false
theorem ints_new (w : World) (t : TypeId) (zs : List Int) : Ints (w.alloc (.cells (zs.map (Value.int .i64)).toArray t)) (some ⟨w.heap.size, 0, none⟩) zs.length zs := by
  refine ⟨by simp, fun _ => ⟨w.heap.size, 0, rfl, by simp, fun j hj => ?_⟩⟩
  rw [cell_of_row _ _ _ _ t (0, 0) (heap_alloc_new w _)]
  simp
def nine : List Int := [2, 3, 5, 7, 11, 13, 31, 97, 101]
theorem nine_field : ∀ p ∈ nine, fieldB p = true := by decide
set_option maxHeartbeats 400000 in
theorem l03Prime_c (w : World) (g : Nat) (A : Option Addr) (n c : Nat) (bs : List Int) (hc : Cur w g A n c bs) :
    Calls Try.prog 103 #[.pointer (some ⟨g, 0, none⟩)] w fun e w' => ∃ x : Int, e = .returned (.int .i64 x) ∧ x ∈ nine ∧ Cur w' g A n c bs ∧ w.grownBy w' (some g) := by
  have HC := Lib.hid hc
  have hlt := hc.lt
  clear hc
  go_enter Try.func103, Try.ntmps103
  go_wp2_with fail
  refine (l01PickInt_c _ _ 9 9 nine (ints_new w _ nine) (by omega) (by omega) g (fun a ha e => by injection ha with ha; subst ha; injection e with e; simp at e; omega) A n c bs (HC.out.grow (gbA (gbR _ _) _))).mono ?_
  rintro e w1 ⟨x, rfl, hx, hc1, hg1⟩
  have H1 := Lib.hid hc1
  have HX := Lib.hid hx
  have G1 := Lib.hid (gbT (gbW (gbA (gbR w none) _)) hg1)
  clear hc1 hx hg1
  go_wp2_with fail
  go_ret
  exact ⟨x, rfl, HX.out, H1.out, G1.out⟩
set_option maxHeartbeats 400000 in
theorem DrawPrime_c (w : World) (A : Option Addr) (n c : Nat) (bs : List Int) (h : BytesIn w A n bs) :
    Calls Try.prog 71 #[.slice A n c] w fun e w' => ∃ x : Int, e = .returned (.int .i64 x) ∧ x ∈ nine ∧ w.grownBy w' none := by
  have H := Lib.hid h
  clear h
  go_enter Try.func71, Try.ntmps71
  go_wp2_with fail
  refine (l01New_c _ A n c bs H.out).mono ?_
  rintro e w1 ⟨rfl, hc1, hg1, hz1⟩
  have HC := Lib.hid hc1
  have HG := Lib.hid hg1
  clear hc1 hg1 hz1
  go_wp2_with fail
  refine (l03Prime_c _ _ A n c bs HC.out).mono ?_
  rintro e w2 ⟨x, rfl, hx, hc2, hg2⟩
  have HX := Lib.hid hx
  have G2 := Lib.hid (gbN HG.out hg2 (fun b e => by injection e with e; omega))
  clear hc2 hx hg2
  go_wp2_with fail
  go_ret
  exact ⟨x, rfl, HX.out, G2.out⟩
/-- A number below a drawn prime comes back from its bits. -/
def backB (p x : Nat) : Bool := decide (numTo (bitList x (fb p)) (fb p) = x) && decide ((dotTo p (bitList x (fb p)) (fb p)).1 = x) && decide (p ≤ 2 ^ fb p) && decide (2 ^ fb p < 2 * p)
theorem back_all : ∀ p ∈ ([2, 3, 5, 7, 11, 13, 31, 97, 101] : List Nat), ∀ x : Nat, x < p → backB p x = true := by decide +kernel
theorem bitList_bits (x n : Nat) : ∀ b ∈ bitList x n, 0 ≤ b ∧ b ≤ 1 := by
  intro b hb
  obtain ⟨i, _, rfl⟩ := List.mem_map.1 hb
  unfold bitAt
  omega
theorem bitsB_list (x n : Nat) : bitsB (bitList x n) = true := by
  simp only [bitsB, List.all_eq_true, Bool.and_eq_true, decide_eq_true_eq]
  exact bitList_bits x n
theorem dotB_list {p : Int} (hf : fieldB p = true) (x n : Nat) (hn : n ≤ 32) : dotB p (bitList x n) = true := by
  have := field_range hf
  simp only [dotB, Bool.and_eq_true, decide_eq_true_eq, bitList_length]
  exact ⟨elemsB_mk hf fun a ha => by have := bitList_bits x n a ha; omega, hn⟩
theorem nine_nat {p : Int} (h : p ∈ nine) : ∃ P : Nat, p = P ∧ P ∈ ([2, 3, 5, 7, 11, 13, 31, 97, 101] : List Nat) := by
  simp only [nine, List.mem_cons, List.not_mem_nil, or_false] at h
  rcases h with rfl | rfl | rfl | rfl | rfl | rfl | rfl | rfl | rfl <;> exact ⟨_, rfl, by simp⟩
set_option maxHeartbeats 800000 in
theorem FnConverted.walk (w : World) (A : Option Addr) (n c : Nat) (zs : List Int) (hz : IntsK .u8 w A n zs) (hm : n ≤ maxLen) :
    Calls Try.prog 22 #[.slice A n c] w fun e w' => e = .returned (.bool true) ∧ w.grownBy w' none := by
  unfold maxLen at hm
  by_cases hbig : 1048576 < n
  · have hd : decide (1048576 < n) = true := by simp; omega
    go_enter Try.func22, Try.ntmps22
    go_wp2_with fail
    refine (big_c _ A n c (by omega)).mono ?_
    rintro e w1 ⟨rfl, rfl⟩
    go_wp2_with fail
    go_ret
    exact ⟨rfl, gbR _ _⟩
  · have hd : decide (1048576 < n) = false := by simp; omega
    have H := Lib.hid (bytesIn hz (by omega))
    clear hz
    go_enter Try.func22, Try.ntmps22
    go_wp2_with fail
    refine (big_c _ A n c (by omega)).mono ?_
    rintro e w1 ⟨rfl, rfl⟩
    rw [hd]
    go_wp2_with fail
    refine (DrawPrime_c _ A n c zs H.out).mono ?_
    rintro e w1 ⟨p, rfl, hp, hg1⟩
    have hf := nine_field p hp
    obtain ⟨P, rfl, hP⟩ := nine_nat hp
    obtain ⟨p2, p101⟩ := field_range hf
    have HF := Lib.hid hf
    have HPm := Lib.hid hP
    have G1 := Lib.hid hg1
    clear hp hf hP hg1
    go_wp2_with fail
    refine (DrawPlaces_c _ A n c zs (H.out.grow G1.out)).mono ?_
    rintro e w2 ⟨v, qs, rfl, hown, hq, hg⟩
    obtain ⟨B, d, rfl, _, _⟩ := own_form hown
    have HI := Lib.hid (show Ints w2 B 12 qs from Rd.ofOwn hown)
    obtain ⟨b, o, rfl, hb, hc⟩ := HI.out.at_ (by omega)
    have c0 := hc 0 (by omega)
    rw [Nat.add_zero] at c0
    have q0 := hq.at_ 0 (by omega)
    have G := Lib.hid (gbT G1.out hg)
    clear hown hc hg hq
    generalize qs.getD 0 0 = y at *
    obtain ⟨q00, q01⟩ := q0
    obtain ⟨X, hX⟩ : ∃ X : Nat, y % (P : Int) = (X : Int) := ⟨(y % (P : Int)).toNat, by have := Int.emod_nonneg y (show (P : Int) ≠ 0 by omega); omega⟩
    have hXP : X < P := by have := Int.emod_lt_of_pos y (show 0 < (P : Int) by omega); omega
    have hback := back_all P HPm.out X hXP
    simp only [backB, Bool.and_eq_true, decide_eq_true_eq] at hback
    obtain ⟨⟨⟨k1, k2⟩, k3⟩, k4⟩ := hback
    have hN := fb_le (P : Int)
    have HB1 := Lib.hid k1
    have HB2 := Lib.hid k2
    clear k1 k2
    have hX' := Lib.hid hX
    go_wp2_with fail
    refine (implFieldBits_yes (P : Int) _ HF.out).mono ?_
    rintro e w3 ⟨rfl, rfl⟩
    generalize hNN : fb (P : Int) = N at *
    clear hNN
    go_wp2_with fail
    refine (implBitsOf_yes X N _ (by omega) (by omega)).mono ?_
    rintro e w3 ⟨v, rfl, o3, g3⟩
    obtain ⟨A3, c3, rfl, _, _⟩ := own_form o3
    have O3 := Lib.hid (show Ints w3 A3 N (bitList X N) from Rd.ofOwn o3)
    have G3 := Lib.hid (gbT G.out g3)
    clear o3 g3 hX c0
    go_wp2_with fail
    refine (implNumberOf_yes A3 N c3 (bitList X N) _ O3.out (by omega) (bitsB_list X N)).mono ?_
    rintro e w4 ⟨rfl, g4⟩
    rw [HB1.out]
    have O4 := Lib.hid (O3.out.grow g4)
    have G4 := Lib.hid (gbT G3.out g4)
    clear g4
    go_wp2_with fail
    refine (implDotBits_yes (P : Int) A3 N c3 (bitList X N) _ O4.out (dotB_list HF.out X N (by omega))).mono ?_
    rintro e w5 ⟨rfl, g5⟩
    rw [HB2.out]
    have G5 := Lib.hid (gbT G4.out g5)
    clear g5
    have e6 : wrap64 ((2 : Int) ^ N) = ((2 ^ N : Nat) : Int) := by
      rw [show ((2 : Int) ^ N) = ((2 ^ N : Nat) : Int) by simp]
      generalize 2 ^ N = Z at k4 ⊢
      exact wrap_small (by omega) (by omega)
    generalize 2 ^ N = Z at *
    go_wp2_with fail
    go_ret
    exact ⟨by simp; omega, G5.out⟩
end Go.Proofs.Ytllokfcappfkiaa
