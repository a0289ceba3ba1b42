/-
  XorField, XorAll: reference and program, and their exact laws.
-/
import Derived.Test.YtllokfcappfkiaaElem
import Derived.IntWalk
namespace Go.Proofs.Ytllokfcappfkiaa
open Go.RowKit
set_option linter.unusedVariables false
def xorF (p a b : Int) : Int := (a + b - 2 * a * b) % p
theorem xorF_impl (p a b : Int) : (Int.tmod (a + b - 2 * a * b) p + p) % p = xorF p a b := by
  unfold xorF
  generalize a + b - 2 * a * b = x
  have h := Int.tmod_add_tdiv_mul x p
  have e : Int.tmod x p + p = x + p * (1 - Int.tdiv x p) := by
    rw [Int.mul_sub, Int.mul_comm p (Int.tdiv x p)]; omega
  rw [e, Int.add_mul_emod_self_left]
theorem xorF_spec (p a b : Int) : ((a + b) % p + p - (2 * a * b) % p) % p = xorF p a b := by
  unfold xorF
  rw [Int.emod_def (a + b) p, Int.emod_def (2 * a * b) p]
  have e : a + b - p * ((a + b) / p) + p - (2 * a * b - p * (2 * a * b / p)) = (a + b - 2 * a * b) + p * (1 - (a + b) / p + 2 * a * b / p) := by
    rw [Int.mul_add, Int.mul_sub]; omega
  rw [e, Int.add_mul_emod_self_left]
theorem xorF_rng (p a b : Int) (hp : 2 ≤ p) : 0 ≤ xorF p a b ∧ xorF p a b < p := ⟨Int.emod_nonneg _ (by omega), Int.emod_lt_of_pos _ (by omega)⟩
def xorTo (p : Int) (zs : List Int) : Nat → Int
  | 0 => 0
  | k + 1 => xorF p (xorTo p zs k) (zs.getD k 0)
theorem xorTo_rng (p : Int) (zs : List Int) (hp : 2 ≤ p) : ∀ k, 0 ≤ xorTo p zs k ∧ xorTo p zs k < p
  | 0 => by simp [xorTo]; omega
  | k + 1 => xorF_rng p _ _ hp
theorem prod_le {a b m : Int} (ha : 0 ≤ a) (hb : 0 ≤ b) (ha' : a ≤ m) (hb' : b ≤ m) : 0 ≤ a * b ∧ a * b ≤ m * m :=
  ⟨Int.mul_nonneg ha hb, Int.mul_le_mul ha' hb' hb (by omega)⟩
theorem tmod_emod {a p : Int} (ha : 0 ≤ a) : Int.tmod a p = a % p := Int.tmod_eq_emod_of_nonneg ha
theorem specFAdd_yes (p a b : Int) (w : World) (ha : elemB p a = true) (hb : elemB p b = true) :
    Calls Try.prog 96 #[.int .i64 p, .int .i64 a, .int .i64 b] w fun e w' => e = .returned (.int .i64 ((a + b) % p)) ∧ w = w' := by
  obtain ⟨_, p2, p101, a0, a1⟩ := elemB_is ha
  obtain ⟨_, _, _, b0, b1⟩ := elemB_is hb
  have HA := Lib.hid ha
  have HB := Lib.hid hb
  clear ha hb
  go_enter Try.func96, Try.ntmps96
  go_wp2_with fail
  refine (specl03Both_c p a b _ (by omega)).mono ?_
  rintro e w1 ⟨rfl, rfl⟩
  rw [HA.out, HB.out, Bool.and_self]
  go_wp2_with fail
  go_ret
  exact ⟨rfl, rfl⟩
theorem specFSub_yes (p a b : Int) (w : World) (ha : elemB p a = true) (hb : elemB p b = true) :
    Calls Try.prog 95 #[.int .i64 p, .int .i64 a, .int .i64 b] w fun e w' => e = .returned (.int .i64 ((a + p - b) % p)) ∧ w = w' := by
  obtain ⟨_, p2, p101, a0, a1⟩ := elemB_is ha
  obtain ⟨_, _, _, b0, b1⟩ := elemB_is hb
  have HA := Lib.hid ha
  have HB := Lib.hid hb
  clear ha hb
  go_enter Try.func95, Try.ntmps95
  go_wp2_with fail
  refine (specl03Both_c p a b _ (by omega)).mono ?_
  rintro e w1 ⟨rfl, rfl⟩
  rw [HA.out, HB.out, Bool.and_self]
  go_wp2_with fail
  go_ret
  exact ⟨rfl, rfl⟩
theorem implXorField_no (p a b : Int) (w : World) (hp0 : -9223372036854775808 ≤ p) (hp : p ≤ 9223372036854775807) (h : (elemB p a && elemB p b) = false) :
    Calls Try.prog 62 #[.int .i64 p, .int .i64 a, .int .i64 b] w fun e w' => e = .returned (.int .i64 (-1)) ∧ w.grownBy w' none := by
  rw [← elemsB_two] at h
  have H := Lib.hid h
  clear h
  go_enter Try.func62, Try.ntmps62
  go_wp2_with fail
  refine (implareElements_c p _ 2 2 [a, b] _ hp hp0 (ints2 _ _ _ _) (by omega)).mono ?_
  rintro e w1 ⟨rfl, rfl⟩
  rw [H.out]
  go_wp2_with fail
  go_ret
  exact ⟨rfl, gbA (gbR _ _) _⟩
theorem implXorField_yes (p a b : Int) (w : World) (ha : elemB p a = true) (hb : elemB p b = true) :
    Calls Try.prog 62 #[.int .i64 p, .int .i64 a, .int .i64 b] w fun e w' => e = .returned (.int .i64 (xorF p a b)) ∧ w.grownBy w' none := by
  obtain ⟨_, p2, p101, a0, a1⟩ := elemB_is ha
  obtain ⟨_, _, _, b0, b1⟩ := elemB_is hb
  have H := Lib.hid (show elemsB p [a, b] = true by rw [elemsB_two, ha, hb]; rfl)
  clear ha hb
  obtain ⟨m, hm⟩ : ∃ m, m = 2 * a * b := ⟨_, rfl⟩
  have hmb := prod_le (a := 2 * a) (b := b) (m := 202) (by omega) b0 (by omega) (by omega)
  rw [← hm] at hmb
  obtain ⟨m0, m1⟩ := hmb
  have hx : Int.tmod (a + b - 2 * a * b) p + p = Int.tmod (a + b - m) p + p := by rw [hm]
  have HX := Lib.hid (xorF_impl p a b)
  rw [hx] at HX
  have e2 : wrap64 (2 * a * b) = m := by rw [← hm]; exact wrap_small (by omega) (by omega)
  have t0 : -p < Int.tmod (a + b - m) p ∧ Int.tmod (a + b - m) p < p := ⟨Int.lt_tmod_of_pos _ (by omega), Int.tmod_lt_of_pos _ (by omega)⟩
  obtain ⟨t1, t2⟩ := t0
  have hm' := hm.symm
  clear hm hx
  go_enter Try.func62, Try.ntmps62
  go_wp2_with fail
  refine (implareElements_c p _ 2 2 [a, b] _ (by omega) (by omega) (ints2 _ _ _ _) (by omega)).mono ?_
  rintro e w1 ⟨rfl, rfl⟩
  rw [H.out]
  go_wp2_with fail
  go_ret
  exact ⟨retI (by first | exact HX.out | simpa using HX.out), gbA (gbR _ _) _⟩
theorem specXorField_no (p a b : Int) (w : World) (hp : p ≤ 9223372036854775807) (h : (elemB p a && elemB p b) = false) :
    Calls Try.prog 61 #[.int .i64 p, .int .i64 a, .int .i64 b] w fun e w' => e = .returned (.int .i64 (-1)) ∧ w.grownBy w' none := by
  have H := Lib.hid h
  clear h
  go_enter Try.func61, Try.ntmps61
  go_wp2_with fail
  refine (specl03Both_c p a b _ (by omega)).mono ?_
  rintro e w1 ⟨rfl, rfl⟩
  rw [H.out]
  go_wp2_with fail
  go_ret
  exact ⟨rfl, gbR _ _⟩
set_option maxHeartbeats 400000 in
theorem specXorField_yes (p a b : Int) (w : World) (ha : elemB p a = true) (hb : elemB p b = true) :
    Calls Try.prog 61 #[.int .i64 p, .int .i64 a, .int .i64 b] w fun e w' => e = .returned (.int .i64 (xorF p a b)) ∧ w.grownBy w' none := by
  obtain ⟨hf, p2, p101, a0, a1⟩ := elemB_is ha
  obtain ⟨_, _, _, b0, b1⟩ := elemB_is hb
  have H := Lib.hid (show (elemB p a && elemB p b) = true by rw [ha, hb]; rfl)
  have HA := Lib.hid ha
  have HB := Lib.hid hb
  clear ha hb
  obtain ⟨m, hm⟩ : ∃ m, m = 2 * a * b := ⟨_, rfl⟩
  have hmb := prod_le (a := 2 * a) (b := b) (m := 202) (by omega) b0 (by omega) (by omega)
  rw [← hm] at hmb
  obtain ⟨m0, m1⟩ := hmb
  have HX := Lib.hid (xorF_spec p a b)
  rw [← hm] at HX
  have e1 : IntKind.i64.wrap (2 * a) = 2 * a := IntWalk.i64_in _ (by omega)
  have e2 : IntKind.i64.wrap (2 * a * b) = m := by rw [← hm]; exact IntWalk.i64_in _ (by omega)
  have e3 : Int.tmod m p = m % p := tmod_emod m0
  have s0 : elemB p ((a + b) % p) = true := elemB_mk hf (Int.emod_nonneg _ (by omega)) (Int.emod_lt_of_pos _ (by omega))
  have s1 : elemB p (m % p) = true := elemB_mk hf (Int.emod_nonneg _ (by omega)) (Int.emod_lt_of_pos _ (by omega))
  have S0 := Lib.hid s0
  have S1 := Lib.hid s1
  clear hm s0 s1 hf
  go_enter Try.func61, Try.ntmps61
  go_wp2_with fail
  refine (specl03Both_c p a b _ (by omega)).mono ?_
  rintro e w1 ⟨rfl, rfl⟩
  rw [H.out]
  go_wp2_with fail
  go_quiet ((first | (go_at_call 96; exact Calls.quiet_of_same ((specFAdd_yes p a b _ HA.out HB.out).mono fun _ _ h => ⟨h.1, h.2.symm⟩)) | (go_at_call 95; exact Calls.quiet_of_same ((specFSub_yes p _ _ _ S0.out S1.out).mono fun _ _ h => ⟨h.1, h.2.symm⟩))))
  go_wp2_with fail
  go_ret
  exact ⟨retI HX.out, gbDN (gbR _ _) _⟩
theorem FnExactXorField.walk (w : World) (p : Int) (wp : (Lit.int .i64 p).wf = true) (a : Int) (wa : (Lit.int .i64 a).wf = true) (b : Int) (wb : (Lit.int .i64 b).wf = true) :
    Calls Try.prog 14 #[.int .i64 p, .int .i64 a, .int .i64 b] w fun e w' => e = .returned (.bool true) ∧ w.grownBy w' none := by
  have hp := wf_i64 wp
  obtain ⟨hp0, hp1⟩ := hp
  clear wp wa wb
  cases hf : (elemB p a && elemB p b) with
  | true =>
    simp only [Bool.and_eq_true] at hf
    obtain ⟨ha, hb⟩ := hf
    have HA := Lib.hid ha
    have HB := Lib.hid hb
    clear ha hb
    go_enter Try.func14, Try.ntmps14
    go_wp2_with fail
    refine (specXorField_yes p a b _ HA.out HB.out).mono ?_
    rintro e w1 ⟨rfl, h1⟩
    go_wp2_with fail
    refine (implXorField_yes p a b _ HA.out HB.out).mono ?_
    rintro e w2 ⟨rfl, h2⟩
    go_wp2_with fail
    go_ret
    exact ⟨rfl, gbT h1 h2⟩
  | false =>
    have HF := Lib.hid hf
    clear hf
    go_enter Try.func14, Try.ntmps14
    go_wp2_with fail
    refine (specXorField_no p a b _ hp1 HF.out).mono ?_
    rintro e w1 ⟨rfl, h1⟩
    go_wp2_with fail
    refine (implXorField_no p a b _ hp0 hp1 HF.out).mono ?_
    rintro e w2 ⟨rfl, h2⟩
    go_wp2_with fail
    go_ret
    exact ⟨rfl, gbT h1 h2⟩
end Go.Proofs.Ytllokfcappfkiaa
