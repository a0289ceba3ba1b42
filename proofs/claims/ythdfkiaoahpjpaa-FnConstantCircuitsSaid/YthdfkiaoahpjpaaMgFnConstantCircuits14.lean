/-
  DotBits and NumberOf: reference and program, and their exact laws.
-/
import Derived.Test.YthdfkiaoahpjpaaMgFnConstantCircuits13
namespace Go.Proofs.Ythdfkiaoahpjpaa
open Go.RowKit
set_option linter.unusedVariables false
set_option linter.unusedSimpArgs false
def numTo (zs : List Int) : Nat → Int
  | 0 => 0
  | k + 1 => numTo zs k + zs.getD k 0 * 2 ^ k
def bitsB (zs : List Int) : Bool := zs.all fun b => decide (0 ≤ b) && decide (b ≤ 1)
theorem bitsB_at {zs : List Int} (h : bitsB zs = true) (j : Nat) : 0 ≤ zs.getD j 0 ∧ zs.getD j 0 ≤ 1 := by
  by_cases hj : j < zs.length
  · rw [getI zs j hj]
    simp only [bitsB, List.all_eq_true, Bool.and_eq_true, decide_eq_true_eq] at h
    exact h _ (List.getElem_mem hj)
  · simp [List.getD_eq_getElem?_getD, List.getElem?_eq_none (show zs.length ≤ j by omega)]
theorem bitsB_out {zs : List Int} {k : Nat} (hk : k < zs.length) (h : ¬ (0 ≤ zs.getD k 0 ∧ zs.getD k 0 ≤ 1)) : bitsB zs = false := by
  cases hb : bitsB zs with
  | false => rfl
  | true => exact absurd (bitsB_at hb k) h
theorem bitsB_all {zs : List Int} {n : Nat} (hl : zs.length = n) (h : ∀ j, j < n → 0 ≤ zs.getD j 0 ∧ zs.getD j 0 ≤ 1) : bitsB zs = true := by
  simp only [bitsB, List.all_eq_true, Bool.and_eq_true, decide_eq_true_eq]
  intro a ha
  obtain ⟨j, hj, rfl⟩ := List.getElem_of_mem ha
  have := h j (by omega)
  rwa [getI zs j hj] at this
theorem numTo_rng (zs : List Int) (h : ∀ j, 0 ≤ zs.getD j 0 ∧ zs.getD j 0 ≤ 1) : ∀ k, 0 ≤ numTo zs k ∧ numTo zs k < 2 ^ k
  | 0 => by simp [numTo]
  | k + 1 => by
    have ih := numTo_rng zs h k
    have h1 := h k
    simp only [numTo]
    rw [Int.pow_succ]
    have hp : (0 : Int) < 2 ^ k := Int.pow_pos (by decide)
    generalize (2 : Int) ^ k = X at *
    rcases (show zs.getD k 0 = 0 ∨ zs.getD k 0 = 1 by omega) with e | e
    · rw [e]; omega
    · rw [e]; omega
theorem pow_le32 {k : Nat} (hk : k ≤ 32) : (1 : Int) ≤ 2 ^ k ∧ (2 : Int) ^ k ≤ 4294967296 := by
  have h1 : 2 ^ k ≤ 2 ^ 32 := Nat.pow_le_pow_right (by decide) hk
  have h2 : 1 ≤ 2 ^ k := Nat.one_le_two_pow
  have e : ((2 : Int) ^ k) = ((2 ^ k : Nat) : Int) := by simp
  rw [e]
  generalize 2 ^ k = X at *
  omega
set_option maxHeartbeats 400000 in
theorem specl13Bits_c (A : Option Addr) (n c : Nat) (m : Nat) (zs : List Int) (w : World) (hx : Ints w A n zs) (hn : n ≤ 4611686018427387903) :
    Calls Try.prog 58 #[.slice A n c, .int .i64 m] w fun e w' => e = .returned (.bool (bitsB zs && n == m)) ∧ w = w' := by
  have LX := Lib.hid hx.len
  go_enter Try.func58, Try.ntmps58
  go_wp2_with fail
  go_loop [5] (fun i => ∃ k : Nat, k ≤ n ∧ i = .int .i64 k ∧ Hid (∀ j, j < k → 0 ≤ zs.getD j 0 ∧ zs.getD j 0 ≤ 1)) (fun i => n - (intOf i).toNat)
  case atStart => exact ⟨0, Nat.zero_le _, rfl, fun j hj => by omega⟩
  case round =>
    obtain ⟨k, hk, rfl, hall⟩ := hrel
    by_cases hlt : k < n
    · obtain ⟨b, o, rfl, hb, c1⟩ := hx.cell hlt
      have i1 : (k : Int) < (n : Int) := by omega
      by_cases hin : 0 ≤ zs.getD k 0 ∧ zs.getD k 0 ≤ 1
      · have HI := Lib.hid hin
        obtain ⟨g0, g1⟩ := hin
        generalize hz : zs.getD k 0 = z at *
        have HZ := Lib.hid hz
        clear hz
        have d0 : decide (0 ≤ z) = true := by simp; omega
        have d1 : decide (z ≤ 1) = true := by simp; omega
        go_wp2_with go_in
        go_round
        case rel => exact ⟨k + 1, by omega, by go_num, fun j hj => by
          by_cases e : j = k
          · subst e; rw [HZ.out]; exact HI.out
          · exact hall.out j (by omega)⟩
        case measure => simp [intOf]; omega
      · have HI := Lib.hid hin
        generalize hz : zs.getD k 0 = z at *
        have HZ := Lib.hid hz
        clear hz
        by_cases g0 : 0 ≤ z
        · have d0 : decide (0 ≤ z) = true := by simp; omega
          have d1 : decide (z ≤ 1) = false := by simp; omega
          clear hin
          go_wp2_with go_in
          go_ret
          have := LX.out
          exact ⟨retB (by rw [bitsB_out (k := k) (by omega) (by rw [HZ.out]; exact HI.out)]; try (first | rfl | (simp; done))), rfl⟩
        · have d0 : decide (0 ≤ z) = false := by simp; omega
          clear hin
          go_wp2_with go_in
          go_ret
          have := LX.out
          exact ⟨retB (by rw [bitsB_out (k := k) (by omega) (by rw [HZ.out]; exact HI.out)]; try (first | rfl | (simp; done))), rfl⟩
    · have hkn : k = n := by omega
      subst hkn
      go_wp2_with fail
      go_ret
      exact ⟨retB (by rw [bitsB_all LX.out hall.out]; try first | rfl | (simp; done) | (rw [Bool.eq_iff_iff]; simp; done) | (rw [Bool.eq_iff_iff]; simp; omega)), rfl⟩
set_option maxHeartbeats 400000 in
theorem implareBits_c (A : Option Addr) (n c : Nat) (zs : List Int) (w : World) (hx : Ints w A n zs) (hn : n ≤ 4611686018427387903) :
    Calls Try.prog 56 #[.slice A n c] w fun e w' => e = .returned (.bool (bitsB zs)) ∧ w = w' := by
  have LX := Lib.hid hx.len
  go_enter Try.func56, Try.ntmps56
  go_wp2_with fail
  go_loop [7] (fun i => ∃ k : Nat, k ≤ n ∧ i = .int .i64 k ∧ Hid (∀ j, j < k → 0 ≤ zs.getD j 0 ∧ zs.getD j 0 ≤ 1)) (fun i => n - (intOf i).toNat)
  case atStart => exact ⟨0, Nat.zero_le _, rfl, fun j hj => by omega⟩
  case round =>
    obtain ⟨k, hk, rfl, hall⟩ := hrel
    by_cases hlt : k < n
    · obtain ⟨b, o, rfl, hb, c1⟩ := hx.cell hlt
      have i1 : (k : Int) < (n : Int) := by omega
      by_cases hin : 0 ≤ zs.getD k 0 ∧ zs.getD k 0 ≤ 1
      · have HI := Lib.hid hin
        obtain ⟨g0, g1⟩ := hin
        generalize hz : zs.getD k 0 = z at *
        have HZ := Lib.hid hz
        clear hz
        have d0 : decide (0 ≤ z) = true := by simp; omega
        have d1 : decide (z ≤ 1) = true := by simp; omega
        go_wp2_with go_in
        go_round
        case rel => exact ⟨k + 1, by omega, by go_num, fun j hj => by
          by_cases e : j = k
          · subst e; rw [HZ.out]; exact HI.out
          · exact hall.out j (by omega)⟩
        case measure => simp [intOf]; omega
      · have HI := Lib.hid hin
        generalize hz : zs.getD k 0 = z at *
        have HZ := Lib.hid hz
        clear hz
        by_cases g0 : 0 ≤ z
        · have d0 : decide (0 ≤ z) = true := by simp; omega
          have d1 : decide (z ≤ 1) = false := by simp; omega
          clear hin
          go_wp2_with go_in
          go_ret
          have := LX.out
          exact ⟨retB (by rw [bitsB_out (k := k) (by omega) (by rw [HZ.out]; exact HI.out)]; try (first | rfl | (simp; done))), rfl⟩
        · have d0 : decide (0 ≤ z) = false := by simp; omega
          clear hin
          go_wp2_with go_in
          go_ret
          have := LX.out
          exact ⟨retB (by rw [bitsB_out (k := k) (by omega) (by rw [HZ.out]; exact HI.out)]; try (first | rfl | (simp; done))), rfl⟩
    · have hkn : k = n := by omega
      subst hkn
      go_wp2_with fail
      go_ret
      exact ⟨retB (by rw [bitsB_all LX.out hall.out]; try first | rfl | (simp; done) | (rw [Bool.eq_iff_iff]; simp; done) | (rw [Bool.eq_iff_iff]; simp; omega)), rfl⟩
set_option maxHeartbeats 400000 in
theorem specNumberOf_yes (A : Option Addr) (n c : Nat) (zs : List Int) (w : World) (hx : Ints w A n zs) (h32 : n ≤ 32) (h : bitsB zs = true) :
    Calls Try.prog 16 #[.slice A n c] w fun e w' => e = .returned (.int .i64 (numTo zs n)) ∧ w.grownBy w' none := by
  have H := Lib.hid h
  have LX := Lib.hid hx.len
  clear h
  go_enter Try.func16, Try.ntmps16
  go_wp2_with fail
  first
    | (refine (specl13Bits_c A n c n zs _ hx (by omega)).mono ?_; rintro e w1 ⟨rfl, rfl⟩; rw [H.out, beq_self_eq_true])
    | (refine (implareBits_c A n c zs _ hx (by omega)).mono ?_; rintro e w1 ⟨rfl, rfl⟩; rw [H.out])
  go_wp2_with fail
  go_loop [3, 4] (fun s i => ∃ k : Nat, k ≤ n ∧ i = .int .i64 k ∧ s = .int .i64 (numTo zs k)) (fun _ i => n - (intOf i).toNat)
  case atStart => exact ⟨0, Nat.zero_le _, rfl, rfl⟩
  case round =>
    obtain ⟨k, hk, rfl, rfl⟩ := hrel
    by_cases hlt : k < n
    · obtain ⟨b, o, rfl, hb, c1⟩ := hx.cell hlt
      have i1 : (k : Int) < (n : Int) := by omega
      obtain ⟨x0, x1⟩ := numTo_rng zs (bitsB_at H.out) k
      obtain ⟨z0, z1⟩ := bitsB_at H.out k
      obtain ⟨p0, p1⟩ := pow_le32 (show k ≤ 32 by omega)
      have HS : Hid (numTo zs (k + 1) = numTo zs k + zs.getD k 0 * 2 ^ k) := rfl
      generalize numTo zs k = x at *
      generalize zs.getD k 0 = z at *
      obtain ⟨m0, m1⟩ := prod_le (a := z) (b := 2 ^ k) (m := 4294967296) z0 (by omega) (by omega) p1
      obtain ⟨m, hm⟩ : ∃ m, z * 2 ^ k = m := ⟨_, rfl⟩
      have hm2 : m ≤ 2 ^ k := by
        rw [← hm]
        rcases (show z = 0 ∨ z = 1 by omega) with e | e
        · rw [e]; omega
        · rw [e]; omega
      rw [hm] at m0 m1
      have e2 : wrap64 (z * 2 ^ k) = m := by rw [hm]; exact wrap_small (by omega) (by omega)
      rw [hm] at HS
      have x2 : x + m ≤ 8589934592 := by omega
      clear m1 hm2 x1 p0 p1
      go_wp2_with fail
      go_round
      case rel => exact ⟨k + 1, by omega, by go_num, by rw [HS.out]⟩
      case measure => simp [intOf]; omega
    · have hkn : k = n := by omega
      subst hkn
      go_wp2_with fail
      go_ret
      exact ⟨rfl, gbR _ _⟩
end Go.Proofs.Ythdfkiaoahpjpaa
/-
  BitsOf, ChosenBy, FieldOk, FieldBits: reference and program, and the laws that hold them together.
-/
namespace Go.Proofs.Ythdfkiaoahpjpaa
open Go.RowKit
set_option linter.unusedVariables false
set_option linter.unusedSimpArgs false
def bitAt (x : Nat) (i : Nat) : Int := ((x / 2 ^ i % 2 : Nat) : Int)
theorem bit_and (x k : Nat) : bits .and .i64 ((x : Int) / 2 ^ k) 1 = bitAt x k := by
  have e : ((x : Int) / 2 ^ k) = ((x / 2 ^ k : Nat) : Int) := by simp
  rw [e]
  unfold bitAt
  generalize x / 2 ^ k = y
  show IntKind.i64.wrap ((BitVec.ofInt 64 (y : Int) &&& BitVec.ofInt 64 1).toNat : Int) = _
  rw [BitVec.toNat_and, show (BitVec.ofInt 64 1).toNat = 1 from rfl, BitVec.ofInt_natCast, BitVec.toNat_ofNat, Nat.and_one_is_mod, IntKind.wrap_i64]
  omega
end Go.Proofs.Ythdfkiaoahpjpaa
