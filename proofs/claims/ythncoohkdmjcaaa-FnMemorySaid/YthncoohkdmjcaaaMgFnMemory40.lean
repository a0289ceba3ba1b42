/-
  XorField, XorAll: reference and program, and their exact laws.
-/
import Derived.Test.YthncoohkdmjcaaaMgFnMemory17
import Derived.IntWalk
import Derived.Test.YthncoohkdmjcaaaMgFnMemory3
namespace Go.Proofs.Ythncoohkdmjcaaa
open Go.RowKit
set_option linter.unusedVariables false
set_option linter.unusedSimpArgs false
def xorF (p a b : Int) : Int := (a + b - 2 * a * b) % p
theorem xorF_impl (p a b : Int) : (Int.tmod (a + b - 2 * a * b) p + p) % p = xorF p a b := by
  unfold xorF
  generalize a + b - 2 * a * b = x
  have h := Int.tmod_add_tdiv_mul x p
  have e : Int.tmod x p + p = x + p * (1 - Int.tdiv x p) := by
    rw [Int.mul_sub, Int.mul_comm p (Int.tdiv x p)]; omega
  rw [e, Int.add_mul_emod_self_left]
theorem xorF_spec (p a b : Int) : ((a + b) % p + p - (2 * a * b) % p) % p = xorF p a b := by
  unfold xorF
  rw [Int.emod_def (a + b) p, Int.emod_def (2 * a * b) p]
  have e : a + b - p * ((a + b) / p) + p - (2 * a * b - p * (2 * a * b / p)) = (a + b - 2 * a * b) + p * (1 - (a + b) / p + 2 * a * b / p) := by
    rw [Int.mul_add, Int.mul_sub]; omega
  rw [e, Int.add_mul_emod_self_left]
theorem xorF_rng (p a b : Int) (hp : 2 ≤ p) : 0 ≤ xorF p a b ∧ xorF p a b < p := ⟨Int.emod_nonneg _ (by omega), Int.emod_lt_of_pos _ (by omega)⟩
def xorTo (p : Int) (zs : List Int) : Nat → Int
  | 0 => 0
  | k + 1 => xorF p (xorTo p zs k) (zs.getD k 0)
theorem xorTo_rng (p : Int) (zs : List Int) (hp : 2 ≤ p) : ∀ k, 0 ≤ xorTo p zs k ∧ xorTo p zs k < p
  | 0 => by simp [xorTo]; omega
  | k + 1 => xorF_rng p _ _ hp
theorem prod_le {a b m : Int} (ha : 0 ≤ a) (hb : 0 ≤ b) (ha' : a ≤ m) (hb' : b ≤ m) : 0 ≤ a * b ∧ a * b ≤ m * m :=
  ⟨Int.mul_nonneg ha hb, Int.mul_le_mul ha' hb' hb (by omega)⟩
theorem tmod_emod {a p : Int} (ha : 0 ≤ a) : Int.tmod a p = a % p := Int.tmod_eq_emod_of_nonneg ha
theorem specFSub_yes (p a b : Int) (w : World) (ha : elemB p a = true) (hb : elemB p b = true) :
    Calls Try.prog 89 #[.int .i64 p, .int .i64 a, .int .i64 b] w fun e w' => e = .returned (.int .i64 ((a + p - b) % p)) ∧ w = w' := by
  obtain ⟨_, p2, p101, a0, a1⟩ := elemB_is ha
  obtain ⟨_, _, _, b0, b1⟩ := elemB_is hb
  have HA := Lib.hid ha
  have HB := Lib.hid hb
  clear ha hb
  go_enter Try.func89, Try.ntmps89
  go_wp2_with fail
  refine (specl03Both_c p a b _ (by omega)).mono ?_
  rintro e w1 ⟨rfl, rfl⟩
  rw [HA.out, HB.out, Bool.and_self]
  go_wp2_with fail
  go_ret
  exact ⟨rfl, rfl⟩
end Go.Proofs.Ythncoohkdmjcaaa
/-
  XorAll: reference and program, and its exact law.
-/
namespace Go.Proofs.Ythncoohkdmjcaaa
open Go.RowKit
set_option linter.unusedVariables false
set_option linter.unusedSimpArgs false
theorem xorTo_elem {p : Int} (zs : List Int) (hf : fieldB p = true) (k : Nat) : elemB p (xorTo p zs k) = true := by
  have := field_range hf
  have h := xorTo_rng p zs (by omega) k
  exact elemB_mk hf h.1 h.2
theorem elemB_of {p : Int} {zs : List Int} (h : elemsB p zs = true) {k : Nat} (hk : k < zs.length) : elemB p (zs.getD k 0) = true := by
  have h1 := elemsB_is h
  have h2 := h1.2.2.2 zs[k] (List.getElem_mem hk)
  rw [getI zs k hk]
  exact elemB_mk h1.1 h2.1 h2.2
end Go.Proofs.Ythncoohkdmjcaaa
/-
  DotBits and NumberOf: reference and program, and their exact laws.
-/
namespace Go.Proofs.Ythncoohkdmjcaaa
open Go.RowKit
set_option linter.unusedVariables false
set_option linter.unusedSimpArgs false
/-- The sum so far and the next power. -/
def dotTo (p : Int) (zs : List Int) : Nat → Int × Int
  | 0 => (0, 1)
  | k + 1 => (((dotTo p zs k).1 + zs.getD k 0 * (dotTo p zs k).2) % p, 2 * (dotTo p zs k).2 % p)
theorem dotTo_rng (p : Int) (zs : List Int) (hp : 2 ≤ p) : ∀ k, (0 ≤ (dotTo p zs k).1 ∧ (dotTo p zs k).1 < p) ∧ (0 ≤ (dotTo p zs k).2 ∧ (dotTo p zs k).2 < p)
  | 0 => by simp [dotTo]; omega
  | k + 1 => ⟨⟨Int.emod_nonneg _ (by omega), Int.emod_lt_of_pos _ (by omega)⟩, ⟨Int.emod_nonneg _ (by omega), Int.emod_lt_of_pos _ (by omega)⟩⟩
def dotB (p : Int) (zs : List Int) : Bool := elemsB p zs && decide (zs.length ≤ 32)
theorem elemB_rng {p : Int} {zs : List Int} (h : elemsB p zs = true) {k : Nat} (hk : k < zs.length) : 0 ≤ zs.getD k 0 ∧ zs.getD k 0 < p := by
  have h1 := elemsB_is h
  rw [getI zs k hk]
  exact h1.2.2.2 zs[k] (List.getElem_mem hk)
theorem implDotBits_no (p : Int) (A : Option Addr) (n c : Nat) (zs : List Int) (w : World) (hp0 : -9223372036854775808 ≤ p) (hp : p ≤ 9223372036854775807) (hx : Ints w A n zs) (hn : n ≤ 4611686018427387903) (h : dotB p zs = false) :
    Calls Try.prog 52 #[.int .i64 p, .slice A n c] w fun e w' => e = .returned (.int .i64 (-1)) ∧ w.grownBy w' none := by
  have hl := hx.len
  cases he : elemsB p zs with
  | false =>
    have HE := Lib.hid he
    clear h he hl
    by_cases h32 : n ≤ 32
    all_goals
      go_enter Try.func52, Try.ntmps52
      go_wp2_with fail
      try
        first
          | refine (implareElements_c p A n c zs _ hp hp0 hx hn).mono ?_
          | refine (implareElements_c p A n c zs _ hp hx hn).mono ?_
        rintro e w1 ⟨rfl, rfl⟩
        rw [HE.out]
        go_wp2_with fail
      go_ret
      exact ⟨rfl, gbR _ _⟩
  | true =>
    have h32 : ¬ n ≤ 32 := by
      intro h32
      simp [dotB, he, hl] at h
      omega
    have HE := Lib.hid he
    clear h he hl
    go_enter Try.func52, Try.ntmps52
    go_wp2_with fail
    try
      first
        | refine (implareElements_c p A n c zs _ hp hp0 hx hn).mono ?_
        | refine (implareElements_c p A n c zs _ hp hx hn).mono ?_
      rintro e w1 ⟨rfl, rfl⟩
      rw [HE.out]
      go_wp2_with fail
    go_ret
    exact ⟨rfl, gbR _ _⟩
set_option maxHeartbeats 400000 in
theorem implDotBits_yes (p : Int) (A : Option Addr) (n c : Nat) (zs : List Int) (w : World) (hx : Ints w A n zs) (h : dotB p zs = true) :
    Calls Try.prog 52 #[.int .i64 p, .slice A n c] w fun e w' => e = .returned (.int .i64 (dotTo p zs n).1) ∧ w.grownBy w' none := by
  have hl := hx.len
  simp only [dotB, Bool.and_eq_true, decide_eq_true_eq] at h
  obtain ⟨he, h32⟩ := h
  rw [hl] at h32
  obtain ⟨hf, p2, p101, _⟩ := elemsB_is he
  have H := Lib.hid he
  have HF := Lib.hid hf
  have LX := Lib.hid hl
  have e1 : (1 : Int) % p = 1 := Int.emod_eq_of_lt (by omega) (by omega)
  clear he hf hl
  go_enter Try.func52, Try.ntmps52
  go_wp2_with fail
  first
    | refine (implareElements_c p A n c zs _ (by omega) (by omega) hx (by omega)).mono ?_
    | refine (implareElements_c p A n c zs _ (by omega) hx (by omega)).mono ?_
  rintro e w1 ⟨rfl, rfl⟩
  rw [H.out]
  go_wp2_with fail
  go_loop [5, 6, 22] (fun s q i => ∃ k : Nat, k ≤ n ∧ i = .int .i64 k ∧ s = .int .i64 (dotTo p zs k).1 ∧ q = .int .i64 (dotTo p zs k).2) (fun _ _ i => n - (intOf i).toNat)
  case atStart => first | exact ⟨0, Nat.zero_le _, rfl, rfl, rfl⟩ | exact ⟨0, Nat.zero_le _, rfl, rfl, by rw [e1]; rfl⟩
  case round =>
    obtain ⟨k, hk, rfl, rfl, rfl⟩ := hrel
    by_cases hlt : k < n
    · obtain ⟨b, o, rfl, hb, c1⟩ := hx.cell hlt
      have i1 : (k : Int) < (n : Int) := by omega
      obtain ⟨⟨x0, x1⟩, ⟨y0, y1⟩⟩ := dotTo_rng p zs p2 k
      obtain ⟨z0, z1⟩ := elemB_rng H.out (show k < zs.length by have := LX.out; omega)
      have HS : Hid (dotTo p zs (k + 1) = (((dotTo p zs k).1 + zs.getD k 0 * (dotTo p zs k).2) % p, 2 * (dotTo p zs k).2 % p)) := rfl
      generalize dotTo p zs k = xy at *
      obtain ⟨x, y⟩ := xy
      generalize zs.getD k 0 = z at *
      simp only at x0 x1 y0 y1
      obtain ⟨m0, m1⟩ := prod_le (a := z) (b := y) (m := 101) z0 y0 (by omega) (by omega)
      obtain ⟨m, hm⟩ : ∃ m, z * y = m := ⟨_, rfl⟩
      rw [hm] at m0 m1
      have e2 : wrap64 (z * y) = m := by rw [hm]; exact wrap_small (by omega) (by omega)
      have e3 : y * 2 = 2 * y := by omega
      rw [hm] at HS
      go_wp2_with fail
      go_round
      case rel => exact ⟨k + 1, by omega, by go_num, by rw [HS.out], by rw [HS.out]⟩
      case measure => simp [intOf]; omega
    · have hkn : k = n := by omega
      subst hkn
      go_wp2_with fail
      go_ret
      exact ⟨rfl, gbR _ _⟩
def numTo (zs : List Int) : Nat → Int
  | 0 => 0
  | k + 1 => numTo zs k + zs.getD k 0 * 2 ^ k
def bitsB (zs : List Int) : Bool := zs.all fun b => decide (0 ≤ b) && decide (b ≤ 1)
theorem bitsB_at {zs : List Int} (h : bitsB zs = true) (j : Nat) : 0 ≤ zs.getD j 0 ∧ zs.getD j 0 ≤ 1 := by
  by_cases hj : j < zs.length
  · rw [getI zs j hj]
    simp only [bitsB, List.all_eq_true, Bool.and_eq_true, decide_eq_true_eq] at h
    exact h _ (List.getElem_mem hj)
  · simp [List.getD_eq_getElem?_getD, List.getElem?_eq_none (show zs.length ≤ j by omega)]
theorem bitsB_out {zs : List Int} {k : Nat} (hk : k < zs.length) (h : ¬ (0 ≤ zs.getD k 0 ∧ zs.getD k 0 ≤ 1)) : bitsB zs = false := by
  cases hb : bitsB zs with
  | false => rfl
  | true => exact absurd (bitsB_at hb k) h
theorem bitsB_all {zs : List Int} {n : Nat} (hl : zs.length = n) (h : ∀ j, j < n → 0 ≤ zs.getD j 0 ∧ zs.getD j 0 ≤ 1) : bitsB zs = true := by
  simp only [bitsB, List.all_eq_true, Bool.and_eq_true, decide_eq_true_eq]
  intro a ha
  obtain ⟨j, hj, rfl⟩ := List.getElem_of_mem ha
  have := h j (by omega)
  rwa [getI zs j hj] at this
theorem numTo_rng (zs : List Int) (h : ∀ j, 0 ≤ zs.getD j 0 ∧ zs.getD j 0 ≤ 1) : ∀ k, 0 ≤ numTo zs k ∧ numTo zs k < 2 ^ k
  | 0 => by simp [numTo]
  | k + 1 => by
    have ih := numTo_rng zs h k
    have h1 := h k
    simp only [numTo]
    rw [Int.pow_succ]
    have hp : (0 : Int) < 2 ^ k := Int.pow_pos (by decide)
    generalize (2 : Int) ^ k = X at *
    rcases (show zs.getD k 0 = 0 ∨ zs.getD k 0 = 1 by omega) with e | e
    · rw [e]; omega
    · rw [e]; omega
theorem pow_le32 {k : Nat} (hk : k ≤ 32) : (1 : Int) ≤ 2 ^ k ∧ (2 : Int) ^ k ≤ 4294967296 := by
  have h1 : 2 ^ k ≤ 2 ^ 32 := Nat.pow_le_pow_right (by decide) hk
  have h2 : 1 ≤ 2 ^ k := Nat.one_le_two_pow
  have e : ((2 : Int) ^ k) = ((2 ^ k : Nat) : Int) := by simp
  rw [e]
  generalize 2 ^ k = X at *
  omega
end Go.Proofs.Ythncoohkdmjcaaa
/-
  BitsOf, ChosenBy, FieldOk, FieldBits: reference and program, and the laws that hold them together.
-/
namespace Go.Proofs.Ythncoohkdmjcaaa
open Go.RowKit
set_option linter.unusedVariables false
set_option linter.unusedSimpArgs false

/-- Bit i of x. -/
def bitAt (x : Nat) (i : Nat) : Int := ((x / 2 ^ i % 2 : Nat) : Int)
def bitList (x n : Nat) : List Int := (List.range n).map (bitAt x)
theorem bitList_succ (x n : Nat) : bitList x (n + 1) = bitList x n ++ [bitAt x n] := by simp [bitList, List.range_succ]
theorem bitList_length (x n : Nat) : (bitList x n).length = n := by simp [bitList]
def bitsOf (x n : Int) : List Int := if 0 ≤ x ∧ 0 ≤ n ∧ n ≤ 32 then bitList x.toNat n.toNat else []
theorem bit_and (x k : Nat) : bits .and .i64 ((x : Int) / 2 ^ k) 1 = bitAt x k := by
  have e : ((x : Int) / 2 ^ k) = ((x / 2 ^ k : Nat) : Int) := by simp
  rw [e]
  unfold bitAt
  generalize x / 2 ^ k = y
  show IntKind.i64.wrap ((BitVec.ofInt 64 (y : Int) &&& BitVec.ofInt 64 1).toNat : Int) = _
  rw [BitVec.toNat_and, show (BitVec.ofInt 64 1).toNat = 1 from rfl, BitVec.ofInt_natCast, BitVec.toNat_ofNat, Nat.and_one_is_mod, IntKind.wrap_i64]
  omega
set_option maxHeartbeats 400000 in
theorem specBitsOf_yes (x n : Nat) (w : World) (h2 : n ≤ 32) (h4 : x ≤ 9223372036854775807) :
    Calls Try.prog 49 #[.int .i64 x, .int .i64 n] w fun e w' => ∃ v, e = .returned v ∧ w'.ownsRow w.heap.size 3 1 v n ((bitList x n).map (Value.int .i64)) ∧ w.grownBy w' none := by
  have hd : decide ((n : Int) ≤ 32) = true := by simp; omega
  have hx0 : ¬ (x : Int) < 0 := by omega
  go_enter Try.func49, Try.ntmps49
  go_wp2
  go_loopw [5, 6] (fun s i wr => ∃ k : Nat, k ≤ n ∧ i = .int .i64 k ∧ wr.ownsRow w.heap.size 3 1 s k ((bitList x k).map (Value.int .i64)) ∧ w.grownBy wr none) (fun _ i _ => n - (intOf i).toNat)
  case atStart => exact ⟨0, Nat.zero_le _, rfl, World.ownsRow_made w #[] 0 (Nat.le_refl _) (by simp) rfl, gbA (gbR _ _) _⟩
  case round =>
    obtain ⟨k, hk, rfl, hown, hg⟩ := hrel
    by_cases hlt : k < n
    · go_wp2_with (at_builtin; refine wp_append1 wr el_int rfl (.tmp 21) (.tmp 27) rfl _ rfl (by simp [Value.oneCell']) w.heap.size _ k _ hown rfl rfl (by unfold maxLen; omega) (by omega) hg.size ?_; intro v' w1 hown1 hgrow)
      have h1 := Lib.hid (show w1.ownsRow w.heap.size 3 1 v' (k + 1) ((bitList x (k + 1)).map (Value.int .i64)) by
        rw [bitList_succ, List.map_append]
        simpa [bit_and] using hown1)
      have h2 := Lib.hid (gbN hg hgrow fun g e => (hown.lt g e).1)
      clear hown1 hgrow hown hg
      go_wp2_with fail
      go_roundw
      case rel => exact ⟨k + 1, by omega, by go_num, h1.out, h2.out⟩
      case measure => simp [intOf]; omega
    · have hkn : k = n := by omega
      subst hkn
      go_wp2_with fail
      go_ret
      exact ⟨_, rfl, hown, hg⟩
theorem specBitsOf_no (x n : Int) (w : World) (h : x < 0 ∨ n < 0 ∨ 32 < n) :
    Calls Try.prog 49 #[.int .i64 x, .int .i64 n] w fun e w' => ∃ v, e = .returned v ∧ w'.ownsRow w.heap.size 3 1 v 0 [] ∧ w.grownBy w' none := by
  have hr := World.ownsRow_made (e := 3) (size := 1) w #[] 0 (Nat.le_refl _) (by simp) rfl
  have HR := Lib.hid hr
  clear hr
  by_cases h1 : n ≤ 0
  · have h1' : ¬ 0 < n := by omega
    go_enter Try.func49, Try.ntmps49
    go_wp2
    refine wp_loop_rounds 1 ?_
    rw [rounds_succ]
    go_wp2
    go_ret
    exact ⟨_, rfl, HR.out, gbA (gbR _ _) _⟩
  · by_cases h2 : 32 < n
    · have h2' : decide (n ≤ 32) = false := by simp; omega
      have h1' : decide (0 < n) = true := by simp; omega
      go_enter Try.func49, Try.ntmps49
      go_wp2
      refine wp_loop_rounds 1 ?_
      rw [rounds_succ]
      go_wp2
      go_ret
      exact ⟨_, rfl, HR.out, gbA (gbR _ _) _⟩
    · have h3 : x < 0 := by omega
      have h3' : decide (0 ≤ x) = false := by simp; omega
      have h2' : decide (n ≤ 32) = true := by simp; omega
      have h1' : decide (0 < n) = true := by simp; omega
      go_enter Try.func49, Try.ntmps49
      go_wp2
      refine wp_loop_rounds 1 ?_
      rw [rounds_succ]
      go_wp2
      go_ret
      exact ⟨_, rfl, HR.out, gbA (gbR _ _) _⟩
end Go.Proofs.Ythncoohkdmjcaaa
