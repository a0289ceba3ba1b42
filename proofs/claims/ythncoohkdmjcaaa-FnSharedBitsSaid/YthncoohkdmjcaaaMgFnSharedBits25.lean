/-
  DotBits and NumberOf: reference and program, and their exact laws.
-/
import Derived.Test.YthncoohkdmjcaaaMgFnSharedBits24
namespace Go.Proofs.Ythncoohkdmjcaaa
open Go.RowKit
set_option linter.unusedVariables false
set_option linter.unusedSimpArgs false
/-- The sum so far and the next power. -/
def dotTo (p : Int) (zs : List Int) : Nat → Int × Int
  | 0 => (0, 1)
  | k + 1 => (((dotTo p zs k).1 + zs.getD k 0 * (dotTo p zs k).2) % p, 2 * (dotTo p zs k).2 % p)
theorem dotTo_rng (p : Int) (zs : List Int) (hp : 2 ≤ p) : ∀ k, (0 ≤ (dotTo p zs k).1 ∧ (dotTo p zs k).1 < p) ∧ (0 ≤ (dotTo p zs k).2 ∧ (dotTo p zs k).2 < p)
  | 0 => by simp [dotTo]; omega
  | k + 1 => ⟨⟨Int.emod_nonneg _ (by omega), Int.emod_lt_of_pos _ (by omega)⟩, ⟨Int.emod_nonneg _ (by omega), Int.emod_lt_of_pos _ (by omega)⟩⟩
def dotB (p : Int) (zs : List Int) : Bool := elemsB p zs && decide (zs.length ≤ 32)
theorem elemB_rng {p : Int} {zs : List Int} (h : elemsB p zs = true) {k : Nat} (hk : k < zs.length) : 0 ≤ zs.getD k 0 ∧ zs.getD k 0 < p := by
  have h1 := elemsB_is h
  rw [getI zs k hk]
  exact h1.2.2.2 zs[k] (List.getElem_mem hk)
theorem implDotBits_no (p : Int) (A : Option Addr) (n c : Nat) (zs : List Int) (w : World) (hp0 : -9223372036854775808 ≤ p) (hp : p ≤ 9223372036854775807) (hx : Ints w A n zs) (hn : n ≤ 4611686018427387903) (h : dotB p zs = false) :
    Calls Try.prog 52 #[.int .i64 p, .slice A n c] w fun e w' => e = .returned (.int .i64 (-1)) ∧ w.grownBy w' none := by
  have hl := hx.len
  cases he : elemsB p zs with
  | false =>
    have HE := Lib.hid he
    clear h he hl
    by_cases h32 : n ≤ 32
    all_goals
      go_enter Try.func52, Try.ntmps52
      go_wp2_with fail
      try
        first
          | refine (implareElements_c p A n c zs _ hp hp0 hx hn).mono ?_
          | refine (implareElements_c p A n c zs _ hp hx hn).mono ?_
        rintro e w1 ⟨rfl, rfl⟩
        rw [HE.out]
        go_wp2_with fail
      go_ret
      exact ⟨rfl, gbR _ _⟩
  | true =>
    have h32 : ¬ n ≤ 32 := by
      intro h32
      simp [dotB, he, hl] at h
      omega
    have HE := Lib.hid he
    clear h he hl
    go_enter Try.func52, Try.ntmps52
    go_wp2_with fail
    try
      first
        | refine (implareElements_c p A n c zs _ hp hp0 hx hn).mono ?_
        | refine (implareElements_c p A n c zs _ hp hx hn).mono ?_
      rintro e w1 ⟨rfl, rfl⟩
      rw [HE.out]
      go_wp2_with fail
    go_ret
    exact ⟨rfl, gbR _ _⟩
set_option maxHeartbeats 400000 in
theorem implDotBits_yes (p : Int) (A : Option Addr) (n c : Nat) (zs : List Int) (w : World) (hx : Ints w A n zs) (h : dotB p zs = true) :
    Calls Try.prog 52 #[.int .i64 p, .slice A n c] w fun e w' => e = .returned (.int .i64 (dotTo p zs n).1) ∧ w.grownBy w' none := by
  have hl := hx.len
  simp only [dotB, Bool.and_eq_true, decide_eq_true_eq] at h
  obtain ⟨he, h32⟩ := h
  rw [hl] at h32
  obtain ⟨hf, p2, p101, _⟩ := elemsB_is he
  have H := Lib.hid he
  have HF := Lib.hid hf
  have LX := Lib.hid hl
  have e1 : (1 : Int) % p = 1 := Int.emod_eq_of_lt (by omega) (by omega)
  clear he hf hl
  go_enter Try.func52, Try.ntmps52
  go_wp2_with fail
  first
    | refine (implareElements_c p A n c zs _ (by omega) (by omega) hx (by omega)).mono ?_
    | refine (implareElements_c p A n c zs _ (by omega) hx (by omega)).mono ?_
  rintro e w1 ⟨rfl, rfl⟩
  rw [H.out]
  go_wp2_with fail
  go_loop [5, 6, 22] (fun s q i => ∃ k : Nat, k ≤ n ∧ i = .int .i64 k ∧ s = .int .i64 (dotTo p zs k).1 ∧ q = .int .i64 (dotTo p zs k).2) (fun _ _ i => n - (intOf i).toNat)
  case atStart => first | exact ⟨0, Nat.zero_le _, rfl, rfl, rfl⟩ | exact ⟨0, Nat.zero_le _, rfl, rfl, by rw [e1]; rfl⟩
  case round =>
    obtain ⟨k, hk, rfl, rfl, rfl⟩ := hrel
    by_cases hlt : k < n
    · obtain ⟨b, o, rfl, hb, c1⟩ := hx.cell hlt
      have i1 : (k : Int) < (n : Int) := by omega
      obtain ⟨⟨x0, x1⟩, ⟨y0, y1⟩⟩ := dotTo_rng p zs p2 k
      obtain ⟨z0, z1⟩ := elemB_rng H.out (show k < zs.length by have := LX.out; omega)
      have HS : Hid (dotTo p zs (k + 1) = (((dotTo p zs k).1 + zs.getD k 0 * (dotTo p zs k).2) % p, 2 * (dotTo p zs k).2 % p)) := rfl
      generalize dotTo p zs k = xy at *
      obtain ⟨x, y⟩ := xy
      generalize zs.getD k 0 = z at *
      simp only at x0 x1 y0 y1
      obtain ⟨m0, m1⟩ := prod_le (a := z) (b := y) (m := 101) z0 y0 (by omega) (by omega)
      obtain ⟨m, hm⟩ : ∃ m, z * y = m := ⟨_, rfl⟩
      rw [hm] at m0 m1
      have e2 : wrap64 (z * y) = m := by rw [hm]; exact wrap_small (by omega) (by omega)
      have e3 : y * 2 = 2 * y := by omega
      rw [hm] at HS
      go_wp2_with fail
      go_round
      case rel => exact ⟨k + 1, by omega, by go_num, by rw [HS.out], by rw [HS.out]⟩
      case measure => simp [intOf]; omega
    · have hkn : k = n := by omega
      subst hkn
      go_wp2_with fail
      go_ret
      exact ⟨rfl, gbR _ _⟩
def numTo (zs : List Int) : Nat → Int
  | 0 => 0
  | k + 1 => numTo zs k + zs.getD k 0 * 2 ^ k
def bitsB (zs : List Int) : Bool := zs.all fun b => decide (0 ≤ b) && decide (b ≤ 1)
theorem bitsB_at {zs : List Int} (h : bitsB zs = true) (j : Nat) : 0 ≤ zs.getD j 0 ∧ zs.getD j 0 ≤ 1 := by
  by_cases hj : j < zs.length
  · rw [getI zs j hj]
    simp only [bitsB, List.all_eq_true, Bool.and_eq_true, decide_eq_true_eq] at h
    exact h _ (List.getElem_mem hj)
  · simp [List.getD_eq_getElem?_getD, List.getElem?_eq_none (show zs.length ≤ j by omega)]
theorem bitsB_out {zs : List Int} {k : Nat} (hk : k < zs.length) (h : ¬ (0 ≤ zs.getD k 0 ∧ zs.getD k 0 ≤ 1)) : bitsB zs = false := by
  cases hb : bitsB zs with
  | false => rfl
  | true => exact absurd (bitsB_at hb k) h
theorem bitsB_all {zs : List Int} {n : Nat} (hl : zs.length = n) (h : ∀ j, j < n → 0 ≤ zs.getD j 0 ∧ zs.getD j 0 ≤ 1) : bitsB zs = true := by
  simp only [bitsB, List.all_eq_true, Bool.and_eq_true, decide_eq_true_eq]
  intro a ha
  obtain ⟨j, hj, rfl⟩ := List.getElem_of_mem ha
  have := h j (by omega)
  rwa [getI zs j hj] at this
theorem numTo_rng (zs : List Int) (h : ∀ j, 0 ≤ zs.getD j 0 ∧ zs.getD j 0 ≤ 1) : ∀ k, 0 ≤ numTo zs k ∧ numTo zs k < 2 ^ k
  | 0 => by simp [numTo]
  | k + 1 => by
    have ih := numTo_rng zs h k
    have h1 := h k
    simp only [numTo]
    rw [Int.pow_succ]
    have hp : (0 : Int) < 2 ^ k := Int.pow_pos (by decide)
    generalize (2 : Int) ^ k = X at *
    rcases (show zs.getD k 0 = 0 ∨ zs.getD k 0 = 1 by omega) with e | e
    · rw [e]; omega
    · rw [e]; omega
theorem pow_le32 {k : Nat} (hk : k ≤ 32) : (1 : Int) ≤ 2 ^ k ∧ (2 : Int) ^ k ≤ 4294967296 := by
  have h1 : 2 ^ k ≤ 2 ^ 32 := Nat.pow_le_pow_right (by decide) hk
  have h2 : 1 ≤ 2 ^ k := Nat.one_le_two_pow
  have e : ((2 : Int) ^ k) = ((2 ^ k : Nat) : Int) := by simp
  rw [e]
  generalize 2 ^ k = X at *
  omega
end Go.Proofs.Ythncoohkdmjcaaa
