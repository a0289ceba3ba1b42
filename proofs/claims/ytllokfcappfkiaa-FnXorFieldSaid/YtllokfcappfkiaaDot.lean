/-
  DotBits and NumberOf: reference and program, and their exact laws.
-/
import Derived.Test.YtllokfcappfkiaaXorAll
namespace Go.Proofs.Ytllokfcappfkiaa
open Go.RowKit
set_option linter.unusedVariables false
/-- The sum so far and the next power. -/
def dotTo (p : Int) (zs : List Int) : Nat → Int × Int
  | 0 => (0, 1)
  | k + 1 => (((dotTo p zs k).1 + zs.getD k 0 * (dotTo p zs k).2) % p, 2 * (dotTo p zs k).2 % p)
theorem dotTo_rng (p : Int) (zs : List Int) (hp : 2 ≤ p) : ∀ k, (0 ≤ (dotTo p zs k).1 ∧ (dotTo p zs k).1 < p) ∧ (0 ≤ (dotTo p zs k).2 ∧ (dotTo p zs k).2 < p)
  | 0 => by simp [dotTo]; omega
  | k + 1 => ⟨⟨Int.emod_nonneg _ (by omega), Int.emod_lt_of_pos _ (by omega)⟩, ⟨Int.emod_nonneg _ (by omega), Int.emod_lt_of_pos _ (by omega)⟩⟩
def dotB (p : Int) (zs : List Int) : Bool := elemsB p zs && decide (zs.length ≤ 32)
theorem elemB_rng {p : Int} {zs : List Int} (h : elemsB p zs = true) {k : Nat} (hk : k < zs.length) : 0 ≤ zs.getD k 0 ∧ zs.getD k 0 < p := by
  have h1 := elemsB_is h
  rw [getI zs k hk]
  exact h1.2.2.2 zs[k] (List.getElem_mem hk)
theorem specDotBits_no (p : Int) (A : Option Addr) (n c : Nat) (zs : List Int) (w : World) (hp0 : -9223372036854775808 ≤ p) (hp : p ≤ 9223372036854775807) (hx : Ints w A n zs) (hn : n ≤ 4611686018427387903) (h : dotB p zs = false) :
    Calls Try.prog 73 #[.int .i64 p, .slice A n c] w fun e w' => e = .returned (.int .i64 (-1)) ∧ w.grownBy w' none := by
  have hl := hx.len
  cases he : elemsB p zs with
  | false =>
    have HE := Lib.hid he
    clear h he hl
    by_cases h32 : n ≤ 32
    all_goals
      go_enter Try.func73, Try.ntmps73
      go_wp2_with fail
      try
        first
          | refine (specl03All_c p A n c zs _ hp hp0 hx hn).mono ?_
          | refine (specl03All_c p A n c zs _ hp hx hn).mono ?_
        rintro e w1 ⟨rfl, rfl⟩
        rw [HE.out]
        go_wp2_with fail
      go_ret
      exact ⟨rfl, gbR _ _⟩
  | true =>
    have h32 : ¬ n ≤ 32 := by
      intro h32
      simp [dotB, he, hl] at h
      omega
    have HE := Lib.hid he
    clear h he hl
    go_enter Try.func73, Try.ntmps73
    go_wp2_with fail
    try
      first
        | refine (specl03All_c p A n c zs _ hp hp0 hx hn).mono ?_
        | refine (specl03All_c p A n c zs _ hp hx hn).mono ?_
      rintro e w1 ⟨rfl, rfl⟩
      rw [HE.out]
      go_wp2_with fail
    go_ret
    exact ⟨rfl, gbR _ _⟩
set_option maxHeartbeats 400000 in
theorem specDotBits_yes (p : Int) (A : Option Addr) (n c : Nat) (zs : List Int) (w : World) (hx : Ints w A n zs) (h : dotB p zs = true) :
    Calls Try.prog 73 #[.int .i64 p, .slice A n c] w fun e w' => e = .returned (.int .i64 (dotTo p zs n).1) ∧ w.grownBy w' none := by
  have hl := hx.len
  simp only [dotB, Bool.and_eq_true, decide_eq_true_eq] at h
  obtain ⟨he, h32⟩ := h
  rw [hl] at h32
  obtain ⟨hf, p2, p101, _⟩ := elemsB_is he
  have H := Lib.hid he
  have HF := Lib.hid hf
  have LX := Lib.hid hl
  have e1 : (1 : Int) % p = 1 := Int.emod_eq_of_lt (by omega) (by omega)
  clear he hf hl
  go_enter Try.func73, Try.ntmps73
  go_wp2_with fail
  first
    | refine (specl03All_c p A n c zs _ (by omega) (by omega) hx (by omega)).mono ?_
    | refine (specl03All_c p A n c zs _ (by omega) hx (by omega)).mono ?_
  rintro e w1 ⟨rfl, rfl⟩
  rw [H.out]
  go_wp2_with fail
  go_loop [5, 6, 7] (fun s q i => ∃ k : Nat, k ≤ n ∧ i = .int .i64 k ∧ s = .int .i64 (dotTo p zs k).1 ∧ q = .int .i64 (dotTo p zs k).2) (fun _ _ i => n - (intOf i).toNat)
  case atStart => first | exact ⟨0, Nat.zero_le _, rfl, rfl, rfl⟩ | exact ⟨0, Nat.zero_le _, rfl, rfl, by rw [e1]; rfl⟩
  case round =>
    obtain ⟨k, hk, rfl, rfl, rfl⟩ := hrel
    by_cases hlt : k < n
    · obtain ⟨b, o, rfl, hb, c1⟩ := hx.cell hlt
      have i1 : (k : Int) < (n : Int) := by omega
      obtain ⟨⟨x0, x1⟩, ⟨y0, y1⟩⟩ := dotTo_rng p zs p2 k
      obtain ⟨z0, z1⟩ := elemB_rng H.out (show k < zs.length by have := LX.out; omega)
      have HS : Hid (dotTo p zs (k + 1) = (((dotTo p zs k).1 + zs.getD k 0 * (dotTo p zs k).2) % p, 2 * (dotTo p zs k).2 % p)) := rfl
      generalize dotTo p zs k = xy at *
      obtain ⟨x, y⟩ := xy
      generalize zs.getD k 0 = z at *
      simp only at x0 x1 y0 y1
      obtain ⟨m0, m1⟩ := prod_le (a := z) (b := y) (m := 101) z0 y0 (by omega) (by omega)
      obtain ⟨m, hm⟩ : ∃ m, z * y = m := ⟨_, rfl⟩
      rw [hm] at m0 m1
      have e2 : wrap64 (z * y) = m := by rw [hm]; exact wrap_small (by omega) (by omega)
      have e3 : y * 2 = 2 * y := by omega
      rw [hm] at HS
      go_wp2_with fail
      go_round
      case rel => exact ⟨k + 1, by omega, by go_num, by rw [HS.out], by rw [HS.out]⟩
      case measure => simp [intOf]; omega
    · have hkn : k = n := by omega
      subst hkn
      go_wp2_with fail
      go_ret
      exact ⟨rfl, gbR _ _⟩
theorem implDotBits_no (p : Int) (A : Option Addr) (n c : Nat) (zs : List Int) (w : World) (hp0 : -9223372036854775808 ≤ p) (hp : p ≤ 9223372036854775807) (hx : Ints w A n zs) (hn : n ≤ 4611686018427387903) (h : dotB p zs = false) :
    Calls Try.prog 74 #[.int .i64 p, .slice A n c] w fun e w' => e = .returned (.int .i64 (-1)) ∧ w.grownBy w' none := by
  have hl := hx.len
  cases he : elemsB p zs with
  | false =>
    have HE := Lib.hid he
    clear h he hl
    by_cases h32 : n ≤ 32
    all_goals
      go_enter Try.func74, Try.ntmps74
      go_wp2_with fail
      try
        first
          | refine (implareElements_c p A n c zs _ hp hp0 hx hn).mono ?_
          | refine (implareElements_c p A n c zs _ hp hx hn).mono ?_
        rintro e w1 ⟨rfl, rfl⟩
        rw [HE.out]
        go_wp2_with fail
      go_ret
      exact ⟨rfl, gbR _ _⟩
  | true =>
    have h32 : ¬ n ≤ 32 := by
      intro h32
      simp [dotB, he, hl] at h
      omega
    have HE := Lib.hid he
    clear h he hl
    go_enter Try.func74, Try.ntmps74
    go_wp2_with fail
    try
      first
        | refine (implareElements_c p A n c zs _ hp hp0 hx hn).mono ?_
        | refine (implareElements_c p A n c zs _ hp hx hn).mono ?_
      rintro e w1 ⟨rfl, rfl⟩
      rw [HE.out]
      go_wp2_with fail
    go_ret
    exact ⟨rfl, gbR _ _⟩
set_option maxHeartbeats 400000 in
theorem implDotBits_yes (p : Int) (A : Option Addr) (n c : Nat) (zs : List Int) (w : World) (hx : Ints w A n zs) (h : dotB p zs = true) :
    Calls Try.prog 74 #[.int .i64 p, .slice A n c] w fun e w' => e = .returned (.int .i64 (dotTo p zs n).1) ∧ w.grownBy w' none := by
  have hl := hx.len
  simp only [dotB, Bool.and_eq_true, decide_eq_true_eq] at h
  obtain ⟨he, h32⟩ := h
  rw [hl] at h32
  obtain ⟨hf, p2, p101, _⟩ := elemsB_is he
  have H := Lib.hid he
  have HF := Lib.hid hf
  have LX := Lib.hid hl
  have e1 : (1 : Int) % p = 1 := Int.emod_eq_of_lt (by omega) (by omega)
  clear he hf hl
  go_enter Try.func74, Try.ntmps74
  go_wp2_with fail
  first
    | refine (implareElements_c p A n c zs _ (by omega) (by omega) hx (by omega)).mono ?_
    | refine (implareElements_c p A n c zs _ (by omega) hx (by omega)).mono ?_
  rintro e w1 ⟨rfl, rfl⟩
  rw [H.out]
  go_wp2_with fail
  go_loop [5, 6, 22] (fun s q i => ∃ k : Nat, k ≤ n ∧ i = .int .i64 k ∧ s = .int .i64 (dotTo p zs k).1 ∧ q = .int .i64 (dotTo p zs k).2) (fun _ _ i => n - (intOf i).toNat)
  case atStart => first | exact ⟨0, Nat.zero_le _, rfl, rfl, rfl⟩ | exact ⟨0, Nat.zero_le _, rfl, rfl, by rw [e1]; rfl⟩
  case round =>
    obtain ⟨k, hk, rfl, rfl, rfl⟩ := hrel
    by_cases hlt : k < n
    · obtain ⟨b, o, rfl, hb, c1⟩ := hx.cell hlt
      have i1 : (k : Int) < (n : Int) := by omega
      obtain ⟨⟨x0, x1⟩, ⟨y0, y1⟩⟩ := dotTo_rng p zs p2 k
      obtain ⟨z0, z1⟩ := elemB_rng H.out (show k < zs.length by have := LX.out; omega)
      have HS : Hid (dotTo p zs (k + 1) = (((dotTo p zs k).1 + zs.getD k 0 * (dotTo p zs k).2) % p, 2 * (dotTo p zs k).2 % p)) := rfl
      generalize dotTo p zs k = xy at *
      obtain ⟨x, y⟩ := xy
      generalize zs.getD k 0 = z at *
      simp only at x0 x1 y0 y1
      obtain ⟨m0, m1⟩ := prod_le (a := z) (b := y) (m := 101) z0 y0 (by omega) (by omega)
      obtain ⟨m, hm⟩ : ∃ m, z * y = m := ⟨_, rfl⟩
      rw [hm] at m0 m1
      have e2 : wrap64 (z * y) = m := by rw [hm]; exact wrap_small (by omega) (by omega)
      have e3 : y * 2 = 2 * y := by omega
      rw [hm] at HS
      go_wp2_with fail
      go_round
      case rel => exact ⟨k + 1, by omega, by go_num, by rw [HS.out], by rw [HS.out]⟩
      case measure => simp [intOf]; omega
    · have hkn : k = n := by omega
      subst hkn
      go_wp2_with fail
      go_ret
      exact ⟨rfl, gbR _ _⟩
def numTo (zs : List Int) : Nat → Int
  | 0 => 0
  | k + 1 => numTo zs k + zs.getD k 0 * 2 ^ k
def bitsB (zs : List Int) : Bool := zs.all fun b => decide (0 ≤ b) && decide (b ≤ 1)
theorem bitsB_at {zs : List Int} (h : bitsB zs = true) (j : Nat) : 0 ≤ zs.getD j 0 ∧ zs.getD j 0 ≤ 1 := by
  by_cases hj : j < zs.length
  · rw [getI zs j hj]
    simp only [bitsB, List.all_eq_true, Bool.and_eq_true, decide_eq_true_eq] at h
    exact h _ (List.getElem_mem hj)
  · simp [List.getD_eq_getElem?_getD, List.getElem?_eq_none (show zs.length ≤ j by omega)]
theorem bitsB_out {zs : List Int} {k : Nat} (hk : k < zs.length) (h : ¬ (0 ≤ zs.getD k 0 ∧ zs.getD k 0 ≤ 1)) : bitsB zs = false := by
  cases hb : bitsB zs with
  | false => rfl
  | true => exact absurd (bitsB_at hb k) h
theorem bitsB_all {zs : List Int} {n : Nat} (hl : zs.length = n) (h : ∀ j, j < n → 0 ≤ zs.getD j 0 ∧ zs.getD j 0 ≤ 1) : bitsB zs = true := by
  simp only [bitsB, List.all_eq_true, Bool.and_eq_true, decide_eq_true_eq]
  intro a ha
  obtain ⟨j, hj, rfl⟩ := List.getElem_of_mem ha
  have := h j (by omega)
  rwa [getI zs j hj] at this
theorem numTo_rng (zs : List Int) (h : ∀ j, 0 ≤ zs.getD j 0 ∧ zs.getD j 0 ≤ 1) : ∀ k, 0 ≤ numTo zs k ∧ numTo zs k < 2 ^ k
  | 0 => by simp [numTo]
  | k + 1 => by
    have ih := numTo_rng zs h k
    have h1 := h k
    simp only [numTo]
    rw [Int.pow_succ]
    have hp : (0 : Int) < 2 ^ k := Int.pow_pos (by decide)
    generalize (2 : Int) ^ k = X at *
    rcases (show zs.getD k 0 = 0 ∨ zs.getD k 0 = 1 by omega) with e | e
    · rw [e]; omega
    · rw [e]; omega
theorem pow_le32 {k : Nat} (hk : k ≤ 32) : (1 : Int) ≤ 2 ^ k ∧ (2 : Int) ^ k ≤ 4294967296 := by
  have h1 : 2 ^ k ≤ 2 ^ 32 := Nat.pow_le_pow_right (by decide) hk
  have h2 : 1 ≤ 2 ^ k := Nat.one_le_two_pow
  have e : ((2 : Int) ^ k) = ((2 ^ k : Nat) : Int) := by simp
  rw [e]
  generalize 2 ^ k = X at *
  omega
set_option maxHeartbeats 400000 in
theorem specl13Bits_c (A : Option Addr) (n c : Nat) (m : Nat) (zs : List Int) (w : World) (hx : Ints w A n zs) (hn : n ≤ 4611686018427387903) :
    Calls Try.prog 98 #[.slice A n c, .int .i64 m] w fun e w' => e = .returned (.bool (bitsB zs && n == m)) ∧ w = w' := by
  have LX := Lib.hid hx.len
  go_enter Try.func98, Try.ntmps98
  go_wp2_with fail
  go_loop [5] (fun i => ∃ k : Nat, k ≤ n ∧ i = .int .i64 k ∧ Hid (∀ j, j < k → 0 ≤ zs.getD j 0 ∧ zs.getD j 0 ≤ 1)) (fun i => n - (intOf i).toNat)
  case atStart => exact ⟨0, Nat.zero_le _, rfl, fun j hj => by omega⟩
  case round =>
    obtain ⟨k, hk, rfl, hall⟩ := hrel
    by_cases hlt : k < n
    · obtain ⟨b, o, rfl, hb, c1⟩ := hx.cell hlt
      have i1 : (k : Int) < (n : Int) := by omega
      by_cases hin : 0 ≤ zs.getD k 0 ∧ zs.getD k 0 ≤ 1
      · have HI := Lib.hid hin
        obtain ⟨g0, g1⟩ := hin
        generalize hz : zs.getD k 0 = z at *
        have HZ := Lib.hid hz
        clear hz
        have d0 : decide (0 ≤ z) = true := by simp; omega
        have d1 : decide (z ≤ 1) = true := by simp; omega
        go_wp2_with go_in
        go_round
        case rel => exact ⟨k + 1, by omega, by go_num, fun j hj => by
          by_cases e : j = k
          · subst e; rw [HZ.out]; exact HI.out
          · exact hall.out j (by omega)⟩
        case measure => simp [intOf]; omega
      · have HI := Lib.hid hin
        generalize hz : zs.getD k 0 = z at *
        have HZ := Lib.hid hz
        clear hz
        by_cases g0 : 0 ≤ z
        · have d0 : decide (0 ≤ z) = true := by simp; omega
          have d1 : decide (z ≤ 1) = false := by simp; omega
          clear hin
          go_wp2_with go_in
          go_ret
          have := LX.out
          exact ⟨retB (by rw [bitsB_out (k := k) (by omega) (by rw [HZ.out]; exact HI.out)]; try (first | rfl | (simp; done))), rfl⟩
        · have d0 : decide (0 ≤ z) = false := by simp; omega
          clear hin
          go_wp2_with go_in
          go_ret
          have := LX.out
          exact ⟨retB (by rw [bitsB_out (k := k) (by omega) (by rw [HZ.out]; exact HI.out)]; try (first | rfl | (simp; done))), rfl⟩
    · have hkn : k = n := by omega
      subst hkn
      go_wp2_with fail
      go_ret
      exact ⟨retB (by rw [bitsB_all LX.out hall.out]; try first | rfl | (simp; done) | (rw [Bool.eq_iff_iff]; simp; done) | (rw [Bool.eq_iff_iff]; simp; omega)), rfl⟩
set_option maxHeartbeats 400000 in
theorem implareBits_c (A : Option Addr) (n c : Nat) (zs : List Int) (w : World) (hx : Ints w A n zs) (hn : n ≤ 4611686018427387903) :
    Calls Try.prog 99 #[.slice A n c] w fun e w' => e = .returned (.bool (bitsB zs)) ∧ w = w' := by
  have LX := Lib.hid hx.len
  go_enter Try.func99, Try.ntmps99
  go_wp2_with fail
  go_loop [7] (fun i => ∃ k : Nat, k ≤ n ∧ i = .int .i64 k ∧ Hid (∀ j, j < k → 0 ≤ zs.getD j 0 ∧ zs.getD j 0 ≤ 1)) (fun i => n - (intOf i).toNat)
  case atStart => exact ⟨0, Nat.zero_le _, rfl, fun j hj => by omega⟩
  case round =>
    obtain ⟨k, hk, rfl, hall⟩ := hrel
    by_cases hlt : k < n
    · obtain ⟨b, o, rfl, hb, c1⟩ := hx.cell hlt
      have i1 : (k : Int) < (n : Int) := by omega
      by_cases hin : 0 ≤ zs.getD k 0 ∧ zs.getD k 0 ≤ 1
      · have HI := Lib.hid hin
        obtain ⟨g0, g1⟩ := hin
        generalize hz : zs.getD k 0 = z at *
        have HZ := Lib.hid hz
        clear hz
        have d0 : decide (0 ≤ z) = true := by simp; omega
        have d1 : decide (z ≤ 1) = true := by simp; omega
        go_wp2_with go_in
        go_round
        case rel => exact ⟨k + 1, by omega, by go_num, fun j hj => by
          by_cases e : j = k
          · subst e; rw [HZ.out]; exact HI.out
          · exact hall.out j (by omega)⟩
        case measure => simp [intOf]; omega
      · have HI := Lib.hid hin
        generalize hz : zs.getD k 0 = z at *
        have HZ := Lib.hid hz
        clear hz
        by_cases g0 : 0 ≤ z
        · have d0 : decide (0 ≤ z) = true := by simp; omega
          have d1 : decide (z ≤ 1) = false := by simp; omega
          clear hin
          go_wp2_with go_in
          go_ret
          have := LX.out
          exact ⟨retB (by rw [bitsB_out (k := k) (by omega) (by rw [HZ.out]; exact HI.out)]; try (first | rfl | (simp; done))), rfl⟩
        · have d0 : decide (0 ≤ z) = false := by simp; omega
          clear hin
          go_wp2_with go_in
          go_ret
          have := LX.out
          exact ⟨retB (by rw [bitsB_out (k := k) (by omega) (by rw [HZ.out]; exact HI.out)]; try (first | rfl | (simp; done))), rfl⟩
    · have hkn : k = n := by omega
      subst hkn
      go_wp2_with fail
      go_ret
      exact ⟨retB (by rw [bitsB_all LX.out hall.out]; try first | rfl | (simp; done) | (rw [Bool.eq_iff_iff]; simp; done) | (rw [Bool.eq_iff_iff]; simp; omega)), rfl⟩
theorem specNumberOf_no (A : Option Addr) (n c : Nat) (zs : List Int) (w : World) (hx : Ints w A n zs) (hn : n ≤ 4611686018427387903) (h : n ≤ 32 → bitsB zs = false) :
    Calls Try.prog 63 #[.slice A n c] w fun e w' => e = .returned (.int .i64 (-1)) ∧ w.grownBy w' none := by
  by_cases h32 : n ≤ 32
  · have HE := Lib.hid (h h32)
    clear h
    go_enter Try.func63, Try.ntmps63
    go_wp2_with fail
    first
      | refine (specl13Bits_c A n c n zs _ hx hn).mono ?_
      | refine (implareBits_c A n c zs _ hx hn).mono ?_
    rintro e w1 ⟨rfl, rfl⟩
    rw [HE.out]
    go_wp2_with fail
    go_ret
    exact ⟨rfl, gbR _ _⟩
  · clear h
    go_enter Try.func63, Try.ntmps63
    go_wp2_with fail
    go_ret
    exact ⟨rfl, gbR _ _⟩
set_option maxHeartbeats 400000 in
theorem specNumberOf_yes (A : Option Addr) (n c : Nat) (zs : List Int) (w : World) (hx : Ints w A n zs) (h32 : n ≤ 32) (h : bitsB zs = true) :
    Calls Try.prog 63 #[.slice A n c] w fun e w' => e = .returned (.int .i64 (numTo zs n)) ∧ w.grownBy w' none := by
  have H := Lib.hid h
  have LX := Lib.hid hx.len
  clear h
  go_enter Try.func63, Try.ntmps63
  go_wp2_with fail
  first
    | (refine (specl13Bits_c A n c n zs _ hx (by omega)).mono ?_; rintro e w1 ⟨rfl, rfl⟩; rw [H.out, beq_self_eq_true])
    | (refine (implareBits_c A n c zs _ hx (by omega)).mono ?_; rintro e w1 ⟨rfl, rfl⟩; rw [H.out])
  go_wp2_with fail
  go_loop [3, 4] (fun s i => ∃ k : Nat, k ≤ n ∧ i = .int .i64 k ∧ s = .int .i64 (numTo zs k)) (fun _ i => n - (intOf i).toNat)
  case atStart => exact ⟨0, Nat.zero_le _, rfl, rfl⟩
  case round =>
    obtain ⟨k, hk, rfl, rfl⟩ := hrel
    by_cases hlt : k < n
    · obtain ⟨b, o, rfl, hb, c1⟩ := hx.cell hlt
      have i1 : (k : Int) < (n : Int) := by omega
      obtain ⟨x0, x1⟩ := numTo_rng zs (bitsB_at H.out) k
      obtain ⟨z0, z1⟩ := bitsB_at H.out k
      obtain ⟨p0, p1⟩ := pow_le32 (show k ≤ 32 by omega)
      have HS : Hid (numTo zs (k + 1) = numTo zs k + zs.getD k 0 * 2 ^ k) := rfl
      generalize numTo zs k = x at *
      generalize zs.getD k 0 = z at *
      obtain ⟨m0, m1⟩ := prod_le (a := z) (b := 2 ^ k) (m := 4294967296) z0 (by omega) (by omega) p1
      obtain ⟨m, hm⟩ : ∃ m, z * 2 ^ k = m := ⟨_, rfl⟩
      have hm2 : m ≤ 2 ^ k := by
        rw [← hm]
        rcases (show z = 0 ∨ z = 1 by omega) with e | e
        · rw [e]; omega
        · rw [e]; omega
      rw [hm] at m0 m1
      have e2 : wrap64 (z * 2 ^ k) = m := by rw [hm]; exact wrap_small (by omega) (by omega)
      rw [hm] at HS
      have x2 : x + m ≤ 8589934592 := by omega
      clear m1 hm2 x1 p0 p1
      go_wp2_with fail
      go_round
      case rel => exact ⟨k + 1, by omega, by go_num, by rw [HS.out]⟩
      case measure => simp [intOf]; omega
    · have hkn : k = n := by omega
      subst hkn
      go_wp2_with fail
      go_ret
      exact ⟨rfl, gbR _ _⟩
theorem implNumberOf_no (A : Option Addr) (n c : Nat) (zs : List Int) (w : World) (hx : Ints w A n zs) (hn : n ≤ 4611686018427387903) (h : n ≤ 32 → bitsB zs = false) :
    Calls Try.prog 64 #[.slice A n c] w fun e w' => e = .returned (.int .i64 (-1)) ∧ w.grownBy w' none := by
  by_cases h32 : n ≤ 32
  · have HE := Lib.hid (h h32)
    clear h
    go_enter Try.func64, Try.ntmps64
    go_wp2_with fail
    first
      | refine (specl13Bits_c A n c n zs _ hx hn).mono ?_
      | refine (implareBits_c A n c zs _ hx hn).mono ?_
    rintro e w1 ⟨rfl, rfl⟩
    rw [HE.out]
    go_wp2_with fail
    go_ret
    exact ⟨rfl, gbR _ _⟩
  · clear h
    go_enter Try.func64, Try.ntmps64
    go_wp2_with fail
    go_ret
    exact ⟨rfl, gbR _ _⟩
set_option maxHeartbeats 400000 in
theorem implNumberOf_yes (A : Option Addr) (n c : Nat) (zs : List Int) (w : World) (hx : Ints w A n zs) (h32 : n ≤ 32) (h : bitsB zs = true) :
    Calls Try.prog 64 #[.slice A n c] w fun e w' => e = .returned (.int .i64 (numTo zs n)) ∧ w.grownBy w' none := by
  have H := Lib.hid h
  have LX := Lib.hid hx.len
  clear h
  go_enter Try.func64, Try.ntmps64
  go_wp2_with fail
  first
    | (refine (specl13Bits_c A n c n zs _ hx (by omega)).mono ?_; rintro e w1 ⟨rfl, rfl⟩; rw [H.out, beq_self_eq_true])
    | (refine (implareBits_c A n c zs _ hx (by omega)).mono ?_; rintro e w1 ⟨rfl, rfl⟩; rw [H.out])
  go_wp2_with fail
  go_loop [3, 16] (fun s i => ∃ k : Nat, k ≤ n ∧ i = .int .i64 k ∧ s = .int .i64 (numTo zs k)) (fun _ i => n - (intOf i).toNat)
  case atStart => exact ⟨0, Nat.zero_le _, rfl, rfl⟩
  case round =>
    obtain ⟨k, hk, rfl, rfl⟩ := hrel
    by_cases hlt : k < n
    · obtain ⟨b, o, rfl, hb, c1⟩ := hx.cell hlt
      have i1 : (k : Int) < (n : Int) := by omega
      obtain ⟨x0, x1⟩ := numTo_rng zs (bitsB_at H.out) k
      obtain ⟨z0, z1⟩ := bitsB_at H.out k
      obtain ⟨p0, p1⟩ := pow_le32 (show k ≤ 32 by omega)
      have HS : Hid (numTo zs (k + 1) = numTo zs k + zs.getD k 0 * 2 ^ k) := rfl
      generalize numTo zs k = x at *
      generalize zs.getD k 0 = z at *
      obtain ⟨m0, m1⟩ := prod_le (a := z) (b := 2 ^ k) (m := 4294967296) z0 (by omega) (by omega) p1
      obtain ⟨m, hm⟩ : ∃ m, z * 2 ^ k = m := ⟨_, rfl⟩
      have hm2 : m ≤ 2 ^ k := by
        rw [← hm]
        rcases (show z = 0 ∨ z = 1 by omega) with e | e
        · rw [e]; omega
        · rw [e]; omega
      rw [hm] at m0 m1
      have e2 : wrap64 (z * 2 ^ k) = m := by rw [hm]; exact wrap_small (by omega) (by omega)
      rw [hm] at HS
      have x2 : x + m ≤ 8589934592 := by omega
      clear m1 hm2 x1 p0 p1
      go_wp2_with fail
      go_round
      case rel => exact ⟨k + 1, by omega, by go_num, by rw [HS.out]⟩
      case measure => simp [intOf]; omega
    · have hkn : k = n := by omega
      subst hkn
      go_wp2_with fail
      go_ret
      exact ⟨rfl, gbR _ _⟩
theorem FnExactDotBits.core (p : Int) (A : Option Addr) (n c : Nat) (zs : List Int) (r : Int) (w : World) (hx : Ints w A n zs) (hn : n ≤ 1048576)
    (hs : ∀ (w : World) (A : Option Addr) (c : Nat), Ints w A n zs → Calls Try.prog 73 #[.int .i64 p, .slice A n c] w fun e w' => e = .returned (.int .i64 r) ∧ w.grownBy w' none)
    (hi : ∀ (w : World) (A : Option Addr) (c : Nat), Ints w A n zs → Calls Try.prog 74 #[.int .i64 p, .slice A n c] w fun e w' => e = .returned (.int .i64 r) ∧ w.grownBy w' none) :
    Calls Try.prog 20 #[.int .i64 p, .slice A n c] w fun e w' => e = .returned (.bool true) ∧ w.grownBy w' none := by
  have HS := Lib.hid hs
  have HI := Lib.hid hi
  clear hs hi
  have hb : ¬ (1048576 : Int) < (n : Int) := by omega
  go_enter Try.func20, Try.ntmps20
  go_wp2_with fail
  refine (toIntS_c A n c zs _ hx (by omega)).mono ?_
  rintro e w1 ⟨g1, rfl, o1, h1⟩
  go_wp2_with fail
  refine (HS.out _ _ _ (Rd.ofOwn o1)).mono ?_
  rintro e w2 ⟨rfl, h2⟩
  have G2 := Lib.hid (gbT h1 h2)
  clear h1 h2 o1
  go_wp2_with fail
  refine (toIntS_c A n c zs _ (hx.grow G2.out) (by omega)).mono ?_
  rintro e w3 ⟨g3, rfl, o3, h3⟩
  have O3 := Lib.hid o3
  have G3 := Lib.hid (gbT G2.out h3)
  clear o3 h3
  go_wp2_with fail
  refine (HI.out _ _ _ (Rd.ofOwn O3.out)).mono ?_
  rintro e w4 ⟨rfl, h4⟩
  have O4 := Lib.hid (own_grow O3.out h4)
  have G4 := Lib.hid (gbT G3.out h4)
  clear h4
  go_wp2_with fail
  refine (toIntS_c A n c zs _ (hx.grow G4.out) (by omega)).mono ?_
  rintro e w5 ⟨g5, rfl, o5, h5⟩
  have O5 := Lib.hid o5
  have O45 := Lib.hid (own_grow O4.out h5)
  have G5 := Lib.hid (gbT G4.out h5)
  clear o5 h5
  go_wp2_with fail
  refine (eqIntS_c _ _ _ _ _ _ zs zs _ (Rd.ofOwn O45.out) (Rd.ofOwn O5.out) (by omega) (by omega)).mono ?_
  rintro e w6 ⟨rfl, q, rfl⟩
  rw [beq_self_eq_true]
  go_wp2_with fail
  go_ret
  exact ⟨rfl, gbDN G5.out _⟩
theorem FnExactDotBits.big (w : World) (p : Int) (A : Option Addr) (n c : Nat) (hm : n ≤ 9223372036854775807) (hb : (1048576 : Int) < (n : Int)) :
    Calls Try.prog 20 #[.int .i64 p, .slice A n c] w fun e w' => e = .returned (.bool true) ∧ w.grownBy w' none := by
  go_enter Try.func20, Try.ntmps20
  go_wp2_with fail
  go_ret
  exact ⟨rfl, gbR _ _⟩
theorem FnExactNumberOf.core (A : Option Addr) (n c : Nat) (zs : List Int) (r : Int) (w : World) (hx : Ints w A n zs) (hn : n ≤ 1048576)
    (hs : ∀ (w : World) (A : Option Addr) (c : Nat), Ints w A n zs → Calls Try.prog 63 #[.slice A n c] w fun e w' => e = .returned (.int .i64 r) ∧ w.grownBy w' none)
    (hi : ∀ (w : World) (A : Option Addr) (c : Nat), Ints w A n zs → Calls Try.prog 64 #[.slice A n c] w fun e w' => e = .returned (.int .i64 r) ∧ w.grownBy w' none) :
    Calls Try.prog 15 #[.slice A n c] w fun e w' => e = .returned (.bool true) ∧ w.grownBy w' none := by
  have HS := Lib.hid hs
  have HI := Lib.hid hi
  clear hs hi
  have hb : ¬ (1048576 : Int) < (n : Int) := by omega
  go_enter Try.func15, Try.ntmps15
  go_wp2_with fail
  refine (toIntS_c A n c zs _ hx (by omega)).mono ?_
  rintro e w1 ⟨g1, rfl, o1, h1⟩
  go_wp2_with fail
  refine (HS.out _ _ _ (Rd.ofOwn o1)).mono ?_
  rintro e w2 ⟨rfl, h2⟩
  have G2 := Lib.hid (gbT h1 h2)
  clear h1 h2 o1
  go_wp2_with fail
  refine (toIntS_c A n c zs _ (hx.grow G2.out) (by omega)).mono ?_
  rintro e w3 ⟨g3, rfl, o3, h3⟩
  have O3 := Lib.hid o3
  have G3 := Lib.hid (gbT G2.out h3)
  clear o3 h3
  go_wp2_with fail
  refine (HI.out _ _ _ (Rd.ofOwn O3.out)).mono ?_
  rintro e w4 ⟨rfl, h4⟩
  have O4 := Lib.hid (own_grow O3.out h4)
  have G4 := Lib.hid (gbT G3.out h4)
  clear h4
  go_wp2_with fail
  refine (toIntS_c A n c zs _ (hx.grow G4.out) (by omega)).mono ?_
  rintro e w5 ⟨g5, rfl, o5, h5⟩
  have O5 := Lib.hid o5
  have O45 := Lib.hid (own_grow O4.out h5)
  have G5 := Lib.hid (gbT G4.out h5)
  clear o5 h5
  go_wp2_with fail
  refine (eqIntS_c _ _ _ _ _ _ zs zs _ (Rd.ofOwn O45.out) (Rd.ofOwn O5.out) (by omega) (by omega)).mono ?_
  rintro e w6 ⟨rfl, q, rfl⟩
  rw [beq_self_eq_true]
  go_wp2_with fail
  go_ret
  exact ⟨rfl, gbDN G5.out _⟩
theorem FnExactNumberOf.big (w : World) (A : Option Addr) (n c : Nat) (hm : n ≤ 9223372036854775807) (hb : (1048576 : Int) < (n : Int)) :
    Calls Try.prog 15 #[.slice A n c] w fun e w' => e = .returned (.bool true) ∧ w.grownBy w' none := by
  go_enter Try.func15, Try.ntmps15
  go_wp2_with fail
  go_ret
  exact ⟨rfl, gbR _ _⟩
theorem FnExactDotBits.walk (w : World) (p : Int) (wp : (Lit.int .i64 p).wf = true) (A : Option Addr) (n c : Nat) (zs : List Int) (hz : IntsK .i64 w A n zs) (hm : n ≤ maxLen) :
    Calls Try.prog 20 #[.int .i64 p, .slice A n c] w fun e w' => e = .returned (.bool true) ∧ w.grownBy w' none := by
  have hp := wf_i64 wp
  obtain ⟨hp0, hp1⟩ := hp
  have hx := hz.ints
  clear hz wp
  unfold maxLen at hm
  by_cases hbig : 1048576 < n
  · exact FnExactDotBits.big w p A n c (by omega) (by omega)
  · cases hf : dotB p zs with
    | true => exact FnExactDotBits.core p A n c zs _ w hx (by omega) (fun w A c hx => specDotBits_yes p A n c zs w hx hf) (fun w A c hx => implDotBits_yes p A n c zs w hx hf)
    | false => exact FnExactDotBits.core p A n c zs _ w hx (by omega) (fun w A c hx => specDotBits_no p A n c zs w hp0 hp1 hx (by omega) hf) (fun w A c hx => implDotBits_no p A n c zs w hp0 hp1 hx (by omega) hf)
theorem FnExactNumberOf.walk (w : World) (A : Option Addr) (n c : Nat) (zs : List Int) (hz : IntsK .i64 w A n zs) (hm : n ≤ maxLen) :
    Calls Try.prog 15 #[.slice A n c] w fun e w' => e = .returned (.bool true) ∧ w.grownBy w' none := by
  have hx := hz.ints
  clear hz
  unfold maxLen at hm
  by_cases hbig : 1048576 < n
  · exact FnExactNumberOf.big w A n c (by omega) (by omega)
  · by_cases hf : n ≤ 32 ∧ bitsB zs = true
    · exact FnExactNumberOf.core A n c zs _ w hx (by omega) (fun w A c hx => specNumberOf_yes A n c zs w hx hf.1 hf.2) (fun w A c hx => implNumberOf_yes A n c zs w hx hf.1 hf.2)
    · have hf' : n ≤ 32 → bitsB zs = false := fun h => by cases hb : bitsB zs with
        | false => rfl
        | true => exact absurd ⟨h, hb⟩ hf
      exact FnExactNumberOf.core A n c zs _ w hx (by omega) (fun w A c hx => specNumberOf_no A n c zs w hx (by omega) hf') (fun w A c hx => implNumberOf_no A n c zs w hx (by omega) hf')
end Go.Proofs.Ytllokfcappfkiaa
