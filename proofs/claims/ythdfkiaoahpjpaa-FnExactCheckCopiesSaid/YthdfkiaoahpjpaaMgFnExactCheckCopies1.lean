/-
  Contracts of the laws' small helpers on slices of numbers: eqIntS, heldIntS, markIntS, toIntS.
-/
import Derived.Test.YthdfkiaoahpjpaaMgFnExactCheckCopies0
import Derived.Laws.BitsAllLaws
import Derived.Laws.BitsLemmas
namespace Go.Proofs.Ythdfkiaoahpjpaa
open Go.RowKit
theorem take_eq_succ {α : Type} [Inhabited α] (xs ys : List α) (d : α) (k : Nat) (hx : k < xs.length) (hy : k < ys.length) (h : xs.take k = ys.take k) (he : xs[k]?.getD d = ys[k]?.getD d) : xs.take (k + 1) = ys.take (k + 1) := by
  rw [List.take_succ_eq_append_getElem hx, List.take_succ_eq_append_getElem hy, h]
  simp [List.getElem?_eq_getElem hx, List.getElem?_eq_getElem hy] at he
  rw [he]
theorem ne_of_at {α : Type} (xs ys : List α) (d : α) (k : Nat) (he : ¬ xs[k]?.getD d = ys[k]?.getD d) : ¬ xs = ys := by
  rintro rfl; exact he rfl
theorem eq_of_take {α : Type} (xs ys : List α) (n : Nat) (hx : xs.length = n) (hy : ys.length = n) (h : xs.take n = ys.take n) : xs = ys := by
  rwa [List.take_of_length_le (by omega), List.take_of_length_le (by omega)] at h
set_option maxHeartbeats 400000 in
theorem eqIntS_c (A B : Option Addr) (n m c d : Nat) (xs ys : List Int) (w : World) (hx : Ints w A n xs) (hy : Ints w B m ys) (hn : n ≤ 4611686018427387903) (hm : m ≤ 4611686018427387903) :
    Calls Try.prog 33 #[.slice A n c, .slice B m d] w fun e w' => e = .returned (.bool (xs == ys)) ∧ ∃ q, w' = w.drewN q := by
  have lx := hx.len
  have ly := hy.len
  by_cases hnm : n = m
  · subst hnm
    have hd : ((n : Int) != (n : Int)) = false := by simp
    have LX := Lib.hid lx
    have LY := Lib.hid ly
    clear lx ly
    go_enter Try.func33, Try.ntmps33
    go_wp2_with fail
    go_loopw [5] (fun i w1 => ∃ k q : Nat, k ≤ n ∧ i = .int .i64 k ∧ w1 = w.drewN q ∧ Hid (xs.take k = ys.take k)) (fun i _ => n - (intOf i).toNat)
    case atStart => exact ⟨0, 0, Nat.zero_le _, rfl, rfl, by simp [Hid]⟩
    case round =>
      obtain ⟨k, q, hk, rfl, rfl, heq⟩ := hrel
      by_cases hlt : k < n
      · obtain ⟨b, o, rfl, hb, hc⟩ := hx.at_ (by omega)
        obtain ⟨b', o', rfl, hb', hc'⟩ := hy.at_ (by omega)
        have c1 := hc k hlt
        have c2 := hc' k hlt
        clear hc hc'
        have i1 : (k : Int) < (n : Int) := by omega
        go_wp2_with fail
        go_quiet (fail)
        go_wp2_with fail
        · have hne : (xs[k]?.getD 0 != ys[k]?.getD 0) = true := by assumption
          go_ret
          have h1 := LX.out; have h2 := LY.out
          have := ne_of_at xs ys 0 k (by simpa using hne)
          exact ⟨by simp [this], _, dN ..⟩
        · have hne : (xs[k]?.getD 0 != ys[k]?.getD 0) = false := by assumption
          go_roundw
          case rel =>
            have h1 := LX.out; have h2 := LY.out
            exact ⟨k + 1, _, by omega, by go_num, rfl, take_eq_succ xs ys 0 k (by omega) (by omega) heq.out (by simpa using hne)⟩
          case measure => simp [intOf]; omega
      · have hkn : k = n := by omega
        subst hkn
        go_wp2_with fail
        go_ret
        have h1 := LX.out; have h2 := LY.out
        exact ⟨by simp [eq_of_take xs ys k h1 h2 heq.out], _, rfl⟩
  · have hd : ((n : Int) != (m : Int)) = true := by simp; omega
    go_enter Try.func33, Try.ntmps33
    go_wp2_with fail
    go_ret
    have : ¬ xs = ys := by rintro rfl; omega
    exact ⟨by simp [this], 0, rfl⟩
def marks (k : Int) (n : Nat) : List Int := (List.range n).map fun i : Nat => k + (i : Int)
theorem el_int : El Try.prog 24 3 (.int .i64 0) 1 8 := ⟨Try.underlying24, by kernel_rfl, rfl, by decide⟩
set_option maxHeartbeats 400000 in
theorem toIntS_c (A : Option Addr) (n c : Nat) (zs : List Int) (w : World) (hx : Ints w A n zs) (hn : n ≤ 1099511627776) :
    Calls Try.prog 29 #[.slice A n c] w fun e w' => ∃ g, e = .returned (.slice (some ⟨g, 0, none⟩) n n) ∧ w'.ownsRow w.heap.size 3 1 (.slice (some ⟨g, 0, none⟩) n n) n (zs.map (Value.int .i64)) ∧ w.grownBy w' none := by
  have lx := Lib.hid hx.len
  go_enter Try.func29, Try.ntmps29
  go_wp2_with (at_make; refine wp_makeN _ el_int rfl _ _ rfl n rfl rfl (by omega) (by unfold maxLen; omega) ?_; intro w1 hown1 hg1; rw [show (Value.int IntKind.i64 0).cells = #[.int .i64 0] from rfl, made_one] at hown1)
  go_loopw [4] (fun i wr => ∃ k : Nat, k ≤ n ∧ i = .int .i64 k ∧ wr.ownsRow w.heap.size 3 1 (.slice (some ⟨w.heap.size, 0, none⟩) n n) n (((List.range k).map (fun i => zs.getD i 0) ++ (List.replicate n 0).drop k).map (Value.int .i64)) ∧ w.grownBy wr none) (fun i _ => n - (intOf i).toNat)
  case atStart => exact ⟨0, Nat.zero_le _, rfl, by simpa using hown1, hg1⟩
  case round =>
    obtain ⟨k, hk, rfl, hown, hg⟩ := hrel
    by_cases hlt : k < n
    · obtain ⟨b, o, rfl, hb, hc⟩ := (hx.grow hg).at_ (by omega)
      have c1 := hc k hlt
      clear hc
      have hcell := hown.cellAt k (by omega)
      have hfr := hown.frozenAt k
      have hst := hown.stored k (.int .i64 (zs.getD k 0))
      rw [← List.map_set, fill_step (fun i => zs.getD i 0) _ k (by simp; omega)] at hst
      rw [List.getElem?_eq_getElem (by have := hown.1; omega)] at hcell
      have Hst := Lib.hid hst
      have i1 : (k : Int) < (n : Int) := by omega
      clear hst
      go_wp2_with fail
      go_roundw
      case rel => exact ⟨k + 1, by omega, by go_num, by simpa using Hst.out.1, gbN hg Hst.out.2 (by simp)⟩
      case measure => simp [intOf]; omega
    · have hkn : k = n := by omega
      subst hkn
      go_wp2_with fail
      go_ret
      rw [range_getD 0 zs k lx.out] at hown
      exact ⟨_, rfl, by simpa using hown, hg⟩
def IntsK (k : IntKind) (w : World) (A : Option Addr) (n : Nat) (zs : List Int) : Prop := Rd w 1 A n (zs.map (Value.int k)) ∧ (∀ z ∈ zs, (Lit.int k z).wf = true)
theorem IntsK.ints {w : World} {A : Option Addr} {n : Nat} {zs : List Int} (h : IntsK .i64 w A n zs) : Ints w A n zs := h.1
end Go.Proofs.Ythdfkiaoahpjpaa
/-
  Plain facts on numbers: primes up to 101, powers of two. No program.
-/
namespace Go.Proofs.Ythdfkiaoahpjpaa
def fieldB (p : Int) : Bool := [2, 3, 5, 7, 11, 13, 17, 19, 23, 29, 31, 37, 41, 43, 47, 53, 59, 61, 67, 71, 73, 79, 83, 89, 97, 101].contains p
theorem ofInt_i64 (a : Nat) (ha : a < 9223372036854775808) : (BitVec.ofInt 64 (a : Int)).toNat = a := by
  rw [BitVec.ofInt_natCast, BitVec.toNat_ofNat]; exact Nat.mod_eq_of_lt (by omega)
theorem and_nat (a b : Nat) (ha : a < 9223372036854775808) (hb : b < 9223372036854775808) : bits .and .i64 (a : Int) (b : Int) = ((a &&& b : Nat) : Int) := by
  have hx : a &&& b < 2 ^ 63 := Nat.and_lt_two_pow _ (by omega)
  show IntKind.i64.wrap ((BitVec.ofInt 64 (a : Int) &&& BitVec.ofInt 64 (b : Int)).toNat : Int) = _
  rw [BitVec.toNat_and, ofInt_i64 a ha, ofInt_i64 b hb, IntKind.wrap_i64]
  omega
theorem xor_nat (a b : Nat) (ha : a < 9223372036854775808) (hb : b < 9223372036854775808) : bits .xor .i64 (a : Int) (b : Int) = ((a ^^^ b : Nat) : Int) := by
  have hx : a ^^^ b < 2 ^ 63 := Nat.xor_lt_two_pow (by omega) (by omega)
  show IntKind.i64.wrap ((BitVec.ofInt 64 (a : Int) ^^^ BitVec.ofInt 64 (b : Int)).toNat : Int) = _
  rw [BitVec.toNat_xor, ofInt_i64 a ha, ofInt_i64 b hb, IntKind.wrap_i64]
  omega
end Go.Proofs.Ythdfkiaoahpjpaa
/-
  CountCaught: the reference counts, the program subtracts: the same number. FnExactCountCaught and FnSubsets' callee.
-/
namespace Go.Proofs.Ythdfkiaoahpjpaa
open Go.RowKit
set_option linter.unusedVariables false
set_option linter.unusedSimpArgs false
end Go.Proofs.Ythdfkiaoahpjpaa
/-
  AllZero, and the laws FnExactCountCaught and FnExactAllZero.
-/
namespace Go.Proofs.Ythdfkiaoahpjpaa
open Go.RowKit
set_option linter.unusedVariables false
set_option linter.unusedSimpArgs false
theorem Ints.cell {w : World} {A : Option Addr} {n : Nat} {zs : List Int} (h : Ints w A n zs) {k : Nat} (hk : k < n) :
    ∃ b o, A = some ⟨b, o, none⟩ ∧ b < w.heap.size ∧ w.cell? ⟨b, o + k, none⟩ = some (.int .i64 (zs.getD k 0)) := by
  obtain ⟨b, o, e, hb, hc⟩ := h.at_ (by omega)
  exact ⟨b, o, e, hb, hc k hk⟩
end Go.Proofs.Ythdfkiaoahpjpaa
/-
  within, l01In, IsWord: by what they answer.
-/
namespace Go.Proofs.Ythdfkiaoahpjpaa
open Go.RowKit
set_option linter.unusedVariables false
set_option linter.unusedSimpArgs false
def inQ (z a b : Int) : Bool := decide (a ≤ z) && decide (z ≤ b)
theorem inQ_yes {z a b : Int} (h1 : a ≤ z) (h2 : z ≤ b) : inQ z a b = true := by simp [inQ, h1, h2]
theorem inQ_lo {z a b : Int} (h1 : z < a) : inQ z a b = false := by
  have : ¬ a ≤ z := by omega
  simp [inQ, this]
theorem inQ_hi {z a b : Int} (h1 : b < z) : inQ z a b = false := by
  have : ¬ z ≤ b := by omega
  simp [inQ, this]
theorem inQ_is {z a b : Int} (h : inQ z a b = true) : a ≤ z ∧ z ≤ b := by simpa [inQ] using h
theorem specInq_c (z a b : Int) (w : World) : Calls Try.prog 62 #[.int .i64 z, .int .i64 a, .int .i64 b] w fun e w' => e = .returned (.bool (inQ z a b)) ∧ w = w' := by
  by_cases h1 : a ≤ z
  · by_cases h2 : z ≤ b
    · have HQ := Lib.hid (inQ_yes h1 h2)
      go_enter Try.func62, Try.ntmps62
      go_wp2_with fail
      go_ret
      exact ⟨retB (by rw [HQ.out]), rfl⟩
    · have HQ := Lib.hid (inQ_hi (a := a) (show b < z by omega))
      have h3 : ¬ z ≤ b := h2
      go_enter Try.func62, Try.ntmps62
      go_wp2_with fail
      go_ret
      exact ⟨retB (by rw [HQ.out]), rfl⟩
  · have HQ := Lib.hid (inQ_lo (b := b) (show z < a by omega))
    go_enter Try.func62, Try.ntmps62
    go_wp2_with fail
    go_ret
    exact ⟨retB (by rw [HQ.out]), rfl⟩
theorem specWordq_c (z : Int) (w : World) : Calls Try.prog 99 #[.int .i64 z] w fun e w' => e = .returned (.bool (inQ z 0 4294967295)) ∧ w = w' := by
  go_enter Try.func99, Try.ntmps99
  go_wp2_with fail
  refine (specInq_c z 0 4294967295 _).mono ?_
  rintro e w1 ⟨rfl, rfl⟩
  go_wp2_with fail
  go_ret
  exact ⟨rfl, rfl⟩
theorem implInq_c (z a b : Int) (w : World) : Calls Try.prog 54 #[.int .i64 z, .int .i64 a, .int .i64 b] w fun e w' => e = .returned (.bool (inQ z a b)) ∧ w = w' := by
  by_cases h1 : a ≤ z
  · by_cases h2 : z ≤ b
    · have HQ := Lib.hid (inQ_yes h1 h2)
      go_enter Try.func54, Try.ntmps54
      go_wp2_with fail
      go_ret
      exact ⟨retB (by rw [HQ.out]), rfl⟩
    · have HQ := Lib.hid (inQ_hi (a := a) (show b < z by omega))
      have h3 : ¬ z ≤ b := h2
      go_enter Try.func54, Try.ntmps54
      go_wp2_with fail
      go_ret
      exact ⟨retB (by rw [HQ.out]), rfl⟩
  · have HQ := Lib.hid (inQ_lo (b := b) (show z < a by omega))
    go_enter Try.func54, Try.ntmps54
    go_wp2_with fail
    go_ret
    exact ⟨retB (by rw [HQ.out]), rfl⟩
theorem implWordq_c (z : Int) (w : World) : Calls Try.prog 75 #[.int .i64 z] w fun e w' => e = .returned (.bool (inQ z 0 4294967295)) ∧ w = w' := by
  go_enter Try.func75, Try.ntmps75
  go_wp2_with fail
  refine (implInq_c z 0 4294967295 _).mono ?_
  rintro e w1 ⟨rfl, rfl⟩
  go_wp2_with fail
  go_ret
  exact ⟨rfl, rfl⟩
end Go.Proofs.Ythdfkiaoahpjpaa
