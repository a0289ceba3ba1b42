/-
  Contracts of the laws' small helpers on slices of numbers: eqIntS, heldIntS, markIntS, toIntS.
-/
import Derived.Test.YthaadgdeadbhkaaMgFnExactEngineNew0
import Derived.Laws.BitsAllLaws
import Derived.Laws.BitsLemmas
namespace Go.Proofs.Ythaadgdeadbhkaa
open Go.RowKit
theorem take_eq_succ {α : Type} [Inhabited α] (xs ys : List α) (d : α) (k : Nat) (hx : k < xs.length) (hy : k < ys.length) (h : xs.take k = ys.take k) (he : xs[k]?.getD d = ys[k]?.getD d) : xs.take (k + 1) = ys.take (k + 1) := by
  rw [List.take_succ_eq_append_getElem hx, List.take_succ_eq_append_getElem hy, h]
  simp [List.getElem?_eq_getElem hx, List.getElem?_eq_getElem hy] at he
  rw [he]
theorem ne_of_at {α : Type} (xs ys : List α) (d : α) (k : Nat) (he : ¬ xs[k]?.getD d = ys[k]?.getD d) : ¬ xs = ys := by
  rintro rfl; exact he rfl
theorem eq_of_take {α : Type} (xs ys : List α) (n : Nat) (hx : xs.length = n) (hy : ys.length = n) (h : xs.take n = ys.take n) : xs = ys := by
  rwa [List.take_of_length_le (by omega), List.take_of_length_le (by omega)] at h
set_option maxHeartbeats 400000 in
theorem eqIntS_c (A B : Option Addr) (n m c d : Nat) (xs ys : List Int) (w : World) (hx : Ints w A n xs) (hy : Ints w B m ys) (hn : n ≤ 4611686018427387903) (hm : m ≤ 4611686018427387903) :
    Calls Try.prog 30 #[.slice A n c, .slice B m d] w fun e w' => e = .returned (.bool (xs == ys)) ∧ ∃ q, w' = w.drewN q := by
  have lx := hx.len
  have ly := hy.len
  by_cases hnm : n = m
  · subst hnm
    have hd : ((n : Int) != (n : Int)) = false := by simp
    have LX := Lib.hid lx
    have LY := Lib.hid ly
    clear lx ly
    go_enter Try.func30, Try.ntmps30
    go_wp2_with fail
    go_loopw [5] (fun i w1 => ∃ k q : Nat, k ≤ n ∧ i = .int .i64 k ∧ w1 = w.drewN q ∧ Hid (xs.take k = ys.take k)) (fun i _ => n - (intOf i).toNat)
    case atStart => exact ⟨0, 0, Nat.zero_le _, rfl, rfl, by simp [Hid]⟩
    case round =>
      obtain ⟨k, q, hk, rfl, rfl, heq⟩ := hrel
      by_cases hlt : k < n
      · obtain ⟨b, o, rfl, hb, hc⟩ := hx.at_ (by omega)
        obtain ⟨b', o', rfl, hb', hc'⟩ := hy.at_ (by omega)
        have c1 := hc k hlt
        have c2 := hc' k hlt
        clear hc hc'
        have i1 : (k : Int) < (n : Int) := by omega
        go_wp2_with fail
        go_quiet (fail)
        go_wp2_with fail
        · have hne : (xs[k]?.getD 0 != ys[k]?.getD 0) = true := by assumption
          go_ret
          have h1 := LX.out; have h2 := LY.out
          have := ne_of_at xs ys 0 k (by simpa using hne)
          exact ⟨by simp [this], _, dN ..⟩
        · have hne : (xs[k]?.getD 0 != ys[k]?.getD 0) = false := by assumption
          go_roundw
          case rel =>
            have h1 := LX.out; have h2 := LY.out
            exact ⟨k + 1, _, by omega, by go_num, rfl, take_eq_succ xs ys 0 k (by omega) (by omega) heq.out (by simpa using hne)⟩
          case measure => simp [intOf]; omega
      · have hkn : k = n := by omega
        subst hkn
        go_wp2_with fail
        go_ret
        have h1 := LX.out; have h2 := LY.out
        exact ⟨by simp [eq_of_take xs ys k h1 h2 heq.out], _, rfl⟩
  · have hd : ((n : Int) != (m : Int)) = true := by simp; omega
    go_enter Try.func30, Try.ntmps30
    go_wp2_with fail
    go_ret
    have : ¬ xs = ys := by rintro rfl; omega
    exact ⟨by simp [this], 0, rfl⟩
def marks (k : Int) (n : Nat) : List Int := (List.range n).map fun i : Nat => k + (i : Int)
theorem marks_get (k : Int) (n i : Nat) (h : i < n) : (marks k n)[i]?.getD 0 = k + i := by simp [marks, h]
set_option maxHeartbeats 400000 in
theorem heldIntS_c (A : Option Addr) (n c : Nat) (k0 : Int) (w : World) (hx : Ints w A n (marks k0 n)) (hn : n ≤ 1099511627776) (h0 : 0 ≤ k0) (h1 : k0 ≤ 1099511627776) :
    Calls Try.prog 33 #[.slice A n c, .int .i64 k0] w fun e w' => e = .returned (.int .i64 (k0 + n)) ∧ w' = w := by
  go_enter Try.func33, Try.ntmps33
  go_wp2_with fail
  go_loop [5, 1] (fun i s => ∃ k : Nat, k ≤ n ∧ i = .int .i64 k ∧ s = .int .i64 (k0 + k)) (fun i _ => n - (intOf i).toNat)
  case atStart => exact ⟨0, Nat.zero_le _, rfl, by go_num⟩
  case round =>
    obtain ⟨k, hk, rfl, rfl⟩ := hrel
    by_cases hlt : k < n
    · obtain ⟨b, o, rfl, hb, hc⟩ := hx.at_ (by omega)
      have c1 := hc k hlt
      rw [List.getD_eq_getElem?_getD, marks_get k0 n k hlt] at c1
      clear hc
      have i1 : (k : Int) < (n : Int) := by omega
      go_wp2_with fail
      go_round
      case rel => exact ⟨k + 1, by omega, by go_num, by go_num⟩
      case measure => simp [intOf]; omega
    · have hkn : k = n := by omega
      subst hkn
      go_wp2_with fail
      go_ret
      exact ⟨rfl, rfl⟩
theorem el_int : El Try.prog 24 3 (.int .i64 0) 1 8 := ⟨Try.underlying24, by kernel_rfl, rfl, by decide⟩
def markd (k0 : Int) (xs : List Int) (k : Nat) : List Int := (List.range k).map (fun i : Nat => k0 + (i : Int)) ++ xs.drop k
theorem markd_step (k0 : Int) (xs : List Int) (k : Nat) (h : k < xs.length) : ((markd k0 xs k).map (Value.int .i64)).set k (.int .i64 (k0 + k)) = (markd k0 xs (k + 1)).map (Value.int .i64) := by
  unfold markd
  rw [← List.map_set, fill_step (fun i : Nat => k0 + (i : Int)) xs k h]
theorem markd_all (k0 : Int) (xs : List Int) (n : Nat) (h : xs.length = n) : markd k0 xs n = marks k0 n := by simp [markd, marks, ← h]
set_option maxHeartbeats 400000 in
theorem markIntS_c (base : Nat) (A : Option Addr) (n c : Nat) (xs : List Int) (k0 : Int) (w : World) (hx : w.ownsRow base 3 1 (.slice A n c) n (xs.map (Value.int .i64))) (hn : n ≤ 1099511627776) (h0 : 0 ≤ k0) (h1 : k0 ≤ 1099511627776) :
    Calls Try.prog 32 #[.slice A n c, .int .i64 k0] w fun e w' => e = .returned (.int .i64 (k0 + n)) ∧ w'.ownsRow base 3 1 (.slice A n c) n ((marks k0 n).map (Value.int .i64)) ∧ w.grownBy w' (A.map (·.block)) := by
  have lx : Hid (xs.length = n) := by have := hx.1; unfold Hid; simpa using this
  go_enter Try.func32, Try.ntmps32
  go_wp2_with fail
  go_loopw [5, 1] (fun i s wr => ∃ k : Nat, k ≤ n ∧ i = .int .i64 k ∧ s = .int .i64 (k0 + k) ∧ wr.ownsRow base 3 1 (.slice A n c) n ((markd k0 xs k).map (Value.int .i64)) ∧ w.grownBy wr (A.map (·.block))) (fun i _ _ => n - (intOf i).toNat)
  case atStart => exact ⟨0, Nat.zero_le _, rfl, by go_num, by simpa [markd] using hx, gbR _ _⟩
  case round =>
    obtain ⟨k, hk, rfl, rfl, hown, hg⟩ := hrel
    by_cases hlt : k < n
    · obtain ⟨ad, he⟩ : ∃ g, A = some ⟨g, 0, none⟩ := by
        rcases hown.2 with ⟨h, h'⟩ | ⟨g, cap, cur, hv, _⟩
        · omega
        · injection hv with hv; exact ⟨g, hv⟩
      subst he
      have hcell := hown.cellAt k (by omega)
      have hfr := hown.frozenAt k
      have hst := hown.stored k (.int .i64 (k0 + k))
      rw [markd_step k0 xs k (by have := lx.out; omega)] at hst
      have hl : k < ((markd k0 xs k).map (Value.int .i64)).length := by have := hown.1; omega
      rw [List.getElem?_eq_getElem hl] at hcell
      have Hst := Lib.hid hst
      have i1 : (k : Int) < (n : Int) := by omega
      clear hst
      go_wp2_with fail
      go_roundw
      case rel => exact ⟨k + 1, by omega, by go_num, by go_num, Hst.out.1, gbT hg Hst.out.2⟩
      case measure => simp [intOf]; omega
    · have hkn : k = n := by omega
      subst hkn
      rw [markd_all k0 xs k lx.out] at hown
      go_wp2_with fail
      go_ret
      exact ⟨rfl, hown, hg⟩
set_option maxHeartbeats 400000 in
theorem toIntS_c (A : Option Addr) (n c : Nat) (zs : List Int) (w : World) (hx : Ints w A n zs) (hn : n ≤ 1099511627776) :
    Calls Try.prog 38 #[.slice A n c] w fun e w' => ∃ g, e = .returned (.slice (some ⟨g, 0, none⟩) n n) ∧ w'.ownsRow w.heap.size 3 1 (.slice (some ⟨g, 0, none⟩) n n) n (zs.map (Value.int .i64)) ∧ w.grownBy w' none := by
  have lx := Lib.hid hx.len
  go_enter Try.func38, Try.ntmps38
  go_wp2_with (at_make; refine wp_makeN _ el_int rfl _ _ rfl n rfl rfl (by omega) (by unfold maxLen; omega) ?_; intro w1 hown1 hg1; rw [show (Value.int IntKind.i64 0).cells = #[.int .i64 0] from rfl, made_one] at hown1)
  go_loopw [4] (fun i wr => ∃ k : Nat, k ≤ n ∧ i = .int .i64 k ∧ wr.ownsRow w.heap.size 3 1 (.slice (some ⟨w.heap.size, 0, none⟩) n n) n (((List.range k).map (fun i => zs.getD i 0) ++ (List.replicate n 0).drop k).map (Value.int .i64)) ∧ w.grownBy wr none) (fun i _ => n - (intOf i).toNat)
  case atStart => exact ⟨0, Nat.zero_le _, rfl, by simpa using hown1, hg1⟩
  case round =>
    obtain ⟨k, hk, rfl, hown, hg⟩ := hrel
    by_cases hlt : k < n
    · obtain ⟨b, o, rfl, hb, hc⟩ := (hx.grow hg).at_ (by omega)
      have c1 := hc k hlt
      clear hc
      have hcell := hown.cellAt k (by omega)
      have hfr := hown.frozenAt k
      have hst := hown.stored k (.int .i64 (zs.getD k 0))
      rw [← List.map_set, fill_step (fun i => zs.getD i 0) _ k (by simp; omega)] at hst
      rw [List.getElem?_eq_getElem (by have := hown.1; omega)] at hcell
      have Hst := Lib.hid hst
      have i1 : (k : Int) < (n : Int) := by omega
      clear hst
      go_wp2_with fail
      go_roundw
      case rel => exact ⟨k + 1, by omega, by go_num, by simpa using Hst.out.1, gbN hg Hst.out.2 (by simp)⟩
      case measure => simp [intOf]; omega
    · have hkn : k = n := by omega
      subst hkn
      go_wp2_with fail
      go_ret
      rw [range_getD 0 zs k lx.out] at hown
      exact ⟨_, rfl, by simpa using hown, hg⟩
def IntsK (k : IntKind) (w : World) (A : Option Addr) (n : Nat) (zs : List Int) : Prop := Rd w 1 A n (zs.map (Value.int k)) ∧ (∀ z ∈ zs, (Lit.int k z).wf = true)
theorem IntsK.ints {w : World} {A : Option Addr} {n : Nat} {zs : List Int} (h : IntsK .i64 w A n zs) : Ints w A n zs := h.1
end Go.Proofs.Ythaadgdeadbhkaa
/-
  Plain facts on numbers: primes up to 101, powers of two. No program.
-/
namespace Go.Proofs.Ythaadgdeadbhkaa
def fieldB (p : Int) : Bool := [2, 3, 5, 7, 11, 13, 17, 19, 23, 29, 31, 37, 41, 43, 47, 53, 59, 61, 67, 71, 73, 79, 83, 89, 97, 101].contains p
def fieldN (p : Nat) : Bool := [2, 3, 5, 7, 11, 13, 17, 19, 23, 29, 31, 37, 41, 43, 47, 53, 59, 61, 67, 71, 73, 79, 83, 89, 97, 101].contains p
theorem field_range {p : Int} (h : fieldB p = true) : 2 ≤ p ∧ p ≤ 101 := by
  simp [fieldB] at h
  omega
theorem fieldB_nat : ∀ n : Nat, n < 102 → fieldB (n : Int) = fieldN n := by decide +kernel
theorem field_small {p : Int} (h : p < 2 ∨ 101 < p) : fieldB p = false := by
  cases hb : fieldB p with
  | false => rfl
  | true => have := field_range hb; omega
theorem fieldN_yes : ∀ n : Nat, n < 102 → 2 ≤ n → (∀ d : Nat, d < n → 2 ≤ d → n % d ≠ 0) → fieldN n = true := by decide +kernel
theorem fieldN_no : ∀ n : Nat, n < 102 → ∀ d : Nat, d < n → 2 ≤ d → n % d = 0 → fieldN n = false := by decide +kernel
def noDiv (n d : Nat) : Bool := (List.range d).all fun e => decide (e < 2) || n % e != 0
theorem fieldN_sq : ∀ n : Nat, n < 102 → ∀ d : Nat, d < 12 → (decide (2 ≤ n) && decide (n < d * d) && noDiv n d) = true → fieldN n = true := by decide +kernel
theorem field_yes {p : Int} (h2 : 2 ≤ p) (h3 : p ≤ 101) (h : ∀ d : Nat, 2 ≤ d → (d : Int) < p → p % (d : Int) ≠ 0) : fieldB p = true := by
  obtain ⟨n, rfl⟩ := Int.eq_ofNat_of_zero_le (show 0 ≤ p by omega)
  have hf := fieldB_nat n (by omega)
  have hy := fieldN_yes n (by omega) (by omega) fun d hd h2d => by
    have := h d h2d (by omega)
    intro e
    apply this
    rw [← Int.natCast_emod, e]; rfl
  exact hf.trans hy
theorem field_no {p : Int} {d : Nat} (h2 : 2 ≤ d) (hd : (d : Int) < p) (h : p % (d : Int) = 0) : fieldB p = false := by
  by_cases h3 : 101 < p
  · exact field_small (.inr h3)
  · obtain ⟨n, rfl⟩ := Int.eq_ofNat_of_zero_le (show 0 ≤ p by omega)
    have hf := fieldB_nat n (by omega)
    exact hf.trans (fieldN_no n (by omega) d (by omega) h2 (by rw [← Int.natCast_emod] at h; omega))
theorem field_sq {p : Int} {d : Nat} (h2 : 2 ≤ p) (h3 : p ≤ 101) (hd : d < 12) (hs : p < (d : Int) * (d : Int)) (h : ∀ e : Nat, 2 ≤ e → e < d → p % (e : Int) ≠ 0) : fieldB p = true := by
  obtain ⟨n, rfl⟩ := Int.eq_ofNat_of_zero_le (show 0 ≤ p by omega)
  have hf := fieldB_nat n (by omega)
  have hs' : n < d * d := by
    have : (n : Int) < ((d * d : Nat) : Int) := by rw [Int.natCast_mul]; exact hs
    omega
  refine hf.trans (fieldN_sq n (by omega) d hd ?_)
  simp only [Bool.and_eq_true, decide_eq_true_eq]
  refine ⟨⟨by omega, hs'⟩, ?_⟩
  unfold noDiv
  rw [List.all_eq_true]
  intro e he
  rw [List.mem_range] at he
  by_cases h2e : e < 2
  · simp [h2e]
  · have := h e (by omega) he
    have hne : n % e ≠ 0 := fun e' => this (by rw [← Int.natCast_emod, e']; rfl)
    simp [hne]
theorem ofInt_i64 (a : Nat) (ha : a < 9223372036854775808) : (BitVec.ofInt 64 (a : Int)).toNat = a := by
  rw [BitVec.ofInt_natCast, BitVec.toNat_ofNat]; exact Nat.mod_eq_of_lt (by omega)
theorem and_nat (a b : Nat) (ha : a < 9223372036854775808) (hb : b < 9223372036854775808) : bits .and .i64 (a : Int) (b : Int) = ((a &&& b : Nat) : Int) := by
  have hx : a &&& b < 2 ^ 63 := Nat.and_lt_two_pow _ (by omega)
  show IntKind.i64.wrap ((BitVec.ofInt 64 (a : Int) &&& BitVec.ofInt 64 (b : Int)).toNat : Int) = _
  rw [BitVec.toNat_and, ofInt_i64 a ha, ofInt_i64 b hb, IntKind.wrap_i64]
  omega
theorem xor_nat (a b : Nat) (ha : a < 9223372036854775808) (hb : b < 9223372036854775808) : bits .xor .i64 (a : Int) (b : Int) = ((a ^^^ b : Nat) : Int) := by
  have hx : a ^^^ b < 2 ^ 63 := Nat.xor_lt_two_pow (by omega) (by omega)
  show IntKind.i64.wrap ((BitVec.ofInt 64 (a : Int) ^^^ BitVec.ofInt 64 (b : Int)).toNat : Int) = _
  rw [BitVec.toNat_xor, ofInt_i64 a ha, ofInt_i64 b hb, IntKind.wrap_i64]
  omega
end Go.Proofs.Ythaadgdeadbhkaa
/-
  CountCaught: the reference counts, the program subtracts: the same number. FnExactCountCaught and FnSubsets' callee.
-/
namespace Go.Proofs.Ythaadgdeadbhkaa
open Go.RowKit
set_option linter.unusedVariables false
set_option linter.unusedSimpArgs false
theorem wrap_small {x : Int} (h0 : -1099511627776 ≤ x) (h1 : x ≤ 1099511627776) : wrap64 x = x := IntWalk.wrap64_in x ⟨by omega, by omega⟩
end Go.Proofs.Ythaadgdeadbhkaa
/-
  AllZero, and the laws FnExactCountCaught and FnExactAllZero.
-/
namespace Go.Proofs.Ythaadgdeadbhkaa
open Go.RowKit
set_option linter.unusedVariables false
set_option linter.unusedSimpArgs false
theorem Ints.cell {w : World} {A : Option Addr} {n : Nat} {zs : List Int} (h : Ints w A n zs) {k : Nat} (hk : k < n) :
    ∃ b o, A = some ⟨b, o, none⟩ ∧ b < w.heap.size ∧ w.cell? ⟨b, o + k, none⟩ = some (.int .i64 (zs.getD k 0)) := by
  obtain ⟨b, o, e, hb, hc⟩ := h.at_ (by omega)
  exact ⟨b, o, e, hb, hc k hk⟩
end Go.Proofs.Ythaadgdeadbhkaa
/-
  within, l01In, IsWord: by what they answer.
-/
namespace Go.Proofs.Ythaadgdeadbhkaa
open Go.RowKit
set_option linter.unusedVariables false
set_option linter.unusedSimpArgs false
def inQ (z a b : Int) : Bool := decide (a ≤ z) && decide (z ≤ b)
theorem inQ_yes {z a b : Int} (h1 : a ≤ z) (h2 : z ≤ b) : inQ z a b = true := by simp [inQ, h1, h2]
theorem inQ_lo {z a b : Int} (h1 : z < a) : inQ z a b = false := by
  have : ¬ a ≤ z := by omega
  simp [inQ, this]
theorem inQ_hi {z a b : Int} (h1 : b < z) : inQ z a b = false := by
  have : ¬ z ≤ b := by omega
  simp [inQ, this]
theorem inQ_is {z a b : Int} (h : inQ z a b = true) : a ≤ z ∧ z ≤ b := by simpa [inQ] using h
theorem specInq_c (z a b : Int) (w : World) : Calls Try.prog 92 #[.int .i64 z, .int .i64 a, .int .i64 b] w fun e w' => e = .returned (.bool (inQ z a b)) ∧ w = w' := by
  by_cases h1 : a ≤ z
  · by_cases h2 : z ≤ b
    · have HQ := Lib.hid (inQ_yes h1 h2)
      go_enter Try.func92, Try.ntmps92
      go_wp2_with fail
      go_ret
      exact ⟨retB (by rw [HQ.out]), rfl⟩
    · have HQ := Lib.hid (inQ_hi (a := a) (show b < z by omega))
      have h3 : ¬ z ≤ b := h2
      go_enter Try.func92, Try.ntmps92
      go_wp2_with fail
      go_ret
      exact ⟨retB (by rw [HQ.out]), rfl⟩
  · have HQ := Lib.hid (inQ_lo (b := b) (show z < a by omega))
    go_enter Try.func92, Try.ntmps92
    go_wp2_with fail
    go_ret
    exact ⟨retB (by rw [HQ.out]), rfl⟩
theorem specWordq_c (z : Int) (w : World) : Calls Try.prog 126 #[.int .i64 z] w fun e w' => e = .returned (.bool (inQ z 0 4294967295)) ∧ w = w' := by
  go_enter Try.func126, Try.ntmps126
  go_wp2_with fail
  refine (specInq_c z 0 4294967295 _).mono ?_
  rintro e w1 ⟨rfl, rfl⟩
  go_wp2_with fail
  go_ret
  exact ⟨rfl, rfl⟩
theorem implInq_c (z a b : Int) (w : World) : Calls Try.prog 94 #[.int .i64 z, .int .i64 a, .int .i64 b] w fun e w' => e = .returned (.bool (inQ z a b)) ∧ w = w' := by
  by_cases h1 : a ≤ z
  · by_cases h2 : z ≤ b
    · have HQ := Lib.hid (inQ_yes h1 h2)
      go_enter Try.func94, Try.ntmps94
      go_wp2_with fail
      go_ret
      exact ⟨retB (by rw [HQ.out]), rfl⟩
    · have HQ := Lib.hid (inQ_hi (a := a) (show b < z by omega))
      have h3 : ¬ z ≤ b := h2
      go_enter Try.func94, Try.ntmps94
      go_wp2_with fail
      go_ret
      exact ⟨retB (by rw [HQ.out]), rfl⟩
  · have HQ := Lib.hid (inQ_lo (b := b) (show z < a by omega))
    go_enter Try.func94, Try.ntmps94
    go_wp2_with fail
    go_ret
    exact ⟨retB (by rw [HQ.out]), rfl⟩
theorem implWordq_c (z : Int) (w : World) : Calls Try.prog 114 #[.int .i64 z] w fun e w' => e = .returned (.bool (inQ z 0 4294967295)) ∧ w = w' := by
  go_enter Try.func114, Try.ntmps114
  go_wp2_with fail
  refine (implInq_c z 0 4294967295 _).mono ?_
  rintro e w1 ⟨rfl, rfl⟩
  go_wp2_with fail
  go_ret
  exact ⟨rfl, rfl⟩
end Go.Proofs.Ythaadgdeadbhkaa
