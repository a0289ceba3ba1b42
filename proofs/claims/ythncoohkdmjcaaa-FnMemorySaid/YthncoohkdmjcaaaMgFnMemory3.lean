/-
  Plain facts on numbers: primes up to 101, powers of two. No program.
-/
import Derived.Test.YthncoohkdmjcaaaMgFnMemory0
import Derived.Laws.BitsAllLaws
import Derived.Laws.BitsLemmas
import Derived.Test.YthncoohkdmjcaaaMgFnMemory2
namespace Go.Proofs.Ythncoohkdmjcaaa
/-- p is a prime of at most 101. -/
def fieldB (p : Int) : Bool := [2, 3, 5, 7, 11, 13, 17, 19, 23, 29, 31, 37, 41, 43, 47, 53, 59, 61, 67, 71, 73, 79, 83, 89, 97, 101].contains p
def fieldN (p : Nat) : Bool := [2, 3, 5, 7, 11, 13, 17, 19, 23, 29, 31, 37, 41, 43, 47, 53, 59, 61, 67, 71, 73, 79, 83, 89, 97, 101].contains p
theorem field_range {p : Int} (h : fieldB p = true) : 2 ≤ p ∧ p ≤ 101 := by
  simp [fieldB] at h
  omega
theorem fieldB_nat : ∀ n : Nat, n < 102 → fieldB (n : Int) = fieldN n := by decide +kernel
theorem field_small {p : Int} (h : p < 2 ∨ 101 < p) : fieldB p = false := by
  cases hb : fieldB p with
  | false => rfl
  | true => have := field_range hb; omega
theorem fieldN_yes : ∀ n : Nat, n < 102 → 2 ≤ n → (∀ d : Nat, d < n → 2 ≤ d → n % d ≠ 0) → fieldN n = true := by decide +kernel
theorem fieldN_no : ∀ n : Nat, n < 102 → ∀ d : Nat, d < n → 2 ≤ d → n % d = 0 → fieldN n = false := by decide +kernel
def noDiv (n d : Nat) : Bool := (List.range d).all fun e => decide (e < 2) || n % e != 0
theorem fieldN_sq : ∀ n : Nat, n < 102 → ∀ d : Nat, d < 12 → (decide (2 ≤ n) && decide (n < d * d) && noDiv n d) = true → fieldN n = true := by decide +kernel
theorem field_yes {p : Int} (h2 : 2 ≤ p) (h3 : p ≤ 101) (h : ∀ d : Nat, 2 ≤ d → (d : Int) < p → p % (d : Int) ≠ 0) : fieldB p = true := by
  obtain ⟨n, rfl⟩ := Int.eq_ofNat_of_zero_le (show 0 ≤ p by omega)
  have hf := fieldB_nat n (by omega)
  have hy := fieldN_yes n (by omega) (by omega) fun d hd h2d => by
    have := h d h2d (by omega)
    intro e
    apply this
    rw [← Int.natCast_emod, e]; rfl
  exact hf.trans hy
theorem field_no {p : Int} {d : Nat} (h2 : 2 ≤ d) (hd : (d : Int) < p) (h : p % (d : Int) = 0) : fieldB p = false := by
  by_cases h3 : 101 < p
  · exact field_small (.inr h3)
  · obtain ⟨n, rfl⟩ := Int.eq_ofNat_of_zero_le (show 0 ≤ p by omega)
    have hf := fieldB_nat n (by omega)
    exact hf.trans (fieldN_no n (by omega) d (by omega) h2 (by rw [← Int.natCast_emod] at h; omega))
theorem field_sq {p : Int} {d : Nat} (h2 : 2 ≤ p) (h3 : p ≤ 101) (hd : d < 12) (hs : p < (d : Int) * (d : Int)) (h : ∀ e : Nat, 2 ≤ e → e < d → p % (e : Int) ≠ 0) : fieldB p = true := by
  obtain ⟨n, rfl⟩ := Int.eq_ofNat_of_zero_le (show 0 ≤ p by omega)
  have hf := fieldB_nat n (by omega)
  have hs' : n < d * d := by
    have : (n : Int) < ((d * d : Nat) : Int) := by rw [Int.natCast_mul]; exact hs
    omega
  refine hf.trans (fieldN_sq n (by omega) d hd ?_)
  simp only [Bool.and_eq_true, decide_eq_true_eq]
  refine ⟨⟨by omega, hs'⟩, ?_⟩
  unfold noDiv
  rw [List.all_eq_true]
  intro e he
  rw [List.mem_range] at he
  by_cases h2e : e < 2
  · simp [h2e]
  · have := h e (by omega) he
    have hne : n % e ≠ 0 := fun e' => this (by rw [← Int.natCast_emod, e']; rfl)
    simp [hne]
theorem ofInt_i64 (a : Nat) (ha : a < 9223372036854775808) : (BitVec.ofInt 64 (a : Int)).toNat = a := by
  rw [BitVec.ofInt_natCast, BitVec.toNat_ofNat]; exact Nat.mod_eq_of_lt (by omega)
theorem and_nat (a b : Nat) (ha : a < 9223372036854775808) (hb : b < 9223372036854775808) : bits .and .i64 (a : Int) (b : Int) = ((a &&& b : Nat) : Int) := by
  have hx : a &&& b < 2 ^ 63 := Nat.and_lt_two_pow _ (by omega)
  show IntKind.i64.wrap ((BitVec.ofInt 64 (a : Int) &&& BitVec.ofInt 64 (b : Int)).toNat : Int) = _
  rw [BitVec.toNat_and, ofInt_i64 a ha, ofInt_i64 b hb, IntKind.wrap_i64]
  omega
theorem xor_nat (a b : Nat) (ha : a < 9223372036854775808) (hb : b < 9223372036854775808) : bits .xor .i64 (a : Int) (b : Int) = ((a ^^^ b : Nat) : Int) := by
  have hx : a ^^^ b < 2 ^ 63 := Nat.xor_lt_two_pow (by omega) (by omega)
  show IntKind.i64.wrap ((BitVec.ofInt 64 (a : Int) ^^^ BitVec.ofInt 64 (b : Int)).toNat : Int) = _
  rw [BitVec.toNat_xor, ofInt_i64 a ha, ofInt_i64 b hb, IntKind.wrap_i64]
  omega
/-- How many of the first k numbers have a bit among the lowest b. -/
def hits (b : Nat) : Nat → Nat
  | 0 => 0
  | k + 1 => hits b k + if k &&& (2 ^ b - 1) = 0 then 0 else 1
theorem hits_le (b : Nat) : ∀ k, hits b k ≤ k
  | 0 => Nat.le_refl _
  | k + 1 => by
    have := hits_le b k
    unfold hits
    split <;> omega
theorem hits_all : ∀ n, n < 9 → ∀ b, b < n + 1 → hits b (2 ^ n) + 2 ^ (n - b) = 2 ^ n := by decide +kernel
def caught (n b : Int) : Int := if 0 ≤ n ∧ n ≤ 8 ∧ 0 ≤ b ∧ b ≤ n then ((2 ^ n.toNat - 2 ^ (n.toNat - b.toNat) : Nat) : Int) else -1
theorem two_pow_le {n : Nat} (h : n ≤ 8) : 2 ^ n ≤ 256 := Nat.pow_le_pow_right (n := 2) (by omega) h
theorem two_pow_pos' (n : Nat) : 1 ≤ 2 ^ n := Nat.one_le_two_pow
end Go.Proofs.Ythncoohkdmjcaaa
/-
  CountCaught: the reference counts, the program subtracts: the same number. FnExactCountCaught and FnSubsets' callee.
-/
namespace Go.Proofs.Ythncoohkdmjcaaa
open Go.RowKit
set_option linter.unusedVariables false
set_option linter.unusedSimpArgs false
theorem wrap_small {x : Int} (h0 : -1099511627776 ≤ x) (h1 : x ≤ 1099511627776) : wrap64 x = x := IntWalk.wrap64_in x ⟨by omega, by omega⟩

end Go.Proofs.Ythncoohkdmjcaaa
/-
  AllZero, and the laws FnExactCountCaught and FnExactAllZero.
-/
namespace Go.Proofs.Ythncoohkdmjcaaa
open Go.RowKit
set_option linter.unusedVariables false
set_option linter.unusedSimpArgs false

/-- The number k places in. -/
theorem Ints.cell {w : World} {A : Option Addr} {n : Nat} {zs : List Int} (h : Ints w A n zs) {k : Nat} (hk : k < n) :
    ∃ b o, A = some ⟨b, o, none⟩ ∧ b < w.heap.size ∧ w.cell? ⟨b, o + k, none⟩ = some (.int .i64 (zs.getD k 0)) := by
  obtain ⟨b, o, e, hb, hc⟩ := h.at_ (by omega)
  exact ⟨b, o, e, hb, hc k hk⟩
def allZ (zs : List Int) (k : Nat) : Prop := ∀ j, j < k → zs.getD j 0 = 0
theorem allZ_all {zs : List Int} {n : Nat} (hl : zs.length = n) (h : allZ zs n) : zs.all (· == 0) = true := by
  rw [List.all_eq_true]
  intro x hx
  obtain ⟨j, hj, rfl⟩ := List.getElem_of_mem hx
  have := h j (by omega)
  rw [getI zs j hj] at this
  simp [this]
theorem allZ_not {zs : List Int} {k : Nat} (hk : k < zs.length) (h : ¬ zs.getD k 0 = 0) : zs.all (· == 0) = false := by
  rw [List.all_eq_false]
  refine ⟨zs[k], List.getElem_mem hk, ?_⟩
  rw [getI zs k hk] at h
  simp [h]
theorem allZ_succ {zs : List Int} {k : Nat} (h : allZ zs k) (h0 : zs.getD k 0 = 0) : allZ zs (k + 1) := fun j hj => by
  by_cases e : j = k
  · rw [e]; exact h0
  · exact h j (by omega)
end Go.Proofs.Ythncoohkdmjcaaa
/-
  Slices of structs of numbers: their cells lie one struct behind the other.
-/
namespace Go.Proofs.Ythncoohkdmjcaaa
open Go.RowKit
set_option linter.unusedVariables false
set_option linter.unusedSimpArgs false
section
variable {α β : Type} {F : α → List β} {sz : Nat}
theorem flat_len (hF : ∀ x, (F x).length = sz) (xs : List α) : (xs.flatMap F).length = xs.length * sz := by
  induction xs with
  | nil => simp
  | cons x xs ih => rw [List.flatMap_cons, List.length_append, hF, ih, List.length_cons, Nat.succ_mul]; omega
theorem flat_get (hF : ∀ x, (F x).length = sz) : ∀ (xs : List α) (i j : Nat), j < sz → (xs.flatMap F)[i * sz + j]? = xs[i]?.bind fun x => (F x)[j]?
  | [], i, j, _ => by simp
  | x :: xs, 0, j, hj => by
    rw [List.flatMap_cons, List.getElem?_append_left (by rw [hF]; omega)]; simp
  | x :: xs, i + 1, j, hj => by
    rw [List.flatMap_cons, List.getElem?_append_right (by rw [hF, Nat.succ_mul]; omega), hF, show (i + 1) * sz + j - sz = i * sz + j by rw [Nat.succ_mul]; omega, flat_get hF xs i j hj]
    simp
theorem flat_get' (hF : ∀ x, (F x).length = sz) (hs : 0 < sz) (xs : List α) (m : Nat) : (xs.flatMap F)[m]? = xs[m / sz]?.bind fun x => (F x)[m % sz]? := by
  have := flat_get hF xs (m / sz) (m % sz) (Nat.mod_lt _ hs)
  rwa [show m / sz * sz + m % sz = m by rw [Nat.mul_comm]; exact Nat.div_add_mod m sz] at this
theorem flat_ext (hF : ∀ x, (F x).length = sz) {xs : List α} {l : List β} (hl : l.length = xs.length * sz) (h : ∀ i j x, xs[i]? = some x → j < sz → l[i * sz + j]? = (F x)[j]?) : l = xs.flatMap F := by
  apply List.ext_getElem?
  intro m
  rcases Nat.eq_zero_or_pos sz with h0 | hs
  · subst h0
    have h1 : l = [] := List.eq_nil_of_length_eq_zero (by simpa using hl)
    have h2 : xs.flatMap F = [] := List.eq_nil_of_length_eq_zero (by rw [flat_len hF]; simp)
    rw [h1, h2]
  · rw [flat_get' hF hs]
    have e : m / sz * sz + m % sz = m := by rw [Nat.mul_comm]; exact Nat.div_add_mod m sz
    cases hx : xs[m / sz]? with
    | some x => rw [Option.bind_some, ← h _ _ x hx (Nat.mod_lt _ hs), e]
    | none =>
      rw [Option.bind_none, List.getElem?_eq_none]
      rw [hl]
      have h1 : xs.length ≤ m / sz := by simpa using hx
      have := Nat.mul_le_mul_right sz h1
      have := Nat.div_mul_le_self m sz
      omega
theorem mul_add_lt {i n j sz : Nat} (hi : i < n) (hj : j < sz) : i * sz + j < n * sz := by
  have : (i + 1) * sz ≤ n * sz := Nat.mul_le_mul_right sz hi
  rw [Nat.succ_mul] at this; omega
theorem div_unique' {i i' j j' sz : Nat} (hj : j < sz) (hj' : j' < sz) (h : i * sz + j = i' * sz + j') : i = i' ∧ j = j' := by
  have h1 : (i * sz + j) / sz = i := by rw [Nat.mul_comm, Nat.mul_add_div (by omega), Nat.div_eq_of_lt hj]; omega
  have h2 : (i' * sz + j') / sz = i' := by rw [Nat.mul_comm, Nat.mul_add_div (by omega), Nat.div_eq_of_lt hj']; omega
  have e : i = i' := by rw [← h1, ← h2, h]
  subst e
  exact ⟨rfl, by omega⟩
theorem flat_set2 {F : α → List β} (hF : ∀ x, (F x).length = 2) (ys : List α) (k : Nat) (hk : k < ys.length) (x : α) (a b : β) (hx : F x = [a, b]) : ((ys.flatMap F).set (k * 2) a).set (k * 2 + 1) b = (ys.set k x).flatMap F := by
  refine flat_ext hF (by simp [flat_len hF]) fun i j y hy hj => ?_
  have hl := flat_len hF ys
  have hin : i < ys.length := by have := (List.getElem?_eq_some_iff.1 hy).1; simpa using this
  simp only [List.getElem?_set, List.length_set] at *
  rw [flat_get hF ys i j hj, hl]
  by_cases e : k = i
  · subst e
    rw [if_pos rfl, if_pos hk] at hy
    injection hy with hy
    subst hy
    rw [hx]
    rcases (show j = 0 ∨ j = 1 by omega) with rfl | rfl
    · rw [if_neg (by omega), if_pos (by omega), if_pos (by omega)]; rfl
    · rw [if_pos rfl, if_pos (by omega)]; rfl
  · rw [if_neg e] at hy
    rw [if_neg (by omega), if_neg (by omega), hy]; rfl
theorem flat_set3 {F : α → List β} (hF : ∀ x, (F x).length = 3) (ys : List α) (k : Nat) (hk : k < ys.length) (x : α) (a b c : β) (hx : F x = [a, b, c]) : (((ys.flatMap F).set (k * 3) a).set (k * 3 + 1) b).set (k * 3 + 2) c = (ys.set k x).flatMap F := by
  refine flat_ext hF (by simp [flat_len hF]) fun i j y hy hj => ?_
  have hl := flat_len hF ys
  have hin : i < ys.length := by have := (List.getElem?_eq_some_iff.1 hy).1; simpa using this
  simp only [List.getElem?_set, List.length_set] at *
  rw [flat_get hF ys i j hj, hl]
  by_cases e : k = i
  · subst e
    rw [if_pos rfl, if_pos hk] at hy
    injection hy with hy
    subst hy
    rw [hx]
    rcases (show j = 0 ∨ j = 1 ∨ j = 2 by omega) with rfl | rfl | rfl
    · rw [if_neg (by omega), if_neg (by omega), if_pos (by omega), if_pos (by omega)]; rfl
    · rw [if_neg (by omega), if_pos rfl, if_pos (by omega)]; rfl
    · rw [if_pos rfl, if_pos (by omega)]; rfl
  · rw [if_neg e] at hy
    rw [if_neg (by omega), if_neg (by omega), if_neg (by omega), hy]; rfl
theorem fillD_step (d : α) (xs : List α) (k : Nat) (h : k < xs.length) : (xs.take k ++ List.replicate (xs.length - k) d).set k xs[k] = xs.take (k + 1) ++ List.replicate (xs.length - (k + 1)) d := by
  rw [List.set_append_right _ _ (by simp; omega)]
  rw [List.length_take, Nat.min_eq_left (by omega), Nat.sub_self, show xs.length - k = (xs.length - (k + 1)) + 1 by omega, List.replicate_succ, List.set_cons_zero, List.take_succ_eq_append_getElem h, List.append_assoc]
  rfl
end
/-- The slice A, n holds the structs xs: F x are the cells of one, sz of them. -/
structure FL {α : Type} (F : α → List Value) (sz : Nat) (w : World) (A : Option Addr) (n : Nat) (xs : List α) : Prop where
  len : xs.length = n
  rd : Rd w sz A n (xs.flatMap F)
section
variable {α : Type} {F : α → List Value} {sz : Nat} {w w' : World} {A : Option Addr} {n : Nat} {xs : List α}
theorem FL.grown {r : Option Nat} (h : FL F sz w A n xs) (hg : w.grownBy w' r) (hr : Off A r) : FL F sz w' A n xs := ⟨h.len, h.rd.grown hg hr⟩
theorem FL.grow (h : FL F sz w A n xs) (hg : w.grownBy w' none) : FL F sz w' A n xs := ⟨h.len, h.rd.grow hg⟩
theorem FL.cell (hF : ∀ x, (F x).length = sz) (h : FL F sz w A n xs) {k : Nat} (hk : k < n) (hs : 0 < sz) :
    ∃ (b o : Nat) (x : α), A = some ⟨b, o, none⟩ ∧ b < w.heap.size ∧ xs[k]? = some x ∧ ∀ j, j < sz → w.cell? ⟨b, o + (k * sz + j), none⟩ = (F x)[j]? := by
  obtain ⟨b, o, rfl, hb, hc⟩ := h.rd.2 (by omega)
  have hl := h.len
  refine ⟨b, o, xs[k], rfl, hb, List.getElem?_eq_getElem (by omega), fun j hj => ?_⟩
  rw [hc _ (mul_add_lt hk hj), flat_get hF xs k j hj, List.getElem?_eq_getElem (by omega)]
  rfl
theorem FL.ofOwn {base c : Nat} {e : TypeId} (hl : xs.length = n) (h : w.ownsRow base e sz (.slice A n c) n (xs.flatMap F)) : FL F sz w A n xs := ⟨hl, Rd.ofOwn h⟩
theorem FL.nil (w : World) (A : Option Addr) : FL F sz w A 0 [] := ⟨rfl, by simp [Rd]⟩
end
theorem made_flat {α : Type} {F : α → List Value} {sz : Nat} (hF : ∀ x, (F x).length = sz) (hs : 0 < sz) (d : α) (z : Array Value) (hz : z.toList = F d) (n : Nat) : (madeCells z (n * sz)).toList = (List.replicate n d).flatMap F := by
  have hzs : z.size = sz := by rw [← Array.length_toList, hz, hF]
  refine flat_ext hF (by simp [size_madeCells]) fun i j x hx hj => ?_
  have hi : i < n ∧ x = d := by
    rw [List.getElem?_replicate] at hx
    split at hx
    · injection hx with hx; exact ⟨by assumption, hx.symm⟩
    · cases hx
  obtain ⟨hi, rfl⟩ := hi
  have hlt := mul_add_lt hi hj
  have hm : (i * sz + j) % sz = j := by rw [Nat.mul_comm, Nat.mul_add_mod, Nat.mod_eq_of_lt hj]
  have hzj : j < z.size := by omega
  rw [← hz]
  simp [madeCells, hlt, hzs, hm]
  rw [getElem!_pos z j hzj, Array.getElem?_eq_getElem hzj]
/-- The cells of a pair of numbers, of three. -/
def c2 (t : Int × Int) : List Value := [.int .i64 t.1, .int .i64 t.2]
theorem c2_len (t : Int × Int) : (c2 t).length = 2 := rfl
def c3 (t : Int × Int × Int) : List Value := [.int .i64 t.1, .int .i64 t.2.1, .int .i64 t.2.2]
theorem c3_len (t : Int × Int × Int) : (c3 t).length = 3 := rfl
def i64w (n : Int) : Prop := -9223372036854775808 ≤ n ∧ n ≤ 9223372036854775807
def w2 (x : Int × Int) : Prop := i64w x.1 ∧ i64w x.2
def w3 (x : Int × Int × Int) : Prop := i64w x.1 ∧ i64w x.2.1 ∧ i64w x.2.2
end Go.Proofs.Ythncoohkdmjcaaa
