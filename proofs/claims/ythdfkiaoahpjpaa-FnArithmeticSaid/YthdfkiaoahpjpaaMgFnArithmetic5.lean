/-
  Contracts of the laws' small helpers on slices of numbers: eqIntS, heldIntS, markIntS, toIntS.
-/
import Derived.Laws.BitsAllLaws
import Derived.Laws.BitsLemmas
import Derived.Test.YthdfkiaoahpjpaaMgFnArithmetic2
namespace Go.Proofs.Ythdfkiaoahpjpaa
open Go.RowKit
theorem el_int : El Try.prog 24 3 (.int .i64 0) 1 8 := ⟨Try.underlying24, by kernel_rfl, rfl, by decide⟩
def IntsK (k : IntKind) (w : World) (A : Option Addr) (n : Nat) (zs : List Int) : Prop := Rd w 1 A n (zs.map (Value.int k)) ∧ (∀ z ∈ zs, (Lit.int k z).wf = true)
theorem IntsK.ints {w : World} {A : Option Addr} {n : Nat} {zs : List Int} (h : IntsK .i64 w A n zs) : Ints w A n zs := h.1
end Go.Proofs.Ythdfkiaoahpjpaa
/-
  Plain facts on numbers: primes up to 101, powers of two. No program.
-/
namespace Go.Proofs.Ythdfkiaoahpjpaa
def fieldB (p : Int) : Bool := [2, 3, 5, 7, 11, 13, 17, 19, 23, 29, 31, 37, 41, 43, 47, 53, 59, 61, 67, 71, 73, 79, 83, 89, 97, 101].contains p
end Go.Proofs.Ythdfkiaoahpjpaa
/-
  CountCaught: the reference counts, the program subtracts: the same number. FnExactCountCaught and FnSubsets' callee.
-/
namespace Go.Proofs.Ythdfkiaoahpjpaa
open Go.RowKit
set_option linter.unusedVariables false
set_option linter.unusedSimpArgs false
theorem wrap_small {x : Int} (h0 : -1099511627776 ≤ x) (h1 : x ≤ 1099511627776) : wrap64 x = x := IntWalk.wrap64_in x ⟨by omega, by omega⟩
end Go.Proofs.Ythdfkiaoahpjpaa
/-
  AllZero, and the laws FnExactCountCaught and FnExactAllZero.
-/
namespace Go.Proofs.Ythdfkiaoahpjpaa
open Go.RowKit
set_option linter.unusedVariables false
set_option linter.unusedSimpArgs false
theorem Ints.cell {w : World} {A : Option Addr} {n : Nat} {zs : List Int} (h : Ints w A n zs) {k : Nat} (hk : k < n) :
    ∃ b o, A = some ⟨b, o, none⟩ ∧ b < w.heap.size ∧ w.cell? ⟨b, o + k, none⟩ = some (.int .i64 (zs.getD k 0)) := by
  obtain ⟨b, o, e, hb, hc⟩ := h.at_ (by omega)
  exact ⟨b, o, e, hb, hc k hk⟩
end Go.Proofs.Ythdfkiaoahpjpaa
/-
  Slices of structs of numbers: their cells lie one struct behind the other.
-/
namespace Go.Proofs.Ythdfkiaoahpjpaa
open Go.RowKit
set_option linter.unusedVariables false
set_option linter.unusedSimpArgs false
section
variable {α β : Type} {F : α → List β} {sz : Nat}
theorem flat_len (hF : ∀ x, (F x).length = sz) (xs : List α) : (xs.flatMap F).length = xs.length * sz := by
  induction xs with
  | nil => simp
  | cons x xs ih => rw [List.flatMap_cons, List.length_append, hF, ih, List.length_cons, Nat.succ_mul]; omega
theorem flat_get (hF : ∀ x, (F x).length = sz) : ∀ (xs : List α) (i j : Nat), j < sz → (xs.flatMap F)[i * sz + j]? = xs[i]?.bind fun x => (F x)[j]?
  | [], i, j, _ => by simp
  | x :: xs, 0, j, hj => by
    rw [List.flatMap_cons, List.getElem?_append_left (by rw [hF]; omega)]; simp
  | x :: xs, i + 1, j, hj => by
    rw [List.flatMap_cons, List.getElem?_append_right (by rw [hF, Nat.succ_mul]; omega), hF, show (i + 1) * sz + j - sz = i * sz + j by rw [Nat.succ_mul]; omega, flat_get hF xs i j hj]
    simp
theorem mul_add_lt {i n j sz : Nat} (hi : i < n) (hj : j < sz) : i * sz + j < n * sz := by
  have : (i + 1) * sz ≤ n * sz := Nat.mul_le_mul_right sz hi
  rw [Nat.succ_mul] at this; omega
end
structure FL {α : Type} (F : α → List Value) (sz : Nat) (w : World) (A : Option Addr) (n : Nat) (xs : List α) : Prop where
  len : xs.length = n
  rd : Rd w sz A n (xs.flatMap F)
section
variable {α : Type} {F : α → List Value} {sz : Nat} {w w' : World} {A : Option Addr} {n : Nat} {xs : List α}
theorem FL.grown {r : Option Nat} (h : FL F sz w A n xs) (hg : w.grownBy w' r) (hr : Off A r) : FL F sz w' A n xs := ⟨h.len, h.rd.grown hg hr⟩
theorem FL.grow (h : FL F sz w A n xs) (hg : w.grownBy w' none) : FL F sz w' A n xs := ⟨h.len, h.rd.grow hg⟩
theorem FL.cell (hF : ∀ x, (F x).length = sz) (h : FL F sz w A n xs) {k : Nat} (hk : k < n) (hs : 0 < sz) :
    ∃ (b o : Nat) (x : α), A = some ⟨b, o, none⟩ ∧ b < w.heap.size ∧ xs[k]? = some x ∧ ∀ j, j < sz → w.cell? ⟨b, o + (k * sz + j), none⟩ = (F x)[j]? := by
  obtain ⟨b, o, rfl, hb, hc⟩ := h.rd.2 (by omega)
  have hl := h.len
  refine ⟨b, o, xs[k], rfl, hb, List.getElem?_eq_getElem (by omega), fun j hj => ?_⟩
  rw [hc _ (mul_add_lt hk hj), flat_get hF xs k j hj, List.getElem?_eq_getElem (by omega)]
  rfl
theorem FL.ofOwn {base c : Nat} {e : TypeId} (hl : xs.length = n) (h : w.ownsRow base e sz (.slice A n c) n (xs.flatMap F)) : FL F sz w A n xs := ⟨hl, Rd.ofOwn h⟩
theorem FL.nil (w : World) (A : Option Addr) : FL F sz w A 0 [] := ⟨rfl, by simp [Rd]⟩
end
def c2 (t : Int × Int) : List Value := [.int .i64 t.1, .int .i64 t.2]
def c3 (t : Int × Int × Int) : List Value := [.int .i64 t.1, .int .i64 t.2.1, .int .i64 t.2.2]
theorem c3_len (t : Int × Int × Int) : (c3 t).length = 3 := rfl
def i64w (n : Int) : Prop := -9223372036854775808 ≤ n ∧ n ≤ 9223372036854775807
def w2 (x : Int × Int) : Prop := i64w x.1 ∧ i64w x.2
def w3 (x : Int × Int × Int) : Prop := i64w x.1 ∧ i64w x.2.1 ∧ i64w x.2.2
end Go.Proofs.Ythdfkiaoahpjpaa
