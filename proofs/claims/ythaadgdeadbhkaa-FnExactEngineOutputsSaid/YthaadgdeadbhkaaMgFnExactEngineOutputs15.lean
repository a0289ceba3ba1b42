/-
  XorField, XorAll: reference and program, and their exact laws.
-/
import Derived.Test.YthaadgdeadbhkaaMgFnExactEngineOutputs14
import Derived.IntWalk
import Derived.Test.YthaadgdeadbhkaaMgFnExactEngineOutputs2
import Derived.Test.YthaadgdeadbhkaaMgFnExactEngineOutputs3
import Derived.Deep.DeepCutAuto
namespace Go.Proofs.Ythaadgdeadbhkaa
open Go.RowKit
set_option linter.unusedVariables false
set_option linter.unusedSimpArgs false
theorem prod_le {a b m : Int} (ha : 0 ≤ a) (hb : 0 ≤ b) (ha' : a ≤ m) (hb' : b ≤ m) : 0 ≤ a * b ∧ a * b ≤ m * m :=
  ⟨Int.mul_nonneg ha hb, Int.mul_le_mul ha' hb' hb (by omega)⟩
end Go.Proofs.Ythaadgdeadbhkaa
/-
  XorAll: reference and program, and its exact law.
-/
namespace Go.Proofs.Ythaadgdeadbhkaa
open Go.RowKit
set_option linter.unusedVariables false
set_option linter.unusedSimpArgs false
end Go.Proofs.Ythaadgdeadbhkaa
/-
  DotBits and NumberOf: reference and program, and their exact laws.
-/
namespace Go.Proofs.Ythaadgdeadbhkaa
open Go.RowKit
set_option linter.unusedVariables false
set_option linter.unusedSimpArgs false
end Go.Proofs.Ythaadgdeadbhkaa
/-
  BitsOf, ChosenBy, FieldOk, FieldBits: reference and program, and the laws that hold them together.
-/
namespace Go.Proofs.Ythaadgdeadbhkaa
open Go.RowKit
set_option linter.unusedVariables false
set_option linter.unusedSimpArgs false
end Go.Proofs.Ythaadgdeadbhkaa
/-
  The draws: a cursor over bytes. What is drawn lies in its range; nothing else is said of it.
-/
namespace Go.Proofs.Ythaadgdeadbhkaa
open Go.RowKit
set_option linter.unusedVariables false
set_option linter.unusedSimpArgs false
theorem Rd.grown' {w w' : World} {sz n : Nat} {A : Option Addr} {xs : List Value} {r : Option Nat} (h : Rd w sz A n xs) (hg : w.grownBy w' r) (hr : 0 < n → Off A r) : Rd w' sz A n xs := by
  rcases Nat.eq_zero_or_pos n with h0 | h0
  · exact ⟨h.1, fun hn => by omega⟩
  · exact h.grown hg (hr h0)
structure Cur (w : World) (g : Nat) (A : Option Addr) (n c : Nat) (bs : List Int) : Prop where
  blk : ∃ (i : Nat) (h : Int), i ≤ n ∧ Blk w g 138 #[.slice A n c, .int .i64 i, .int .i64 h]
  bytes : Rd w 1 A n (bs.map (Value.int .u8))
  rng : ∀ b ∈ bs, 0 ≤ b ∧ b ≤ 255
  off : 0 < n → Off A (some g)
  small : n ≤ 1048576
theorem Cur.grow {w w' : World} {g : Nat} {A : Option Addr} {n c : Nat} {bs : List Int} (h : Cur w g A n c bs) (hg : w.grownBy w' none) : Cur w' g A n c bs := by
  obtain ⟨⟨i, k, hi, hb⟩, h2, h3, h4, h5⟩ := h
  exact ⟨⟨i, k, hi, hb.grow hg⟩, h2.grow hg, h3, h4, h5⟩
theorem Cur.lt {w : World} {g : Nat} {A : Option Addr} {n c : Nat} {bs : List Int} (h : Cur w g A n c bs) : g < w.heap.size := by
  obtain ⟨⟨i, k, hi, hb⟩, _⟩ := h
  exact hb.lt
theorem Cur.next {w w' : World} {g : Nat} {A : Option Addr} {n c : Nat} {bs : List Int} {i : Nat} {h : Int} (hi : i ≤ n) (hb : Blk w' g 138 #[.slice A n c, .int .i64 i, .int .i64 h])
    (hby : Rd w 1 A n (bs.map (Value.int .u8))) (hr : ∀ b ∈ bs, 0 ≤ b ∧ b ≤ 255) (ho : 0 < n → Off A (some g)) (hs : n ≤ 1048576) (hg : w.grownBy w' (some g)) : Cur w' g A n c bs :=
  ⟨⟨i, h, hi, hb⟩, hby.grown' hg ho, hr, ho, hs⟩
structure BytesIn (w : World) (A : Option Addr) (n : Nat) (bs : List Int) : Prop where
  bytes : Rd w 1 A n (bs.map (Value.int .u8))
  rng : ∀ b ∈ bs, 0 ≤ b ∧ b ≤ 255
  small : n ≤ 1048576
theorem BytesIn.grow {w w' : World} {A : Option Addr} {n : Nat} {bs : List Int} (h : BytesIn w A n bs) (hg : w.grownBy w' none) : BytesIn w' A n bs := ⟨h.bytes.grow hg, h.rng, h.small⟩
theorem BytesIn.off {w : World} {A : Option Addr} {n : Nat} {bs : List Int} (h : BytesIn w A n bs) {r : Option Nat} (hg : ∀ g, r = some g → w.heap.size ≤ g) : 0 < n → Off A r := fun hn a ha e => by
  obtain ⟨b, o, rfl, hb, _⟩ := h.bytes.2 hn
  injection ha with ha
  subst ha
  have := hg b e.symm
  omega
def Places (qs : List Int) : Prop := qs.length = 12 ∧ ∀ q ∈ qs, 0 ≤ q ∧ q < 10000
end Go.Proofs.Ythaadgdeadbhkaa
/-
  A draw out of a list.
-/
namespace Go.Proofs.Ythaadgdeadbhkaa
open Go.RowKit
set_option linter.unusedVariables false
set_option linter.unusedSimpArgs false
end Go.Proofs.Ythaadgdeadbhkaa
/-
  FnSubsets' walk.
-/
namespace Go.Proofs.Ythaadgdeadbhkaa
open Go.RowKit
set_option linter.unusedVariables false
set_option linter.unusedSimpArgs false
theorem Places.at_ {qs : List Int} (h : Places qs) (k : Nat) (hk : k < 12) : 0 ≤ qs.getD k 0 ∧ qs.getD k 0 < 10000 := by
  obtain ⟨hl, hq⟩ := h
  rw [getI qs k (by omega)]
  exact hq _ (List.getElem_mem _)
end Go.Proofs.Ythaadgdeadbhkaa
/-
  A drawn prime; FnConverted's walk.
-/
namespace Go.Proofs.Ythaadgdeadbhkaa
open Go.RowKit
set_option linter.unusedVariables false
set_option linter.unusedSimpArgs false
def nine : List Int := [2, 3, 5, 7, 11, 13, 31, 97, 101]
end Go.Proofs.Ythaadgdeadbhkaa
/-
  FnXorField's walk.
-/
namespace Go.Proofs.Ythaadgdeadbhkaa
open Go.RowKit
set_option linter.unusedVariables false
set_option linter.unusedSimpArgs false
theorem take_snoc' (zs : List Int) (k : Nat) (h : k < zs.length) : zs.take (k + 1) = zs.take k ++ [zs.getD k 0] := by
  rw [List.take_succ_eq_append_getElem h, getI zs k h]
end Go.Proofs.Ythaadgdeadbhkaa
