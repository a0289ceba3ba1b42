/-
  TapeList: what it computes.
-/
import Derived.Test.YthdfkiaoahpjpaaMgFnExactCheckCopies13
import Derived.IntWalk
import Derived.Deep.DeepCutAuto
namespace Go.Proofs.Ythdfkiaoahpjpaa
open Go.RowKit
set_option linter.unusedVariables false
set_option linter.unusedSimpArgs false
end Go.Proofs.Ythdfkiaoahpjpaa
/-
  FieldOk and FieldBits: reference and program.
-/
namespace Go.Proofs.Ythdfkiaoahpjpaa
open Go.RowKit
set_option linter.unusedVariables false
set_option linter.unusedSimpArgs false
end Go.Proofs.Ythdfkiaoahpjpaa
/-
  Elements of a field: IsElement, l03Both, areElements, l03All, FAdd, FSub.
-/
namespace Go.Proofs.Ythdfkiaoahpjpaa
open Go.RowKit
set_option linter.unusedVariables false
set_option linter.unusedSimpArgs false
def elemB (p a : Int) : Bool := fieldB p && decide (0 ≤ a) && decide (a ≤ p - 1)
def elemsB (p : Int) (zs : List Int) : Bool := fieldB p && zs.all fun a => decide (0 ≤ a) && decide (a ≤ p - 1)
end Go.Proofs.Ythdfkiaoahpjpaa
/-
  XorField, XorAll: reference and program, and their exact laws.
-/
namespace Go.Proofs.Ythdfkiaoahpjpaa
open Go.RowKit
set_option linter.unusedVariables false
set_option linter.unusedSimpArgs false
end Go.Proofs.Ythdfkiaoahpjpaa
/-
  XorAll: reference and program, and its exact law.
-/
namespace Go.Proofs.Ythdfkiaoahpjpaa
open Go.RowKit
set_option linter.unusedVariables false
set_option linter.unusedSimpArgs false
end Go.Proofs.Ythdfkiaoahpjpaa
/-
  DotBits and NumberOf: reference and program, and their exact laws.
-/
namespace Go.Proofs.Ythdfkiaoahpjpaa
open Go.RowKit
set_option linter.unusedVariables false
set_option linter.unusedSimpArgs false
end Go.Proofs.Ythdfkiaoahpjpaa
/-
  BitsOf, ChosenBy, FieldOk, FieldBits: reference and program, and the laws that hold them together.
-/
namespace Go.Proofs.Ythdfkiaoahpjpaa
open Go.RowKit
set_option linter.unusedVariables false
set_option linter.unusedSimpArgs false
end Go.Proofs.Ythdfkiaoahpjpaa
/-
  The draws: a cursor over bytes. What is drawn lies in its range; nothing else is said of it.
-/
namespace Go.Proofs.Ythdfkiaoahpjpaa
open Go.RowKit
set_option linter.unusedVariables false
set_option linter.unusedSimpArgs false
theorem Rd.grown' {w w' : World} {sz n : Nat} {A : Option Addr} {xs : List Value} {r : Option Nat} (h : Rd w sz A n xs) (hg : w.grownBy w' r) (hr : 0 < n → Off A r) : Rd w' sz A n xs := by
  rcases Nat.eq_zero_or_pos n with h0 | h0
  · exact ⟨h.1, fun hn => by omega⟩
  · exact h.grown hg (hr h0)
structure Cur (w : World) (g : Nat) (A : Option Addr) (n c : Nat) (bs : List Int) : Prop where
  blk : ∃ (i : Nat) (h : Int), i ≤ n ∧ Blk w g 115 #[.slice A n c, .int .i64 i, .int .i64 h]
  bytes : Rd w 1 A n (bs.map (Value.int .u8))
  rng : ∀ b ∈ bs, 0 ≤ b ∧ b ≤ 255
  off : 0 < n → Off A (some g)
  small : n ≤ 1048576
theorem Cur.grow {w w' : World} {g : Nat} {A : Option Addr} {n c : Nat} {bs : List Int} (h : Cur w g A n c bs) (hg : w.grownBy w' none) : Cur w' g A n c bs := by
  obtain ⟨⟨i, k, hi, hb⟩, h2, h3, h4, h5⟩ := h
  exact ⟨⟨i, k, hi, hb.grow hg⟩, h2.grow hg, h3, h4, h5⟩
theorem Cur.lt {w : World} {g : Nat} {A : Option Addr} {n c : Nat} {bs : List Int} (h : Cur w g A n c bs) : g < w.heap.size := by
  obtain ⟨⟨i, k, hi, hb⟩, _⟩ := h
  exact hb.lt
theorem Cur.next {w w' : World} {g : Nat} {A : Option Addr} {n c : Nat} {bs : List Int} {i : Nat} {h : Int} (hi : i ≤ n) (hb : Blk w' g 115 #[.slice A n c, .int .i64 i, .int .i64 h])
    (hby : Rd w 1 A n (bs.map (Value.int .u8))) (hr : ∀ b ∈ bs, 0 ≤ b ∧ b ≤ 255) (ho : 0 < n → Off A (some g)) (hs : n ≤ 1048576) (hg : w.grownBy w' (some g)) : Cur w' g A n c bs :=
  ⟨⟨i, h, hi, hb⟩, hby.grown' hg ho, hr, ho, hs⟩
structure BytesIn (w : World) (A : Option Addr) (n : Nat) (bs : List Int) : Prop where
  bytes : Rd w 1 A n (bs.map (Value.int .u8))
  rng : ∀ b ∈ bs, 0 ≤ b ∧ b ≤ 255
  small : n ≤ 1048576
theorem BytesIn.grow {w w' : World} {A : Option Addr} {n : Nat} {bs : List Int} (h : BytesIn w A n bs) (hg : w.grownBy w' none) : BytesIn w' A n bs := ⟨h.bytes.grow hg, h.rng, h.small⟩
theorem BytesIn.off {w : World} {A : Option Addr} {n : Nat} {bs : List Int} (h : BytesIn w A n bs) {r : Option Nat} (hg : ∀ g, r = some g → w.heap.size ≤ g) : 0 < n → Off A r := fun hn a ha e => by
  obtain ⟨b, o, rfl, hb, _⟩ := h.bytes.2 hn
  injection ha with ha
  subst ha
  have := hg b e.symm
  omega
def Places (qs : List Int) : Prop := qs.length = 12 ∧ ∀ q ∈ qs, 0 ≤ q ∧ q < 10000
end Go.Proofs.Ythdfkiaoahpjpaa
/-
  A draw out of a list.
-/
namespace Go.Proofs.Ythdfkiaoahpjpaa
open Go.RowKit
set_option linter.unusedVariables false
set_option linter.unusedSimpArgs false
end Go.Proofs.Ythdfkiaoahpjpaa
/-
  FnSubsets' walk.
-/
namespace Go.Proofs.Ythdfkiaoahpjpaa
open Go.RowKit
set_option linter.unusedVariables false
set_option linter.unusedSimpArgs false
theorem Places.at_ {qs : List Int} (h : Places qs) (k : Nat) (hk : k < 12) : 0 ≤ qs.getD k 0 ∧ qs.getD k 0 < 10000 := by
  obtain ⟨hl, hq⟩ := h
  rw [getI qs k (by omega)]
  exact hq _ (List.getElem_mem _)
end Go.Proofs.Ythdfkiaoahpjpaa
/-
  A drawn prime; FnConverted's walk.
-/
namespace Go.Proofs.Ythdfkiaoahpjpaa
open Go.RowKit
set_option linter.unusedVariables false
set_option linter.unusedSimpArgs false
end Go.Proofs.Ythdfkiaoahpjpaa
/-
  FnXorField's walk.
-/
namespace Go.Proofs.Ythdfkiaoahpjpaa
open Go.RowKit
set_option linter.unusedVariables false
set_option linter.unusedSimpArgs false
end Go.Proofs.Ythdfkiaoahpjpaa
/-
  FAdd, FSub, FMul, FSum: reference and program, on elements.
-/
namespace Go.Proofs.Ythdfkiaoahpjpaa
open Go.RowKit
set_option linter.unusedVariables false
set_option linter.unusedSimpArgs false
end Go.Proofs.Ythdfkiaoahpjpaa
/-
  Shares of an element: 'append(list, FSub(p, x, FSum(p, list))), next' and who calls it.
-/
namespace Go.Proofs.Ythdfkiaoahpjpaa
open Go.RowKit
set_option linter.unusedVariables false
set_option linter.unusedSimpArgs false
theorem specl06Tape_yes (s a : Nat) (w : World) (hs : s < 4294967296) (ha : a ≤ 900000) :
    Calls Try.prog 115 #[.agg #[.int .i64 s, .int .i64 a]] w fun e w' => e = .returned (.bool true) ∧ w.grownBy w' none := by
  have d1 := Lib.hid (tape_yes hs (show a ≤ 1000000 by omega))
  have d2 : decide ((a : Int) ≤ 900000) = true := by simp; omega
  go_enter Try.func115, Try.ntmps115
  go_wp2_with fail
  refine (specTapeOk_c s a _).mono ?_
  rintro e w1 ⟨rfl, g1⟩
  rw [d1.out]
  have B1 := Blk.grow (Blk.new w 65 #[.int .i64 s, .int .i64 a]) g1
  have c0 := B1.cell 0
  have c1 := B1.cell 1
  simp at c0 c1
  have G1 := Lib.hid (gbT (gbA (gbR w none) _) g1)
  clear g1 B1
  go_wp2_with fail
  go_ret
  exact ⟨rfl, G1.out⟩
end Go.Proofs.Ythdfkiaoahpjpaa
