/-
  A region that draws its order whose one writer is its last operation, the store of a struct into a block: cells stored one behind the other.
-/
import Derived.Test.YthdfkiaoahpjpaaMgFnArithmetic8
import Derived.Test.YthdfkiaoahpjpaaMgFnArithmetic14
import Derived.IntWalk
namespace Go.Proofs.Ythdfkiaoahpjpaa
open Go.RowKit
set_option linter.unusedVariables false
set_option linter.unusedSimpArgs false
def setCells (w : World) (g : Nat) : Nat → List Value → World
  | _, [] => w
  | i, u :: us => setCells (w.setCell ⟨g, i, none⟩ u) g (i + 1) us
theorem blk_setCells' {g : Nat} {T : TypeId} : ∀ (us pre post : List Value) (w : World), Blk w g T (pre ++ post).toArray → post.length = us.length → Blk (setCells w g pre.length us) g T (pre ++ us).toArray
  | [], pre, post, w, h, hl => by
    have : post = [] := List.eq_nil_of_length_eq_zero hl
    subst this
    exact h
  | u :: us, pre, post, w, h, hl => by
    cases post with
    | nil => simp at hl
    | cons p post =>
      have h1 := h.set_ pre.length u
      have e : (pre ++ p :: post).toArray.setIfInBounds pre.length u = ((pre ++ [u]) ++ post).toArray := by
        apply Array.toList_inj.1
        simp
      rw [e] at h1
      have h2 := blk_setCells' us (pre ++ [u]) post _ h1 (by simpa using hl)
      simpa [setCells] using h2
theorem blk_setCells {w : World} {g : Nat} {T : TypeId} {cs : Array Value} (h : Blk w g T cs) (us : List Value) (hl : cs.size = us.length) : Blk (setCells w g 0 us) g T us.toArray := by
  have := blk_setCells' (g := g) (T := T) us [] cs.toList w (by simpa using h) (by simpa using hl)
  simpa using this
theorem chg_setCells (g : Nat) : ∀ (us : List Value) (i : Nat) (w : World), Chg (fun y => y = g) w (setCells w g i us)
  | [], _, w => Chg.refl _ w
  | u :: us, i, w => (chgS w g i u).trans (chg_setCells g us (i + 1) _)
theorem chgF {w w' : World} (h : Chg (fun _ => False) w w') : w.grownBy w' none := ⟨h.os, h.tape, h.output, h.size, fun i hi _ => h.block i hi (by simp)⟩
theorem gb_chg {a w w' : World} {g : Nat} (h : a.grownBy w none) (k : Chg (fun y => y = g) w w') (hg : a.heap.size ≤ g) : a.grownBy w' none := gbChg h k (fun i hi => by have : i = g := hi; omega)
end Go.Proofs.Ythdfkiaoahpjpaa
/-
  Words and tapes: what they compute.
-/
namespace Go.Proofs.Ythdfkiaoahpjpaa
open Go.RowKit
set_option linter.unusedVariables false
set_option linter.unusedSimpArgs false
end Go.Proofs.Ythdfkiaoahpjpaa
/-
  TapeBelow, TapeFork: what they compute.
-/
namespace Go.Proofs.Ythdfkiaoahpjpaa
open Go.RowKit
set_option linter.unusedVariables false
set_option linter.unusedSimpArgs false
end Go.Proofs.Ythdfkiaoahpjpaa
/-
  TapeList: what it computes.
-/
namespace Go.Proofs.Ythdfkiaoahpjpaa
open Go.RowKit
set_option linter.unusedVariables false
set_option linter.unusedSimpArgs false
end Go.Proofs.Ythdfkiaoahpjpaa
/-
  FieldOk and FieldBits: reference and program.
-/
namespace Go.Proofs.Ythdfkiaoahpjpaa
open Go.RowKit
set_option linter.unusedVariables false
set_option linter.unusedSimpArgs false
end Go.Proofs.Ythdfkiaoahpjpaa
/-
  Elements of a field: IsElement, l03Both, areElements, l03All, FAdd, FSub.
-/
namespace Go.Proofs.Ythdfkiaoahpjpaa
open Go.RowKit
set_option linter.unusedVariables false
set_option linter.unusedSimpArgs false
def elemB (p a : Int) : Bool := fieldB p && decide (0 ≤ a) && decide (a ≤ p - 1)
def elemsB (p : Int) (zs : List Int) : Bool := fieldB p && zs.all fun a => decide (0 ≤ a) && decide (a ≤ p - 1)
end Go.Proofs.Ythdfkiaoahpjpaa
/-
  XorField, XorAll: reference and program, and their exact laws.
-/
namespace Go.Proofs.Ythdfkiaoahpjpaa
open Go.RowKit
set_option linter.unusedVariables false
set_option linter.unusedSimpArgs false
theorem prod_le {a b m : Int} (ha : 0 ≤ a) (hb : 0 ≤ b) (ha' : a ≤ m) (hb' : b ≤ m) : 0 ≤ a * b ∧ a * b ≤ m * m :=
  ⟨Int.mul_nonneg ha hb, Int.mul_le_mul ha' hb' hb (by omega)⟩
end Go.Proofs.Ythdfkiaoahpjpaa
/-
  XorAll: reference and program, and its exact law.
-/
namespace Go.Proofs.Ythdfkiaoahpjpaa
open Go.RowKit
set_option linter.unusedVariables false
set_option linter.unusedSimpArgs false
end Go.Proofs.Ythdfkiaoahpjpaa
