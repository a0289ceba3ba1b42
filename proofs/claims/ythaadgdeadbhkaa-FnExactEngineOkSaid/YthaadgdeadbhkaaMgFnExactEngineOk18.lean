/-
  XorField, XorAll: reference and program, and their exact laws.
-/
import Derived.Test.YthaadgdeadbhkaaMgFnExactEngineOk17
import Derived.IntWalk
import Derived.Test.YthaadgdeadbhkaaMgFnExactEngineOk2
import Derived.Test.YthaadgdeadbhkaaMgFnExactEngineOk3
import Derived.Deep.DeepCutAuto
import Derived.Test.YthaadgdeadbhkaaMgFnExactEngineOk15
namespace Go.Proofs.Ythaadgdeadbhkaa
open Go.RowKit
set_option linter.unusedVariables false
set_option linter.unusedSimpArgs false
end Go.Proofs.Ythaadgdeadbhkaa
/-
  XorAll: reference and program, and its exact law.
-/
namespace Go.Proofs.Ythaadgdeadbhkaa
open Go.RowKit
set_option linter.unusedVariables false
set_option linter.unusedSimpArgs false
end Go.Proofs.Ythaadgdeadbhkaa
/-
  DotBits and NumberOf: reference and program, and their exact laws.
-/
namespace Go.Proofs.Ythaadgdeadbhkaa
open Go.RowKit
set_option linter.unusedVariables false
set_option linter.unusedSimpArgs false
end Go.Proofs.Ythaadgdeadbhkaa
/-
  BitsOf, ChosenBy, FieldOk, FieldBits: reference and program, and the laws that hold them together.
-/
namespace Go.Proofs.Ythaadgdeadbhkaa
open Go.RowKit
set_option linter.unusedVariables false
set_option linter.unusedSimpArgs false
end Go.Proofs.Ythaadgdeadbhkaa
/-
  The draws: a cursor over bytes. What is drawn lies in its range; nothing else is said of it.
-/
namespace Go.Proofs.Ythaadgdeadbhkaa
open Go.RowKit
set_option linter.unusedVariables false
set_option linter.unusedSimpArgs false
structure Cur (w : World) (g : Nat) (A : Option Addr) (n c : Nat) (bs : List Int) : Prop where
  blk : ∃ (i : Nat) (h : Int), i ≤ n ∧ Blk w g 138 #[.slice A n c, .int .i64 i, .int .i64 h]
  bytes : Rd w 1 A n (bs.map (Value.int .u8))
  rng : ∀ b ∈ bs, 0 ≤ b ∧ b ≤ 255
  off : 0 < n → Off A (some g)
  small : n ≤ 1048576
theorem Cur.grow {w w' : World} {g : Nat} {A : Option Addr} {n c : Nat} {bs : List Int} (h : Cur w g A n c bs) (hg : w.grownBy w' none) : Cur w' g A n c bs := by
  obtain ⟨⟨i, k, hi, hb⟩, h2, h3, h4, h5⟩ := h
  exact ⟨⟨i, k, hi, hb.grow hg⟩, h2.grow hg, h3, h4, h5⟩
theorem Cur.lt {w : World} {g : Nat} {A : Option Addr} {n c : Nat} {bs : List Int} (h : Cur w g A n c bs) : g < w.heap.size := by
  obtain ⟨⟨i, k, hi, hb⟩, _⟩ := h
  exact hb.lt
structure BytesIn (w : World) (A : Option Addr) (n : Nat) (bs : List Int) : Prop where
  bytes : Rd w 1 A n (bs.map (Value.int .u8))
  rng : ∀ b ∈ bs, 0 ≤ b ∧ b ≤ 255
  small : n ≤ 1048576
theorem BytesIn.grow {w w' : World} {A : Option Addr} {n : Nat} {bs : List Int} (h : BytesIn w A n bs) (hg : w.grownBy w' none) : BytesIn w' A n bs := ⟨h.bytes.grow hg, h.rng, h.small⟩
theorem BytesIn.off {w : World} {A : Option Addr} {n : Nat} {bs : List Int} (h : BytesIn w A n bs) {r : Option Nat} (hg : ∀ g, r = some g → w.heap.size ≤ g) : 0 < n → Off A r := fun hn a ha e => by
  obtain ⟨b, o, rfl, hb, _⟩ := h.bytes.2 hn
  injection ha with ha
  subst ha
  have := hg b e.symm
  omega
def Places (qs : List Int) : Prop := qs.length = 12 ∧ ∀ q ∈ qs, 0 ≤ q ∧ q < 10000
end Go.Proofs.Ythaadgdeadbhkaa
/-
  A draw out of a list.
-/
namespace Go.Proofs.Ythaadgdeadbhkaa
open Go.RowKit
set_option linter.unusedVariables false
set_option linter.unusedSimpArgs false
end Go.Proofs.Ythaadgdeadbhkaa
/-
  FnSubsets' walk.
-/
namespace Go.Proofs.Ythaadgdeadbhkaa
open Go.RowKit
set_option linter.unusedVariables false
set_option linter.unusedSimpArgs false
theorem Places.at_ {qs : List Int} (h : Places qs) (k : Nat) (hk : k < 12) : 0 ≤ qs.getD k 0 ∧ qs.getD k 0 < 10000 := by
  obtain ⟨hl, hq⟩ := h
  rw [getI qs k (by omega)]
  exact hq _ (List.getElem_mem _)
end Go.Proofs.Ythaadgdeadbhkaa
/-
  A drawn prime; FnConverted's walk.
-/
namespace Go.Proofs.Ythaadgdeadbhkaa
open Go.RowKit
set_option linter.unusedVariables false
set_option linter.unusedSimpArgs false
def nine : List Int := [2, 3, 5, 7, 11, 13, 31, 97, 101]
end Go.Proofs.Ythaadgdeadbhkaa
/-
  FnXorField's walk.
-/
namespace Go.Proofs.Ythaadgdeadbhkaa
open Go.RowKit
set_option linter.unusedVariables false
set_option linter.unusedSimpArgs false
end Go.Proofs.Ythaadgdeadbhkaa
/-
  FAdd, FSub, FMul, FSum: reference and program, on elements.
-/
namespace Go.Proofs.Ythaadgdeadbhkaa
open Go.RowKit
set_option linter.unusedVariables false
set_option linter.unusedSimpArgs false
def fsum (p : Int) (l : List Int) : Int := l.sum % p
theorem fsum_rng {p : Int} (hp : 2 ≤ p) (l : List Int) : 0 ≤ fsum p l ∧ fsum p l < p := ⟨Int.emod_nonneg _ (by omega), Int.emod_lt_of_pos _ (by omega)⟩
theorem femod_elem {p : Int} (hf : fieldB p = true) (x : Int) : elemB p (x % p) = true := by
  obtain ⟨h1, h2⟩ := field_range hf
  exact elemB_mk hf (Int.emod_nonneg _ (by omega)) (Int.emod_lt_of_pos _ (by omega))
end Go.Proofs.Ythaadgdeadbhkaa
/-
  Shares of an element: 'append(list, FSub(p, x, FSum(p, list))), next' and who calls it.
-/
namespace Go.Proofs.Ythaadgdeadbhkaa
open Go.RowKit
set_option linter.unusedVariables false
set_option linter.unusedSimpArgs false
def shareL (p x : Int) (L : List Int) : List Int := L ++ [(x - fsum p L) % p]
theorem shareL_len (p x : Int) (L : List Int) : (shareL p x L).length = L.length + 1 := by simp [shareL]
theorem shareL_elems {p x : Int} {L : List Int} (h : elemsB p L = true) : elemsB p (shareL p x L) = true := by
  obtain ⟨hf, p2, p101, hz⟩ := elemsB_is h
  refine elemsB_mk hf fun a ha => ?_
  rcases List.mem_append.1 ha with ha | ha
  · exact hz a ha
  · have : a = (x - fsum p L) % p := by simpa using ha
    subst this
    exact ⟨Int.emod_nonneg _ (by omega), Int.emod_lt_of_pos _ (by omega)⟩
theorem shareL_sum {p x : Int} {L : List Int} (h0 : 0 ≤ x) (h1 : x < p) : fsum p (shareL p x L) = x := by
  unfold fsum shareL
  rw [List.sum_append]
  simp only [List.sum_cons, List.sum_nil, Int.add_zero]
  rw [Int.add_emod_emod, show fsum p L = L.sum % p from rfl, ← Int.add_sub_assoc, Int.sub_emod_emod, show L.sum + x - L.sum = x by omega]
  exact Int.emod_eq_of_lt h0 h1
theorem elems_tape {P s a k : Nat} (hf : fieldB (P : Int) = true) (h0 : 0 < P) : elemsB (P : Int) (tapeL s a P k) = true := elemsB_mk hf fun z hz => tapeL_rng h0 z hz
end Go.Proofs.Ythaadgdeadbhkaa
