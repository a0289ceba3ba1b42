/-
  The circuits for words of constants, in plain numbers: sums, differences and products, for all words.
-/
import Derived.Test.YthdfkiaoahpjpaaMgFnArithmetic41
import Derived.Test.YthdfkiaoahpjpaaMgFnArithmetic42
import Derived.Test.YthdfkiaoahpjpaaMgFnArithmetic43
namespace Go.Proofs.Ythdfkiaoahpjpaa
open Go.RowKit
set_option linter.unusedVariables false
set_option linter.unusedSimpArgs false
def cS (a b : Nat) : List Int × CM := sumM (cB a b).2 (cA a).1 (cB a b).1 0 0
def cD (a b : Nat) : List Int × CM := subM (cB a b).2 (cA a).1 (cB a b).1
def cP (a b : Nat) : List Int × CM := mulTo (cB a b).2 (cA a).1 (cB a b).1 3
def fin (p : List Int × CM) : CM := ⟨p.2.gt, p.1⟩
def finB (p : List Int × CM) (want : Int) (few : Nat) : Bool :=
  okS (fin p) && nIn (fin p).gt && p.1.length == 4 && decide (numTo (p.1.map (dg (runN (fin p).gt 0 0))) 4 = want) && decide (gts (fin p).gt 4 (fin p).gt.length ≤ few)
def artB (a b : Nat) : Bool :=
  okS (cA a).2 && okS (cB a b).2 && wdS (cB a b).2 (cA a).1 && wdS (cB a b).2 (cB a b).1 && finB (cS a b) (((a + b) % 16 : Nat) : Int) 3 && finB (cD a b) (((a + 16 - b) % 16 : Nat) : Int) 3 && finB (cP a b) ((a * b % 16 : Nat) : Int) 16
theorem art_0 : ((List.range 16).all fun b => artB 0 b) = true := by decide +kernel
theorem art_1 : ((List.range 16).all fun b => artB 1 b) = true := by decide +kernel
theorem art_2 : ((List.range 16).all fun b => artB 2 b) = true := by decide +kernel
theorem art_3 : ((List.range 16).all fun b => artB 3 b) = true := by decide +kernel
theorem art_4 : ((List.range 16).all fun b => artB 4 b) = true := by decide +kernel
theorem art_5 : ((List.range 16).all fun b => artB 5 b) = true := by decide +kernel
theorem art_6 : ((List.range 16).all fun b => artB 6 b) = true := by decide +kernel
theorem art_7 : ((List.range 16).all fun b => artB 7 b) = true := by decide +kernel
theorem art_8 : ((List.range 16).all fun b => artB 8 b) = true := by decide +kernel
theorem art_9 : ((List.range 16).all fun b => artB 9 b) = true := by decide +kernel
theorem art_10 : ((List.range 16).all fun b => artB 10 b) = true := by decide +kernel
theorem art_11 : ((List.range 16).all fun b => artB 11 b) = true := by decide +kernel
theorem art_12 : ((List.range 16).all fun b => artB 12 b) = true := by decide +kernel
theorem art_13 : ((List.range 16).all fun b => artB 13 b) = true := by decide +kernel
theorem art_14 : ((List.range 16).all fun b => artB 14 b) = true := by decide +kernel
theorem art_15 : ((List.range 16).all fun b => artB 15 b) = true := by decide +kernel
theorem art_all {a b : Nat} (ha : a < 16) (hb : b < 16) : artB a b = true := by
  have hm : b ∈ List.range 16 := List.mem_range.2 hb
  rcases (by omega : a = 0 ∨ a = 1 ∨ a = 2 ∨ a = 3 ∨ a = 4 ∨ a = 5 ∨ a = 6 ∨ a = 7 ∨ a = 8 ∨ a = 9 ∨ a = 10 ∨ a = 11 ∨ a = 12 ∨ a = 13 ∨ a = 14 ∨ a = 15) with rfl | rfl | rfl | rfl | rfl | rfl | rfl | rfl | rfl | rfl | rfl | rfl | rfl | rfl | rfl | rfl
  · exact List.all_eq_true.1 art_0 b hm
  · exact List.all_eq_true.1 art_1 b hm
  · exact List.all_eq_true.1 art_2 b hm
  · exact List.all_eq_true.1 art_3 b hm
  · exact List.all_eq_true.1 art_4 b hm
  · exact List.all_eq_true.1 art_5 b hm
  · exact List.all_eq_true.1 art_6 b hm
  · exact List.all_eq_true.1 art_7 b hm
  · exact List.all_eq_true.1 art_8 b hm
  · exact List.all_eq_true.1 art_9 b hm
  · exact List.all_eq_true.1 art_10 b hm
  · exact List.all_eq_true.1 art_11 b hm
  · exact List.all_eq_true.1 art_12 b hm
  · exact List.all_eq_true.1 art_13 b hm
  · exact List.all_eq_true.1 art_14 b hm
  · exact List.all_eq_true.1 art_15 b hm
structure FinF (p : List Int × CM) (want : Int) (few : Nat) : Prop where
  ok : WAsk (fin p)
  l4 : p.1.length = 4
  cnt : gts (fin p).gt 4 (fin p).gt.length ≤ few
  out : ∀ bs : List Int, (∀ x ∈ bs, bitI x) → bitsB (outsTo (fin p) bs (fin p).outs.length) = true ∧ numTo (outsTo (fin p) bs (fin p).outs.length) 4 = want
theorem fin_is {p : List Int × CM} {want : Int} {few : Nat} (h : finB p want few = true) : FinF p want few := by
  unfold finB at h
  simp only [Bool.and_eq_true, decide_eq_true_eq, beq_iff_eq] at h
  obtain ⟨⟨⟨⟨h1, h2⟩, h3⟩, h4⟩, h5⟩ := h
  refine ⟨okS_is h1, h3, h5, fun bs hbs => ?_⟩
  have ho := out_run hbs (okS_is h1).ok (nIn_is h2)
  rw [ho]
  refine ⟨?_, h4⟩
  unfold bitsB
  simp only [List.all_eq_true, List.mem_map, Bool.and_eq_true, decide_eq_true_eq]
  rintro x ⟨y, _, rfl⟩
  exact dg_bit _ _
structure ArtF (a b : Nat) : Prop where
  okA : WAsk (cA a).2
  okB : WAsk (cB a b).2
  x1 : wordB (cB a b).2 (cA a).1
  y1 : wordB (cB a b).2 (cB a b).1
  s : FinF (cS a b) (((a + b) % 16 : Nat) : Int) 3
  d : FinF (cD a b) (((a + 16 - b) % 16 : Nat) : Int) 3
  p : FinF (cP a b) ((a * b % 16 : Nat) : Int) 16
theorem art_is {a b : Nat} (ha : a < 16) (hb : b < 16) : ArtF a b := by
  have h := art_all ha hb
  unfold artB at h
  simp only [Bool.and_eq_true] at h
  obtain ⟨⟨⟨⟨⟨⟨h1, h2⟩, h3⟩, h4⟩, h5⟩, h6⟩, h7⟩ := h
  exact ⟨okS_is h1, okS_is h2, wdS_is h3, wdS_is h4, fin_is h5, fin_is h6, fin_is h7⟩
theorem dif_all : ((List.range 16).all fun a => (List.range 16).all fun b => decide (bits .and .i64 ((a : Int) - (b : Int)) 15 = (((a + 16 - b) % 16 : Nat) : Int))) = true := by decide +kernel
theorem dif_is {a b : Nat} (ha : a < 16) (hb : b < 16) : bits .and .i64 ((a : Int) - (b : Int)) 15 = (((a + 16 - b) % 16 : Nat) : Int) := by
  have := List.all_eq_true.1 (List.all_eq_true.1 dif_all a (List.mem_range.2 ha)) b (List.mem_range.2 hb)
  simpa using this
end Go.Proofs.Ythdfkiaoahpjpaa
