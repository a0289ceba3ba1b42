/-
  The circuit of constants of FnConstantCircuits, in plain numbers.
-/
import Derived.Test.YthdfkiaoahpjpaaMgFnConstantCircuits38
namespace Go.Proofs.Ythdfkiaoahpjpaa
open Go.RowKit
set_option linter.unusedVariables false
set_option linter.unusedSimpArgs false
def kMul (a b : Nat) : List Int × CM := mulS (cB a b).2 (cA a).1 (cB a b).1 3
def kAdd (a b : Nat) : List Int × CM := sumS (kMul a b).2 (kMul a b).1 (cA a).1 0 3
def kFin (a b : Nat) : CM := ⟨(kAdd a b).2.gt, (kAdd a b).1⟩
def conB (a b : Nat) : Bool :=
  okS (cA a).2 && okS (cB a b).2 && wdS (cB a b).2 (cA a).1 && wdS (cB a b).2 (cB a b).1 && okS (kMul a b).2 && wdS (kMul a b).2 (kMul a b).1 && wdS (kMul a b).2 (cA a).1 &&
    okS (kFin a b) && nIn (kFin a b).gt && (kFin a b).outs.length == 4 && decide (numTo ((kFin a b).outs.map (dg (runN (kFin a b).gt 0 0))) 4 = (((a * b + a) % 16 : Nat) : Int))
theorem con_0 : ((List.range 16).all fun b => conB 0 b) = true := by decide +kernel
theorem con_1 : ((List.range 16).all fun b => conB 1 b) = true := by decide +kernel
theorem con_2 : ((List.range 16).all fun b => conB 2 b) = true := by decide +kernel
theorem con_3 : ((List.range 16).all fun b => conB 3 b) = true := by decide +kernel
theorem con_4 : ((List.range 16).all fun b => conB 4 b) = true := by decide +kernel
theorem con_5 : ((List.range 16).all fun b => conB 5 b) = true := by decide +kernel
theorem con_6 : ((List.range 16).all fun b => conB 6 b) = true := by decide +kernel
theorem con_7 : ((List.range 16).all fun b => conB 7 b) = true := by decide +kernel
theorem con_8 : ((List.range 16).all fun b => conB 8 b) = true := by decide +kernel
theorem con_9 : ((List.range 16).all fun b => conB 9 b) = true := by decide +kernel
theorem con_10 : ((List.range 16).all fun b => conB 10 b) = true := by decide +kernel
theorem con_11 : ((List.range 16).all fun b => conB 11 b) = true := by decide +kernel
theorem con_12 : ((List.range 16).all fun b => conB 12 b) = true := by decide +kernel
theorem con_13 : ((List.range 16).all fun b => conB 13 b) = true := by decide +kernel
theorem con_14 : ((List.range 16).all fun b => conB 14 b) = true := by decide +kernel
theorem con_15 : ((List.range 16).all fun b => conB 15 b) = true := by decide +kernel
theorem con_all {a b : Nat} (ha : a < 16) (hb : b < 16) : conB a b = true := by
  have hm : b ∈ List.range 16 := List.mem_range.2 hb
  rcases (by omega : a = 0 ∨ a = 1 ∨ a = 2 ∨ a = 3 ∨ a = 4 ∨ a = 5 ∨ a = 6 ∨ a = 7 ∨ a = 8 ∨ a = 9 ∨ a = 10 ∨ a = 11 ∨ a = 12 ∨ a = 13 ∨ a = 14 ∨ a = 15) with rfl | rfl | rfl | rfl | rfl | rfl | rfl | rfl | rfl | rfl | rfl | rfl | rfl | rfl | rfl | rfl
  · exact List.all_eq_true.1 con_0 b hm
  · exact List.all_eq_true.1 con_1 b hm
  · exact List.all_eq_true.1 con_2 b hm
  · exact List.all_eq_true.1 con_3 b hm
  · exact List.all_eq_true.1 con_4 b hm
  · exact List.all_eq_true.1 con_5 b hm
  · exact List.all_eq_true.1 con_6 b hm
  · exact List.all_eq_true.1 con_7 b hm
  · exact List.all_eq_true.1 con_8 b hm
  · exact List.all_eq_true.1 con_9 b hm
  · exact List.all_eq_true.1 con_10 b hm
  · exact List.all_eq_true.1 con_11 b hm
  · exact List.all_eq_true.1 con_12 b hm
  · exact List.all_eq_true.1 con_13 b hm
  · exact List.all_eq_true.1 con_14 b hm
  · exact List.all_eq_true.1 con_15 b hm
structure ConF (a b : Nat) : Prop where
  okA : WAsk (cA a).2
  okB : WAsk (cB a b).2
  x1 : wordB (cB a b).2 (cA a).1
  y1 : wordB (cB a b).2 (cB a b).1
  okP : WAsk (kMul a b).2
  z1 : wordB (kMul a b).2 (kMul a b).1
  x2 : wordB (kMul a b).2 (cA a).1
  okF : WAsk (kFin a b)
  no : noIn (kFin a b).gt
  l4 : (kFin a b).outs.length = 4
  out : ∀ bs : List Int, (∀ x ∈ bs, bitI x) → bitsB (outsTo (kFin a b) bs (kFin a b).outs.length) = true ∧ numTo (outsTo (kFin a b) bs (kFin a b).outs.length) 4 = (((a * b + a) % 16 : Nat) : Int)
theorem con_is {a b : Nat} (ha : a < 16) (hb : b < 16) : ConF a b := by
  have h := con_all ha hb
  unfold conB at h
  simp only [Bool.and_eq_true, decide_eq_true_eq, beq_iff_eq] at h
  obtain ⟨⟨⟨⟨⟨⟨⟨⟨⟨⟨h1, h2⟩, h3⟩, h4⟩, h5⟩, h6⟩, h7⟩, h8⟩, h9⟩, h10⟩, h11⟩ := h
  refine ⟨okS_is h1, okS_is h2, wdS_is h3, wdS_is h4, okS_is h5, wdS_is h6, wdS_is h7, okS_is h8, nIn_is h9, h10, fun bs hbs => ?_⟩
  rw [out_run hbs (okS_is h8).ok (nIn_is h9)]
  refine ⟨?_, h11⟩
  unfold bitsB
  simp only [List.all_eq_true, List.mem_map, Bool.and_eq_true, decide_eq_true_eq]
  rintro x ⟨y, _, rfl⟩
  exact dg_bit _ _
end Go.Proofs.Ythdfkiaoahpjpaa
/-
  PublicOf of the reference.
-/
namespace Go.Proofs.Ythdfkiaoahpjpaa
open Go.RowKit
set_option linter.unusedVariables false
set_option linter.unusedSimpArgs false
end Go.Proofs.Ythdfkiaoahpjpaa
/-
  The laws' helpers on Public, by what it reads as (printed by wip/gen_sk.py).
-/
namespace Go.Proofs.Ythdfkiaoahpjpaa
open Go.RowKit
set_option linter.unusedVariables false
set_option linter.unusedSimpArgs false
structure PbM where
  ts : List Int
  cs : List Int
  ds : List Int
def PbM.sz (m : PbM) : Nat := m.ts.length + m.cs.length + m.ds.length
def PbM.wf (m : PbM) : Prop := (∀ z ∈ m.ts, i64w z) ∧ (∀ z ∈ m.cs, i64w z) ∧ (∀ z ∈ m.ds, i64w z)
end Go.Proofs.Ythdfkiaoahpjpaa
/-
  Lists of Publics: what they read as, one more behind; what CopiesNew makes, in plain numbers.
-/
namespace Go.Proofs.Ythdfkiaoahpjpaa
open Go.RowKit
set_option linter.unusedVariables false
set_option linter.unusedSimpArgs false
section
variable {ops : Array Oper} {rest : List Oper} {o : Oper} {a : Act} {Q : Exit → Act → World → Prop}
end
end Go.Proofs.Ythdfkiaoahpjpaa
/-
  Garble of the program.
-/
namespace Go.Proofs.Ythdfkiaoahpjpaa
open Go.RowKit
set_option linter.unusedVariables false
set_option linter.unusedSimpArgs false
end Go.Proofs.Ythdfkiaoahpjpaa
/-
  Garble of the reference.
-/
namespace Go.Proofs.Ythdfkiaoahpjpaa
open Go.RowKit
set_option linter.unusedVariables false
set_option linter.unusedSimpArgs false
end Go.Proofs.Ythdfkiaoahpjpaa
/-
  CopiesNew of the program: the answer for all arguments.
-/
namespace Go.Proofs.Ythdfkiaoahpjpaa
open Go.RowKit
set_option linter.unusedVariables false
set_option linter.unusedSimpArgs false
end Go.Proofs.Ythdfkiaoahpjpaa
/-
  l32One, l32Ask of the reference.
-/
namespace Go.Proofs.Ythdfkiaoahpjpaa
open Go.RowKit
set_option linter.unusedVariables false
set_option linter.unusedSimpArgs false
end Go.Proofs.Ythdfkiaoahpjpaa
/-
  CopiesNew of the reference: the answer for all arguments.
-/
namespace Go.Proofs.Ythdfkiaoahpjpaa
open Go.RowKit
set_option linter.unusedVariables false
set_option linter.unusedSimpArgs false
end Go.Proofs.Ythdfkiaoahpjpaa
/-
  samePublic and its like; which copy is found, in plain numbers.
-/
namespace Go.Proofs.Ythdfkiaoahpjpaa
open Go.RowKit
set_option linter.unusedVariables false
set_option linter.unusedSimpArgs false
end Go.Proofs.Ythdfkiaoahpjpaa
/-
  CheckCopies of the program: the answer for all arguments.
-/
namespace Go.Proofs.Ythdfkiaoahpjpaa
open Go.RowKit
set_option linter.unusedVariables false
set_option linter.unusedSimpArgs false
theorem cbools_rd {w : World} {xs : List Bool} {v : Value} (h : (cbools xs).rd w v) : ∃ A c, v = .slice A xs.length c ∧ xs.length ≤ c ∧ c ≤ maxLen ∧ Bools w A xs.length xs := by
  obtain ⟨A, c, h1, h2, h3, h4⟩ := plst_rd (s := 1) (fun _ => rfl) (by omega) h
  exact ⟨A, c, h1, h2, h3, by have := h4.rd; rw [show xs.flatMap fbC = xs.map Value.bool from flat_one _ xs] at this; exact this⟩
end Go.Proofs.Ythdfkiaoahpjpaa
