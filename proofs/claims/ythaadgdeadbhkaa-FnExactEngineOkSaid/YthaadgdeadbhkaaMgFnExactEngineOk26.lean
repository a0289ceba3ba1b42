/-
  append on a row of one's own, once more: the old value reads behind it as it did.
-/
import Derived.Test.YthaadgdeadbhkaaMgFnExactEngineOk12
import Derived.Test.YthaadgdeadbhkaaMgFnExactEngineOk25
import Derived.Test.YthaadgdeadbhkaaMgFnExactEngineOk18
import Derived.Test.YthaadgdeadbhkaaMgFnExactEngineOk8
import Derived.Test.YthaadgdeadbhkaaMgFnExactEngineOk21
namespace Go.Proofs.Ythaadgdeadbhkaa
open Go.RowKit
set_option linter.unusedVariables false
set_option linter.unusedSimpArgs false
section
variable {P : Program}
variable {ops : Array Oper} {rest : List Oper} {o : Oper} {a : Act} {Q : Exit → Act → World → Prop}
end
end Go.Proofs.Ythaadgdeadbhkaa
/-
  EvalArith: reference and program.
-/
namespace Go.Proofs.Ythaadgdeadbhkaa
open Go.RowKit
set_option linter.unusedVariables false
set_option linter.unusedSimpArgs false
def evD (p : Int) (ins l : List Int) (s : Stp) : Int :=
  if s.1 = 1 then ins.getD s.2.1.toNat 0 else if s.1 = 3 then (l.getD s.2.1.toNat 0 + l.getD s.2.2.toNat 0) % p else if s.1 = 4 then (l.getD s.2.1.toNat 0 * l.getD s.2.2.toNat 0) % p else s.2.1
def evS (m : AM) (ins : List Int) : Nat → List Int
  | 0 => []
  | k + 1 => evS m ins k ++ [evD m.p ins (evS m ins k) (stAt m k)]
structure EvOk (m : AM) (ins : List Int) : Prop where
  ok : AOk m
  len : ins.length = 60
  el : elemsB m.p ins = true
open Classical in
noncomputable def evB (m : AM) (ins : List Int) : Bool := decide (EvOk m ins)
theorem evB_no {m : AM} {ins : List Int} (h : ¬ EvOk m ins) : evB m ins = false := by simp [evB, h]
def evOut (m : AM) (ins : List Int) (k : Nat) : List Int := (m.outs.take k).map fun o => (evS m ins m.st.length).getD o.toNat 0
open Classical in
noncomputable def evR (m : AM) (ins : List Int) : List Int := if EvOk m ins then evOut m ins m.outs.length else []
theorem evR_no {m : AM} {ins : List Int} (h : ¬ EvOk m ins) : evR m ins = [] := by simp [evR, h]
def EvJ (m : AM) (ins : List Int) (w : World) (e : Ending) (w' : World) : Prop := ∃ V, e = .returned (.tuple #[V, .bool (evB m ins)]) ∧ w'.ownsRow w.heap.size 3 1 V (evR m ins).length ((evR m ins).map (Value.int .i64)) ∧ w.grownBy w' none
theorem EvJ.no {m : AM} {ins : List Int} {w w' : World} {V : Value} (h : ¬ EvOk m ins) (ho : w'.ownsRow w.heap.size 3 1 V 0 []) (hg : w.grownBy w' none) : EvJ m ins w (.returned (.tuple #[V, .bool false])) w' := ⟨V, by rw [evB_no h], by rw [evR_no h]; exact ho, hg⟩
theorem EvJ.own {m : AM} {ins : List Int} {w w' : World} {e : Ending} (h : EvJ m ins w e w') : ∃ V F, e = .returned (.tuple #[V, .bool (evB m ins)]) ∧ (cints (evR m ins)).own w' F V ∧ (∀ g ∈ F, w.heap.size ≤ g) ∧ w.grownBy w' none := by
  obtain ⟨V, h1, h2, h3⟩ := h
  exact ⟨V, _, h1, cints_own h2, fun g hg => (h2.lt g (by simpa using hg)).1, h3⟩
end Go.Proofs.Ythaadgdeadbhkaa
/-
  EvalArith of the program.
-/
namespace Go.Proofs.Ythaadgdeadbhkaa
open Go.RowKit
set_option linter.unusedVariables false
set_option linter.unusedSimpArgs false
end Go.Proofs.Ythaadgdeadbhkaa
/-
  l29Same, same, ints: comparing and copying lists of numbers.
-/
namespace Go.Proofs.Ythaadgdeadbhkaa
open Go.RowKit
set_option linter.unusedVariables false
set_option linter.unusedSimpArgs false
end Go.Proofs.Ythaadgdeadbhkaa
/-
  AddShares, ScaleShares, AddConstant: reference and program, on elements.
-/
namespace Go.Proofs.Ythaadgdeadbhkaa
open Go.RowKit
set_option linter.unusedVariables false
set_option linter.unusedSimpArgs false
def addS (p : Int) (xs ys : List Int) : List Int := List.zipWith (fun x y => (x + y) % p) xs ys
theorem addS_len {p : Int} {xs ys : List Int} (h : xs.length = ys.length) : (addS p xs ys).length = xs.length := by simp [addS, h]
end Go.Proofs.Ythaadgdeadbhkaa
