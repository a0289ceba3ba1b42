/-
  EvalArith: reference and program.
-/
import Derived.Test.YthdfkiaoahpjpaaMgFnArithmetic20
import Derived.Test.YthdfkiaoahpjpaaMgFnArithmetic9
namespace Go.Proofs.Ythdfkiaoahpjpaa
open Go.RowKit
set_option linter.unusedVariables false
set_option linter.unusedSimpArgs false
def evD (p : Int) (ins l : List Int) (s : Stp) : Int :=
  if s.1 = 1 then ins.getD s.2.1.toNat 0 else if s.1 = 3 then (l.getD s.2.1.toNat 0 + l.getD s.2.2.toNat 0) % p else if s.1 = 4 then (l.getD s.2.1.toNat 0 * l.getD s.2.2.toNat 0) % p else s.2.1
def evS (m : AM) (ins : List Int) : Nat → List Int
  | 0 => []
  | k + 1 => evS m ins k ++ [evD m.p ins (evS m ins k) (stAt m k)]
structure EvOk (m : AM) (ins : List Int) : Prop where
  ok : AOk m
  len : ins.length = 60
  el : elemsB m.p ins = true
open Classical in
noncomputable def evB (m : AM) (ins : List Int) : Bool := decide (EvOk m ins)
theorem evB_yes {m : AM} {ins : List Int} (h : EvOk m ins) : evB m ins = true := by simp [evB, h]
theorem evB_no {m : AM} {ins : List Int} (h : ¬ EvOk m ins) : evB m ins = false := by simp [evB, h]
def evOut (m : AM) (ins : List Int) (k : Nat) : List Int := (m.outs.take k).map fun o => (evS m ins m.st.length).getD o.toNat 0
theorem evOut_len (m : AM) (ins : List Int) (k : Nat) (h : k ≤ m.outs.length) : (evOut m ins k).length = k := by simp [evOut]; omega
open Classical in
noncomputable def evR (m : AM) (ins : List Int) : List Int := if EvOk m ins then evOut m ins m.outs.length else []
theorem evR_yes {m : AM} {ins : List Int} (h : EvOk m ins) : evR m ins = evOut m ins m.outs.length := by simp [evR, h]
theorem evR_no {m : AM} {ins : List Int} (h : ¬ EvOk m ins) : evR m ins = [] := by simp [evR, h]
def EvJ (m : AM) (ins : List Int) (w : World) (e : Ending) (w' : World) : Prop := ∃ V, e = .returned (.tuple #[V, .bool (evB m ins)]) ∧ w'.ownsRow w.heap.size 3 1 V (evR m ins).length ((evR m ins).map (Value.int .i64)) ∧ w.grownBy w' none
theorem EvJ.no {m : AM} {ins : List Int} {w w' : World} {V : Value} (h : ¬ EvOk m ins) (ho : w'.ownsRow w.heap.size 3 1 V 0 []) (hg : w.grownBy w' none) : EvJ m ins w (.returned (.tuple #[V, .bool false])) w' := ⟨V, by rw [evB_no h], by rw [evR_no h]; exact ho, hg⟩
theorem EvJ.yes {m : AM} {ins : List Int} {w w' : World} {V : Value} (h : EvOk m ins) {q : Nat} (hq : q = m.outs.length) (ho : w'.ownsRow w.heap.size 3 1 V q ((evOut m ins q).map (Value.int .i64))) (hg : w.grownBy w' none) : EvJ m ins w (.returned (.tuple #[V, .bool true])) w' := by
  subst hq
  refine ⟨V, by rw [evB_yes h], ?_, hg⟩
  rw [evR_yes h, evOut_len _ _ _ (Nat.le_refl _)]
  exact ho
theorem EvJ.own {m : AM} {ins : List Int} {w w' : World} {e : Ending} (h : EvJ m ins w e w') : ∃ V F, e = .returned (.tuple #[V, .bool (evB m ins)]) ∧ (cints (evR m ins)).own w' F V ∧ (∀ g ∈ F, w.heap.size ≤ g) ∧ w.grownBy w' none := by
  obtain ⟨V, h1, h2, h3⟩ := h
  exact ⟨V, _, h1, cints_own h2, fun g hg => (h2.lt g (by simpa using hg)).1, h3⟩
end Go.Proofs.Ythdfkiaoahpjpaa
/-
  EvalArith of the program.
-/
namespace Go.Proofs.Ythdfkiaoahpjpaa
open Go.RowKit
set_option linter.unusedVariables false
set_option linter.unusedSimpArgs false
end Go.Proofs.Ythdfkiaoahpjpaa
/-
  l29Same, same, ints: comparing and copying lists of numbers.
-/
namespace Go.Proofs.Ythdfkiaoahpjpaa
open Go.RowKit
set_option linter.unusedVariables false
set_option linter.unusedSimpArgs false
theorem ints_one (zs : List Int) : ∀ u ∈ zs.map (Value.int .i64), u.oneCell' = true := by
  intro u hu
  obtain ⟨z, _, rfl⟩ := List.mem_map.1 hu
  rfl
theorem ints_c (A : Option Addr) (n c : Nat) (zs : List Int) (w : World) (hx : Ints w A n zs) (hn : n ≤ 1099511627776) :
    Calls Try.prog 90 #[.slice A n c] w fun e w' => ∃ v, e = .returned v ∧ w'.ownsRow w.heap.size 3 1 v n (zs.map (Value.int .i64)) ∧ w.grownBy w' none := by
  have hr := World.ownsRow_made (e := 3) (size := 1) w #[] 0 (Nat.le_refl _) (by simp) rfl
  go_enter Try.func90, Try.ntmps90
  go_wp2_with (at_builtin; refine wp_appendS _ el_int rfl (.tmp 3) (.tmp 4) rfl w.heap.size _ 0 [] hr rfl A n c _ rfl (hx.grow (gbA (gbR w none) _)) (ints_one zs) (by unfold maxLen; omega) (by omega) (by simp) ?_; intro v' w1 hown1 hgrow)
  go_ret
  exact ⟨v', rfl, by simpa using hown1, gbN (gbA (gbR w none) _) hgrow fun g e => Nat.le_of_eq (show w.heap.size = g by simpa [Value.ownBlock] using e)⟩
end Go.Proofs.Ythdfkiaoahpjpaa
/-
  AddShares, ScaleShares, AddConstant: reference and program, on elements.
-/
namespace Go.Proofs.Ythdfkiaoahpjpaa
open Go.RowKit
set_option linter.unusedVariables false
set_option linter.unusedSimpArgs false
end Go.Proofs.Ythdfkiaoahpjpaa
