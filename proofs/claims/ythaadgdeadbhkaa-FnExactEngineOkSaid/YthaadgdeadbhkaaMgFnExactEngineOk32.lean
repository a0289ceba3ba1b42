/-
  A drawn arithmetic circuit: the struct that is made, and the regions that append to it.
-/
import Derived.Test.YthaadgdeadbhkaaMgFnExactEngineOk22
import Derived.Test.YthaadgdeadbhkaaMgFnExactEngineOk24
import Derived.Test.YthaadgdeadbhkaaMgFnExactEngineOk31
import Derived.Test.YthaadgdeadbhkaaMgFnExactEngineOk10
import Derived.Test.YthaadgdeadbhkaaMgFnExactEngineOk15
import Derived.Test.YthaadgdeadbhkaaMgFnExactEngineOk12
import Derived.Test.YthaadgdeadbhkaaMgFnExactEngineOk26
import Derived.Test.YthaadgdeadbhkaaMgFnExactEngineOk30
namespace Go.Proofs.Ythaadgdeadbhkaa
open Go.RowKit
set_option linter.unusedVariables false
set_option linter.unusedSimpArgs false
structure AS (lo g : Nat) (m : AM) (u1 u2 : Value) (F1 F2 : List Nat) (w : World) : Prop where
  blk : Blk w g 29 #[.int .i64 m.p, u1, u2]
  s : (csteps m.st).own w F1 u1
  o : (cints m.outs).own w F2 u2
  l1 : ∀ y ∈ F1, lo ≤ y ∧ y ≠ g ∧ y ∉ F2
  l2 : ∀ y ∈ F2, lo ≤ y ∧ y ≠ g
  lg : lo ≤ g
def ASE (lo g : Nat) (m : AM) (w : World) : Prop := ∃ u1 u2 F1 F2, AS lo g m u1 u2 F1 F2 w
section
variable {lo g : Nat} {m : AM} {u1 u2 : Value} {F1 F2 : List Nat} {w w' : World}
theorem AS.grow (h : AS lo g m u1 u2 F1 F2 w) (k : w.grownBy w' none) : AS lo g m u1 u2 F1 F2 w' := ⟨h.blk.grow k, own_growK _ h.s k, own_growK _ h.o k, h.l1, h.l2, h.lg⟩
theorem ASE.grow (h : ASE lo g m w) (k : w.grownBy w' none) : ASE lo g m w' := by
  obtain ⟨u1, u2, F1, F2, h⟩ := h
  exact ⟨u1, u2, F1, F2, h.grow k⟩
theorem AS.chg {S : Nat → Prop} (h : AS lo g m u1 u2 F1 F2 w) (k : Chg S w w') (hs : ∀ y, S y → y < lo) : AS lo g m u1 u2 F1 F2 w' :=
  ⟨h.blk.chg k (fun e => by have := hs _ e; have := h.lg; omega), own_chgK _ h.s k (fun y hy e => by have := hs _ e; have := (h.l1 y hy).1; omega), own_chgK _ h.o k (fun y hy e => by have := hs _ e; have := (h.l2 y hy).1; omega), h.l1, h.l2, h.lg⟩
theorem ASE.chg {S : Nat → Prop} (h : ASE lo g m w) (k : Chg S w w') (hs : ∀ y, S y → y < lo) : ASE lo g m w' := by
  obtain ⟨u1, u2, F1, F2, h⟩ := h
  exact ⟨u1, u2, F1, F2, h.chg k hs⟩
theorem AS.steps {S : Nat → Prop} {l : List (Int × Int × Int)} {v : Value} {F : List Nat} (h : AS lo g m u1 u2 F1 F2 w) (k : Chg S w w') (hs : ∀ y, S y → y < lo ∨ y ∈ F1) (hv : (csteps l).own w' F v) (hF : ∀ y ∈ F, y ∈ F1 ∨ w.heap.size ≤ y) :
    AS lo g { m with st := l } v u2 F F2 (w'.setCell ⟨g, 1, none⟩ v) := by
  have hb := (h.blk.chg k (fun e => by
    rcases hs _ e with e | e
    · have := h.lg; omega
    · exact (h.l1 g e).2.1 rfl)).set_ 1 v
  have ho := own_chgK _ h.o k (fun y hy e => by
    rcases hs _ e with e | e
    · have := (h.l2 y hy).1; omega
    · exact (h.l1 y e).2.2 hy)
  have hl : ∀ y ∈ F, lo ≤ y ∧ y ≠ g ∧ y ∉ F2 := fun y hy => by
    rcases hF y hy with e | e
    · exact h.l1 y e
    · exact ⟨by have := h.blk.lt; have := h.lg; omega, fun e' => by have := h.blk.lt; omega, fun e' => by have := CS.lt _ h.o y e'; omega⟩
  exact ⟨by simpa using hb, own_setC _ hv g 1 (fun hx => (hl g hx).2.1 rfl) v, own_setC _ ho g 1 (fun hx => (h.l2 g hx).2 rfl) v, hl, h.l2, h.lg⟩
theorem AS.outs {S : Nat → Prop} {l : List Int} {v : Value} {F : List Nat} (h : AS lo g m u1 u2 F1 F2 w) (k : Chg S w w') (hs : ∀ y, S y → y < lo ∨ y ∈ F2) (hv : (cints l).own w' F v) (hF : ∀ y ∈ F, y ∈ F2 ∨ w.heap.size ≤ y) :
    AS lo g { m with outs := l } u1 v F1 F (w'.setCell ⟨g, 2, none⟩ v) := by
  have hb := (h.blk.chg k (fun e => by
    rcases hs _ e with e | e
    · have := h.lg; omega
    · exact (h.l2 g e).2 rfl)).set_ 2 v
  have ho := own_chgK _ h.s k (fun y hy e => by
    rcases hs _ e with e | e
    · have := (h.l1 y hy).1; omega
    · exact (h.l1 y hy).2.2 e)
  have hl : ∀ y ∈ F, lo ≤ y ∧ y ≠ g ∧ y ∉ F1 := fun y hy => by
    rcases hF y hy with e | e
    · exact ⟨(h.l2 y e).1, (h.l2 y e).2, fun e' => (h.l1 y e').2.2 e⟩
    · exact ⟨by have := h.blk.lt; have := h.lg; omega, fun e' => by have := h.blk.lt; omega, fun e' => by have := CS.lt _ h.s y e'; omega⟩
  exact ⟨by simpa using hb, own_setC _ ho g 2 (fun hx => (h.l1 g hx).2.1 rfl) v, own_setC _ hv g 2 (fun hx => (hl g hx).2.1 rfl) v, fun y hy => ⟨(h.l1 y hy).1, (h.l1 y hy).2.1, fun e => (hl y e).2.2 hy⟩, fun y hy => ⟨(hl y hy).1, (hl y hy).2.1⟩, h.lg⟩
end
end Go.Proofs.Ythaadgdeadbhkaa
/-
  A drawn arithmetic circuit: it is well-formed; its inputs fit.
-/
namespace Go.Proofs.Ythaadgdeadbhkaa
open Go.RowKit
set_option linter.unusedVariables false
set_option linter.unusedSimpArgs false
end Go.Proofs.Ythaadgdeadbhkaa
/-
  copyKeys, copyArith of the program.
-/
namespace Go.Proofs.Ythaadgdeadbhkaa
open Go.RowKit
set_option linter.unusedVariables false
set_option linter.unusedSimpArgs false
end Go.Proofs.Ythaadgdeadbhkaa
/-
  copyArith of the program.
-/
namespace Go.Proofs.Ythaadgdeadbhkaa
open Go.RowKit
set_option linter.unusedVariables false
set_option linter.unusedSimpArgs false
structure amwf (m : AM) : Prop where
  wf : m.wf
  st : m.st.length ≤ 1048576
  outs : m.outs.length ≤ 1048576
end Go.Proofs.Ythaadgdeadbhkaa
