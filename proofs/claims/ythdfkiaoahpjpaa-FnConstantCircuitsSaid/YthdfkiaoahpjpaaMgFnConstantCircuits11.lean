/-
  The laws' helpers on slices of structs of numbers (printed by wip/gen_tab.py).
-/
import Derived.Test.YthdfkiaoahpjpaaMgFnConstantCircuits10
import Derived.StillTailTactics
namespace Go.Proofs.Ythdfkiaoahpjpaa
open Go.RowKit
set_option linter.unusedVariables false
set_option linter.unusedSimpArgs false
theorem c3_one (x : Int × Int × Int) : ∀ u ∈ c3 x, u.oneCell' = true := by simp [c3, Value.oneCell']
theorem elGate : El Try.prog 26 41 (.agg #[.int .i64 0, .int .i64 0, .int .i64 0]) 3 24 := ⟨Try.underlying26, by kernel_rfl, rfl, by decide⟩
end Go.Proofs.Ythdfkiaoahpjpaa
/-
  Contracts of the laws' small helpers on slices of bools: eqBoolS, heldBoolS, markBoolS.
-/
namespace Go.Proofs.Ythdfkiaoahpjpaa
open Go.RowKit
set_option linter.unusedVariables false
set_option linter.unusedSimpArgs false
def Bools (w : World) (A : Option Addr) (n : Nat) (zs : List Bool) : Prop := Rd w 1 A n (zs.map Value.bool)
theorem Bools.len {w : World} {A : Option Addr} {n : Nat} {zs : List Bool} (h : Bools w A n zs) : zs.length = n := by simpa using h.1
theorem Bools.at_ {w : World} {A : Option Addr} {n : Nat} {zs : List Bool} (h : Bools w A n zs) (hn : 0 < n) :
    ∃ b o, A = some ⟨b, o, none⟩ ∧ b < w.heap.size ∧ ∀ j, j < n → w.cell? ⟨b, o + j, none⟩ = some (.bool (zs.getD j false)) := by
  obtain ⟨b, o, e, hb, hc⟩ := h.2 hn
  refine ⟨b, o, e, hb, fun j hj => ?_⟩
  have hl := h.len
  rw [hc j (by omega)]
  simp [List.getElem?_map, List.getD_eq_getElem?_getD, List.getElem?_eq_getElem (show j < zs.length by omega)]
theorem el_bool : El Try.prog 57 4 (.bool false) 1 1 := ⟨Try.underlying57, by kernel_rfl, rfl, by decide⟩
end Go.Proofs.Ythdfkiaoahpjpaa
/-
  The laws' helpers, by what a value reads as: slices of plain elements (printed by wip/gen_k.py).
-/
namespace Go.Proofs.Ythdfkiaoahpjpaa
open Go.RowKit
set_option linter.unusedVariables false
set_option linter.unusedSimpArgs false
theorem own_growK (c : CS) {w w' : World} {F : List Nat} {v : Value} (h : c.own w F v) (hg : w.grownBy w' none) : c.own w' F v := c.kept h fun g hg' => hg.block g (c.lt h g hg') (by simp)
theorem own_chgK (c : CS) {w w' : World} {F : List Nat} {S : Nat → Prop} {v : Value} (h : c.own w F v) (k : Chg S w w') (hs : ∀ g ∈ F, ¬ S g) : c.own w' F v := c.kept h fun g hg' => k.block g (c.lt h g hg') (hs g hg')
theorem ownAll_growK {w w' : World} {cs : List CS} {vs : List Value} {Fs : List (List Nat)} (h : OwnAll w cs vs Fs) (hg : w.grownBy w' none) : OwnAll w' cs vs Fs := h.kept fun g hg' => hg.block g (h.lt g hg') (by simp)
theorem fbC_one (x : Bool) : ∀ u ∈ fbC x, u.oneCell' = true := by simp [fbC, Value.oneCell']
theorem flat_fbC (xs : List Bool) : xs.flatMap fbC = xs.map Value.bool := flat_one _ xs
abbrev cgates (xs : List (Int × Int × Int)) : CS := plst 41 3 c3 xs
end Go.Proofs.Ythdfkiaoahpjpaa
/-
  Structs by value: what their cells read as, whose they are.
-/
namespace Go.Proofs.Ythdfkiaoahpjpaa
open Go.RowKit
def AggR (w : World) (cs : List CS) (v : Value) : Prop := ∃ vs : List Value, v = .agg vs.toArray ∧ RdAll w cs vs
def AggO (w : World) (cs : List CS) (F : List Nat) (v : Value) : Prop := ∃ (vs : List Value) (Fs : List (List Nat)), v = .agg vs.toArray ∧ OwnAll w cs vs Fs ∧ F = Fs.flatten
theorem AggR.grow {w w' : World} {cs : List CS} {v : Value} (h : AggR w cs v) (hg : w.grownBy w' none) : AggR w' cs v := by
  obtain ⟨vs, h1, h2⟩ := h
  exact ⟨vs, h1, h2.grow hg⟩
theorem AggO.rd {w : World} {cs : List CS} {F : List Nat} {v : Value} (h : AggO w cs F v) : AggR w cs v := by
  obtain ⟨vs, Fs, h1, h2, _⟩ := h
  exact ⟨vs, h1, h2.rd⟩
theorem AggO.lt {w : World} {cs : List CS} {F : List Nat} {v : Value} (h : AggO w cs F v) : ∀ g ∈ F, g < w.heap.size := by
  obtain ⟨vs, Fs, h1, h2, rfl⟩ := h
  exact h2.lt
theorem AggO.kept {w w' : World} {cs : List CS} {F : List Nat} {v : Value} (h : AggO w cs F v) (hk : ∀ g ∈ F, w'.heap[g]? = w.heap[g]?) : AggO w' cs F v := by
  obtain ⟨vs, Fs, h1, h2, rfl⟩ := h
  exact ⟨vs, Fs, h1, h2.kept hk, rfl⟩
theorem AggO.grow {w w' : World} {cs : List CS} {F : List Nat} {v : Value} (h : AggO w cs F v) (hg : w.grownBy w' none) : AggO w' cs F v := h.kept fun g hg' => hg.block g (h.lt g hg') (by simp)
theorem AggO.chg {w w' : World} {cs : List CS} {F : List Nat} {S : Nat → Prop} {v : Value} (h : AggO w cs F v) (k : Chg S w w') (hs : ∀ g ∈ F, ¬ S g) : AggO w' cs F v := h.kept fun g hg' => k.block g (h.lt g hg') (hs g hg')
end Go.Proofs.Ythdfkiaoahpjpaa
/-
  The laws' helpers on Circuit, by what it reads as (printed by wip/gen_sk.py).
-/
namespace Go.Proofs.Ythdfkiaoahpjpaa
open Go.RowKit
set_option linter.unusedVariables false
set_option linter.unusedSimpArgs false
structure CM where
  gt : List (Int × Int × Int)
  outs : List Int
abbrev ccircuit (m : CM) : List CS := [cgates m.gt, cints m.outs]
def CM.sz (m : CM) : Nat := m.gt.length + m.outs.length
def CM.wf (m : CM) : Prop := (∀ z ∈ m.gt, w3 z) ∧ (∀ z ∈ m.outs, i64w z)
theorem stCircuit : St Try.prog 28 2 := ⟨⟨_, Try.underlying28, rfl⟩, by kernel_rfl⟩
theorem ccircuit_open {w : World} {m : CM} {v : Value} (h : AggR w (ccircuit m) v) : ∃ u0 u1, v = .agg #[u0, u1] ∧ (cgates m.gt).rd w u0 ∧ (cints m.outs).rd w u1 := by
  obtain ⟨vs, rfl, h⟩ := h
  obtain ⟨u0, vs0, rfl, h0, h⟩ := RdAll.head h
  obtain ⟨u1, vs1, rfl, h1, h⟩ := RdAll.head h
  obtain rfl := RdAll.none h
  exact ⟨u0, u1, rfl, h0, h1⟩
theorem ccircuit_mk {w : World} {m : CM} {u0 u1 : Value} (h0 : (cgates m.gt).rd w u0) (h1 : (cints m.outs).rd w u1) : AggR w (ccircuit m) (.agg #[u0, u1]) := ⟨_, rfl, (RdAll.cons h0 (RdAll.cons h1 (RdAll.nil _)))⟩
theorem ccircuit_oform {w : World} {m : CM} {F : List Nat} {v : Value} (h : AggO w (ccircuit m) F v) : ∃ (A0 : Option Addr) (n0 s0 : Nat) (A1 : Option Addr) (n1 s1 : Nat), v = .agg #[(.slice A0 n0 s0), (.slice A1 n1 s1)] := by
  obtain ⟨vs, Fs, rfl, h, rfl⟩ := h
  obtain ⟨u0, vs0, F0, Fs0, rfl, rfl, h0, h, d0⟩ := OwnAll.head h
  obtain ⟨u1, vs1, F1, Fs1, rfl, rfl, h1, h, d1⟩ := OwnAll.head h
  obtain ⟨rfl, rfl⟩ := OwnAll.none h
  obtain ⟨A0, n0, s0, rfl⟩ := row_form h0
  obtain ⟨A1, n1, s1, rfl⟩ := row_form h1
  exact ⟨A0, n0, s0, A1, n1, s1, rfl⟩
theorem ccircuit_oopen {w : World} {m : CM} {F : List Nat} {v : Value} (h : AggO w (ccircuit m) F v) : ∃ u0 u1 F0 F1, v = .agg #[u0, u1] ∧ F = [F0, F1].flatten ∧ (cgates m.gt).own w F0 u0 ∧ (cints m.outs).own w F1 u1 ∧ (∀ g ∈ F0, g ∉ F1) := by
  obtain ⟨vs, Fs, rfl, h, rfl⟩ := h
  obtain ⟨u0, vs0, F0, Fs0, rfl, rfl, h0, h, d0⟩ := OwnAll.head h
  obtain ⟨u1, vs1, F1, Fs1, rfl, rfl, h1, h, d1⟩ := OwnAll.head h
  obtain ⟨rfl, rfl⟩ := OwnAll.none h
  exact ⟨u0, u1, F0, F1, rfl, rfl, h0, h1, fun g hg hg' => d0 g hg (by simp [hg'])⟩
theorem ccircuit_omk {w : World} {m : CM} {u0 u1 : Value} {F0 F1 : List Nat} (h0 : (cgates m.gt).own w F0 u0) (h1 : (cints m.outs).own w F1 u1) (d01 : ∀ g ∈ F0, g ∉ F1) : AggO w (ccircuit m) [F0, F1].flatten (.agg #[u0, u1]) := ⟨_, _, rfl, (OwnAll.cons h0 (OwnAll.cons h1 (OwnAll.nil _) (fun g hg => by simp)) (fun g hg => by simp [d01 g hg])), rfl⟩
end Go.Proofs.Ythdfkiaoahpjpaa
/-
  within, l01In, IsWord: by what they answer.
-/
namespace Go.Proofs.Ythdfkiaoahpjpaa
open Go.RowKit
set_option linter.unusedVariables false
set_option linter.unusedSimpArgs false
end Go.Proofs.Ythdfkiaoahpjpaa
