/-
  Structs by value: what their cells read as, whose they are.
-/
import Derived.Test.YtapljpcpmdlppaaMgFnArithmetics11
namespace Go.Proofs.Ytapljpcpmdlppaa
open Go.RowKit
theorem gdT' {w w' : World} {r : Option Nat} (h : w.drew.grownBy w' r) : w.grownBy w' r := gbT (gbD (gbR w r)) h
def AggR (w : World) (cs : List CS) (v : Value) : Prop := ∃ vs : List Value, v = .agg vs.toArray ∧ RdAll w cs vs
def AggO (w : World) (cs : List CS) (F : List Nat) (v : Value) : Prop := ∃ (vs : List Value) (Fs : List (List Nat)), v = .agg vs.toArray ∧ OwnAll w cs vs Fs ∧ F = Fs.flatten
theorem AggR.grow {w w' : World} {cs : List CS} {v : Value} (h : AggR w cs v) (hg : w.grownBy w' none) : AggR w' cs v := by
  obtain ⟨vs, h1, h2⟩ := h
  exact ⟨vs, h1, h2.grow hg⟩
theorem AggO.rd {w : World} {cs : List CS} {F : List Nat} {v : Value} (h : AggO w cs F v) : AggR w cs v := by
  obtain ⟨vs, Fs, h1, h2, _⟩ := h
  exact ⟨vs, h1, h2.rd⟩
theorem AggO.lt {w : World} {cs : List CS} {F : List Nat} {v : Value} (h : AggO w cs F v) : ∀ g ∈ F, g < w.heap.size := by
  obtain ⟨vs, Fs, h1, h2, rfl⟩ := h
  exact h2.lt
theorem AggO.kept {w w' : World} {cs : List CS} {F : List Nat} {v : Value} (h : AggO w cs F v) (hk : ∀ g ∈ F, w'.heap[g]? = w.heap[g]?) : AggO w' cs F v := by
  obtain ⟨vs, Fs, h1, h2, rfl⟩ := h
  exact ⟨vs, Fs, h1, h2.kept hk, rfl⟩
theorem AggO.grow {w w' : World} {cs : List CS} {F : List Nat} {v : Value} (h : AggO w cs F v) (hg : w.grownBy w' none) : AggO w' cs F v := h.kept fun g hg' => hg.block g (h.lt g hg') (by simp)
theorem AggO.chg {w w' : World} {cs : List CS} {F : List Nat} {S : Nat → Prop} {v : Value} (h : AggO w cs F v) (k : Chg S w w') (hs : ∀ g ∈ F, ¬ S g) : AggO w' cs F v := h.kept fun g hg' => k.block g (h.lt g hg') (hs g hg')
end Go.Proofs.Ytapljpcpmdlppaa
