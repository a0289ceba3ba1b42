/-
  Contracts of the laws' small helpers on slices of bools: eqBoolS, heldBoolS, markBoolS.
-/
import Derived.Test.YtapljpcpmdlppaaMgFnArithmetics3
namespace Go.Proofs.Ytapljpcpmdlppaa
open Go.RowKit
set_option linter.unusedVariables false
set_option linter.unusedSimpArgs false
def Bools (w : World) (A : Option Addr) (n : Nat) (zs : List Bool) : Prop := Rd w 1 A n (zs.map Value.bool)
theorem Bools.len {w : World} {A : Option Addr} {n : Nat} {zs : List Bool} (h : Bools w A n zs) : zs.length = n := by simpa using h.1
theorem Bools.at_ {w : World} {A : Option Addr} {n : Nat} {zs : List Bool} (h : Bools w A n zs) (hn : 0 < n) :
    ∃ b o, A = some ⟨b, o, none⟩ ∧ b < w.heap.size ∧ ∀ j, j < n → w.cell? ⟨b, o + j, none⟩ = some (.bool (zs.getD j false)) := by
  obtain ⟨b, o, e, hb, hc⟩ := h.2 hn
  refine ⟨b, o, e, hb, fun j hj => ?_⟩
  have hl := h.len
  rw [hc j (by omega)]
  simp [List.getElem?_map, List.getD_eq_getElem?_getD, List.getElem?_eq_getElem (show j < zs.length by omega)]
def marksB (k : Int) (n : Nat) : List Bool := (List.range n).map fun i : Nat => ((k + (i : Int)) % 3 == 0)
theorem marksB_get (k : Int) (n i : Nat) (h : i < n) : (marksB k n)[i]?.getD false = ((k + (i : Int)) % 3 == 0) := by simp [marksB, h]
/-- What lies in a row whose first k places markBoolS has laid. -/
def markdB (k0 : Int) (xs : List Bool) (k : Nat) : List Bool := (List.range k).map (fun i : Nat => ((k0 + (i : Int)) % 3 == 0)) ++ xs.drop k
theorem markdB_step (k0 : Int) (xs : List Bool) (k : Nat) (h : k < xs.length) : ((markdB k0 xs k).map (Value.bool)).set k (.bool ((k0 + (k : Int)) % 3 == 0)) = (markdB k0 xs (k + 1)).map (Value.bool) := by
  unfold markdB
  rw [← List.map_set, fill_step (fun i : Nat => ((k0 + (i : Int)) % 3 == 0)) xs k h]
theorem markdB_all (k0 : Int) (xs : List Bool) (n : Nat) (h : xs.length = n) : markdB k0 xs n = marksB k0 n := by simp [markdB, marksB, ← h]

end Go.Proofs.Ytapljpcpmdlppaa
