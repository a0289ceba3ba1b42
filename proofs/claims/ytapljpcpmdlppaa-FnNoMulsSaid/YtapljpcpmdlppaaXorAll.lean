/-
  XorAll: reference and program, and its exact law.
-/
import Derived.Test.YtapljpcpmdlppaaXor
namespace Go.Proofs.Ytapljpcpmdlppaa
open Go.RowKit
set_option linter.unusedVariables false
theorem xorTo_elem {p : Int} (zs : List Int) (hf : fieldB p = true) (k : Nat) : elemB p (xorTo p zs k) = true := by
  have := field_range hf
  have h := xorTo_rng p zs (by omega) k
  exact elemB_mk hf h.1 h.2
theorem elemB_of {p : Int} {zs : List Int} (h : elemsB p zs = true) {k : Nat} (hk : k < zs.length) : elemB p (zs.getD k 0) = true := by
  have h1 := elemsB_is h
  have h2 := h1.2.2.2 zs[k] (List.getElem_mem hk)
  rw [getI zs k hk]
  exact elemB_mk h1.1 h2.1 h2.2
end Go.Proofs.Ytapljpcpmdlppaa
