/-
  The program's builder: what it asks of words (isWordOf, areNibbles, areBits), where it holds.
-/
import Derived.Test.YthdfkiaoahpjpaaMgFnCaught27
namespace Go.Proofs.Ythdfkiaoahpjpaa
open Go.RowKit
set_option linter.unusedVariables false
set_option linter.unusedSimpArgs false
end Go.Proofs.Ythdfkiaoahpjpaa
/-
  EvalWires, EvalCircuit of the program.
-/
namespace Go.Proofs.Ythdfkiaoahpjpaa
open Go.RowKit
set_option linter.unusedVariables false
set_option linter.unusedSimpArgs false
theorem gateB_kind {k : Nat} {x y z : Int} (h : gateB k (x, y, z) = true) : (x = 1 ∧ ∃ a : Nat, y = a ∧ a < 80) ∨ (x = 2 ∧ bitI y) ∨ (x = 3 ∧ ∃ a b : Nat, y = a ∧ z = b ∧ a < k ∧ b < k) ∨ (x = 4 ∧ ∃ a b : Nat, y = a ∧ z = b ∧ a < k ∧ b < k) ∨ (x = 5 ∧ ∃ a : Nat, y = a ∧ a < k) := by
  unfold gateB inB at h
  by_cases h1 : x = 1
  · simp [h1] at h
    exact .inl ⟨h1, y.toNat, by omega, by omega⟩
  by_cases h2 : x = 2
  · simp [h2] at h
    exact .inr (.inl ⟨h2, ⟨h.1.1, h.1.2⟩⟩)
  by_cases h3 : x = 3
  · simp [h3] at h
    exact .inr (.inr (.inl ⟨h3, y.toNat, z.toNat, by omega, by omega, by omega, by omega⟩))
  by_cases h4 : x = 4
  · simp [h4] at h
    exact .inr (.inr (.inr (.inl ⟨h4, y.toNat, z.toNat, by omega, by omega, by omega, by omega⟩)))
  by_cases h5 : x = 5
  · simp [h5] at h
    exact .inr (.inr (.inr (.inr ⟨h5, y.toNat, by omega, by omega⟩)))
  · simp [h1, h2, h3, h4, h5] at h
end Go.Proofs.Ythdfkiaoahpjpaa
/-
  RoundsOf, MulsAt, ArithCost, UsedErrors: reference and program.
-/
namespace Go.Proofs.Ythdfkiaoahpjpaa
open Go.RowKit
set_option linter.unusedVariables false
set_option linter.unusedSimpArgs false
end Go.Proofs.Ythdfkiaoahpjpaa
/-
  ArithCost, UsedErrors: reference and program.
-/
namespace Go.Proofs.Ythdfkiaoahpjpaa
open Go.RowKit
set_option linter.unusedVariables false
set_option linter.unusedSimpArgs false
theorem Ints.take {w : World} {A : Option Addr} {n : Nat} {zs : List Int} (h : Ints w A n zs) {k : Nat} (hk : k ≤ n) : Ints w A k (zs.take k) := by
  have hl := h.len
  refine ⟨by simp; omega, fun hp => ?_⟩
  obtain ⟨b, o, e, hb, hc⟩ := h.at_ (by omega)
  refine ⟨b, o, e, hb, fun j hj => ?_⟩
  rw [hc j (by omega), List.getElem?_map, List.getElem?_take, if_pos (by omega), List.getElem?_eq_getElem (by omega), getI _ _ (by omega)]
  rfl
end Go.Proofs.Ythdfkiaoahpjpaa
/-
  The program's builder: sums of words.
-/
namespace Go.Proofs.Ythdfkiaoahpjpaa
open Go.RowKit
set_option linter.unusedVariables false
set_option linter.unusedSimpArgs false
theorem ownF.row {lo : Nat} {w : World} {xs : List Int} {v : Value} (h : ownF lo (cints xs) v w) : ∃ A c, v = .slice A xs.length c ∧ ownF lo (cints xs) (.slice A xs.length c) w := by
  obtain ⟨F, h1, h2⟩ := h
  obtain ⟨A, c, e, _, _⟩ := cints_row h1
  subst e
  exact ⟨A, c, rfl, F, h1, h2⟩
end Go.Proofs.Ythdfkiaoahpjpaa
/-
  EvalCircuit of the program.
-/
namespace Go.Proofs.Ythdfkiaoahpjpaa
open Go.RowKit
set_option linter.unusedVariables false
set_option linter.unusedSimpArgs false
end Go.Proofs.Ythdfkiaoahpjpaa
/-
  The program's circuits for words: the call's head and end; sums and differences.
-/
namespace Go.Proofs.Ythdfkiaoahpjpaa
open Go.RowKit
set_option linter.unusedVariables false
set_option linter.unusedSimpArgs false
theorem BS.made {T : TypeId} {lo : Nat} {m : CM} {u0 u1 : Value} {w : World} (h : aggF lo (ccircuit m) (.agg #[u0, u1]) w) (hlo : lo ≤ w.heap.size) : BS T lo (w.heap.size + 1) m w.heap.size (w.alloc (.cells #[u0, u1] T)) := by
  obtain ⟨F, hF, hl⟩ := h
  obtain ⟨v0, v1, F0, F1, e, rfl, o0, o1, _⟩ := ccircuit_oopen hF
  injection e with e
  injection e with e
  injection e with e0 e
  injection e with e1 _
  subst e0; subst e1
  have gA := gbA (gbR w none) (.cells #[u0, u1] T)
  exact ⟨hlo, by omega, u0, u1, F0, F1, Blk.new w _ _, own_growK _ o0 gA, own_growK _ o1 gA, fun x hx => hl x (by simp [hx]), fun x hx => ⟨hl x (by simp [hx]), by have := CS.lt _ o1 x hx; omega⟩⟩
end Go.Proofs.Ythdfkiaoahpjpaa
/-
  A circuit's block in a law's walk: what a store leaves.
-/
namespace Go.Proofs.Ythdfkiaoahpjpaa
open Go.RowKit
set_option linter.unusedVariables false
set_option linter.unusedSimpArgs false
def m0 : CM := ⟨[], []⟩
end Go.Proofs.Ythdfkiaoahpjpaa
/-
  A circuit's wires as the digits of a number; what is checked of a circuit, gate by gate.
-/
namespace Go.Proofs.Ythdfkiaoahpjpaa
open Go.RowKit
set_option linter.unusedVariables false
set_option linter.unusedSimpArgs false
def cA (a : Nat) : List Int × CM := constTo m0 a 4
def cB (a b : Nat) : List Int × CM := constTo (cA a).2 b 4
end Go.Proofs.Ythdfkiaoahpjpaa
