/-
  TripleUse of the program.
-/
import Derived.Test.YthdfkiaoahpjpaaMgFnArithmetic24
import Derived.Test.YthdfkiaoahpjpaaMgFnArithmetic31
namespace Go.Proofs.Ythdfkiaoahpjpaa
open Go.RowKit
set_option linter.unusedVariables false
set_option linter.unusedSimpArgs false
end Go.Proofs.Ythdfkiaoahpjpaa
/-
  valueIn and TripleOpen of the program.
-/
namespace Go.Proofs.Ythdfkiaoahpjpaa
open Go.RowKit
set_option linter.unusedVariables false
set_option linter.unusedSimpArgs false
end Go.Proofs.Ythdfkiaoahpjpaa
/-
  TripleNew of the program, where it answers.
-/
namespace Go.Proofs.Ythdfkiaoahpjpaa
open Go.RowKit
set_option linter.unusedVariables false
set_option linter.unusedSimpArgs false
def OwnE (w : World) (cs : List CS) (vs : List Value) : Prop := vs.length = cs.length ∧ ∀ (i : Nat) (c : CS) (v : Value), cs[i]? = some c → vs[i]? = some v → ∃ F, c.own w F v
def AggE (w : World) (cs : List CS) (v : Value) : Prop := ∃ vs : List Value, v = .agg vs.toArray ∧ OwnE w cs vs
theorem OwnE.rd {w : World} {cs : List CS} {vs : List Value} (h : OwnE w cs vs) : RdAll w cs vs := ⟨h.1, fun i c v hc hv => by
  obtain ⟨F, hF⟩ := h.2 i c v hc hv
  exact c.toRd hF⟩
theorem AggE.rd {w : World} {cs : List CS} {v : Value} (h : AggE w cs v) : AggR w cs v := by
  obtain ⟨vs, rfl, h⟩ := h
  exact ⟨vs, rfl, h.rd⟩
theorem OwnE.append {w : World} {cs ds : List CS} {vs us : List Value} (h : OwnE w cs vs) (k : OwnE w ds us) : OwnE w (cs ++ ds) (vs ++ us) := by
  refine ⟨by simp [h.1, k.1], fun i c v hc hv => ?_⟩
  rw [List.getElem?_append] at hc hv
  rw [h.1] at hv
  split at hc
  · rename_i hl
    rw [if_pos hl] at hv
    exact h.2 i c v hc hv
  · rename_i hl
    rw [if_neg hl] at hv
    exact k.2 _ c v hc hv
end Go.Proofs.Ythdfkiaoahpjpaa
/-
  isZeroAuth of the program.
-/
namespace Go.Proofs.Ythdfkiaoahpjpaa
open Go.RowKit
set_option linter.unusedVariables false
set_option linter.unusedSimpArgs false
end Go.Proofs.Ythdfkiaoahpjpaa
/-
  copyAuth of the program.
-/
namespace Go.Proofs.Ythdfkiaoahpjpaa
open Go.RowKit
set_option linter.unusedVariables false
set_option linter.unusedSimpArgs false
end Go.Proofs.Ythdfkiaoahpjpaa
/-
  More draws: once in n, a list of numbers below p, a word.
-/
namespace Go.Proofs.Ythdfkiaoahpjpaa
open Go.RowKit
set_option linter.unusedVariables false
set_option linter.unusedSimpArgs false
theorem Chg.rdk {S : Nat → Prop} {w w' : World} {sz n : Nat} {A : Option Addr} {xs : List Value} (h : Rd w sz A n xs) (k : Chg S w w') (hs : 0 < n → ∀ a, A = some a → ¬ S a.block) : Rd w' sz A n xs := by
  rcases Nat.eq_zero_or_pos n with h0 | h0
  · exact ⟨h.1, fun hn => by omega⟩
  · exact Chg.rd h k (hs h0)
theorem Cur.kept {S : Nat → Prop} {w w' : World} {g : Nat} {A : Option Addr} {n c : Nat} {bs : List Int} (h : Cur w g A n c bs) (k : Chg S w w') (hg : w'.heap[g]? = w.heap[g]?) (hs : 0 < n → ∀ a, A = some a → ¬ S a.block) : Cur w' g A n c bs := by
  obtain ⟨⟨i, hh, hi, hb⟩, k2, k3, k4, k5⟩ := h
  exact ⟨⟨i, hh, hi, hg.trans hb⟩, Chg.rdk k2 k hs, k3, k4, k5⟩
theorem Cur.old {w : World} {g : Nat} {A : Option Addr} {n c : Nat} {bs : List Int} (h : Cur w g A n c bs) {y : Nat} (hy : w.heap.size ≤ y) : 0 < n → ∀ a, A = some a → a.block ≠ y := fun hn a ha e => by
  obtain ⟨b, o, rfl, hb, _⟩ := h.bytes.2 (by omega)
  injection ha with ha
  subst ha
  simp only at e
  omega
end Go.Proofs.Ythdfkiaoahpjpaa
/-
  A drawn arithmetic circuit: the struct that is made, and the regions that append to it.
-/
namespace Go.Proofs.Ythdfkiaoahpjpaa
open Go.RowKit
set_option linter.unusedVariables false
set_option linter.unusedSimpArgs false
section
variable {lo g : Nat} {m : AM} {u1 u2 : Value} {F1 F2 : List Nat} {w w' : World}
end
end Go.Proofs.Ythdfkiaoahpjpaa
/-
  A drawn arithmetic circuit: it is well-formed; its inputs fit.
-/
namespace Go.Proofs.Ythdfkiaoahpjpaa
open Go.RowKit
set_option linter.unusedVariables false
set_option linter.unusedSimpArgs false
end Go.Proofs.Ythdfkiaoahpjpaa
/-
  copyKeys, copyArith of the program.
-/
namespace Go.Proofs.Ythdfkiaoahpjpaa
open Go.RowKit
set_option linter.unusedVariables false
set_option linter.unusedSimpArgs false
end Go.Proofs.Ythdfkiaoahpjpaa
