/-
  The laws' helpers on Arith, by what it reads as (printed by wip/gen_sk.py).
-/
import Derived.Test.YtaokichfakolmaaAgg
namespace Go.Proofs.Ytaokichfakolmaa
open Go.RowKit
set_option linter.unusedVariables false
structure AM where
  p : Int
  st : List (Int × Int × Int)
  outs : List Int
def AM.sz (m : AM) : Nat := m.st.length + m.outs.length
def AM.cnt (k : Int) (m : AM) : Int := k + 3 * m.st.length + m.outs.length
def AM.mkd (k : Int) (m : AM) : AM := { m with st := mk3 (k) m.st.length, outs := marks (k + 3 * m.st.length) m.outs.length }
def AM.wf (m : AM) : Prop := i64w m.p ∧ (∀ z ∈ m.st, w3 z) ∧ (∀ z ∈ m.outs, i64w z)
end Go.Proofs.Ytaokichfakolmaa
