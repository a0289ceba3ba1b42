/-
  A map of bools by numbers that the call makes: which keys are true.
-/
import Derived.Test.YthncoohkdmjcaaaBase
import Derived.Maps.OwnOps
import Derived.Maps.OwnSet
namespace Go.Proofs.Ythncoohkdmjcaaa
open Go.RowKit Go.Maps
set_option linter.unusedVariables false
theorem lawInt : Keyed Try.prog 3 := int_keyed Try.underlying3
theorem zeroBool (w : World) : (zeroValue 4).run Try.prog w = .ok (.bool false) w := by kernel_rfl
def MapB (w : World) (b n : Nat) (S : Int → Bool) : Prop :=
  ∃ D : DataW Unit, w.ownsMap Try.prog 3 (plainElem Try.prog 4) b n D ∧ ∀ k : Int, D.atKey (.int .i64 k) (.lit (.bool false)) = .lit (.bool (S k))
section
variable {w w' : World} {b n : Nat} {S : Int → Bool}
theorem MapB.made (w : World) : MapB (w.alloc (.map #[] 0)) w.heap.size 0 (fun _ => false) := ⟨_, World.ownsMap_made _ _ _ _, fun k => rfl⟩
theorem MapB.grow (h : MapB w b n S) (hg : w.grownBy w' none) : MapB w' b n S := by
  obtain ⟨D, h1, h2⟩ := h
  exact ⟨D, h1.kept hg (by simp), h2⟩
theorem MapB.lt (h : MapB w b n S) : b < w.heap.size := by obtain ⟨D, h1, _⟩ := h; exact h1.lt
theorem MapB.off {r : Option Nat} (h : MapB w b n S) (hg : w.grownBy w' r) (hne : some b ≠ r) : MapB w' b n S := by
  obtain ⟨D, h1, h2⟩ := h
  exact ⟨D, h1.kept hg hne, h2⟩
theorem plainElem_bool_inv {H : Type} {P : Program} {e : TypeId} (he : P.underlying e = some .bool) {v : Value} {x : Bool} {ps : List MemPlace} (h : plainElem (H := H) P e v = some (.lit (.bool x), ps)) : v = .bool x := by
  unfold plainElem at h
  rw [he] at h
  cases v <;> simp at h
  rw [h.1]
theorem MapB.look (h : MapB w b n S) {x : Int} (hx : (Lit.int .i64 x).wf = true) : (Instr.lookup 93 (.map (some b)) (.int .i64 x) false).run Try.prog w = .ok (.bool (S x)) w := by
  obtain ⟨D, h1, h2⟩ := h
  obtain ⟨v, ps, hr, hv⟩ := h1.lookup lawInt Try.underlying93 (zeroBool w) (plainElem_bool Try.underlying4 false) (keyOf_int_mk Try.underlying3 hx)
  rw [h2] at hv
  rw [plainElem_bool_inv Try.underlying4 hv] at hr
  exact hr
variable {ops : Array Oper} {rest : List Oper} {o : Oper} {a : Act} {Q : Exit → Act → World → Prop}
theorem wp_lookB (w : World) (hg : o.guard = none) (m x : Operand) (hop : o.op = Op.lookup 93 m x false) (b n : Nat) (S : Int → Bool) (hown : MapB w b n S) (hm : a.eval m = .map (some b)) (z : Int) (hx : a.eval x = .int .i64 z) (hz : (Lit.int .i64 z).wf = true) (q : Bool) (hq : S z = q)
    (hK : wpList Try.prog ops Q rest (a.put o.dst (.bool q)) w) : wpList Try.prog ops Q (o :: rest) a w := by
  subst hq
  refine wpList_plain hg fun K' hK' => ?_
  unfold Oper.wp
  simp [execOp, hop, hm, hx, hown.look hz, Result.andThen]
  exact hK' _ _ hK
theorem wp_putB (w : World) (hg : o.guard = none) (m x v : Operand) (hop : o.op = Op.mapUpdate 93 m x v) (b n : Nat) (S : Int → Bool) (hown : MapB w b n S) (hm : a.eval m = .map (some b)) (z : Int) (hx : a.eval x = .int .i64 z) (hz : (Lit.int .i64 z).wf = true) (hv : a.eval v = .bool true) (hn : n < maxLen)
    (hK : ∀ w', MapB w' b (n + 1) (fun j => decide (j = z) || S j) → w.grownBy w' (some b) → wpList Try.prog ops Q rest (a.put o.dst undef) w') : wpList Try.prog ops Q (o :: rest) a w := by
  obtain ⟨D, h1, h2⟩ := hown
  refine wpList_mapUpdate_own w hg m x v 93 hop 3 4 lawInt Try.underlying93 _ b n D hm h1 hn _ _ (.int .i64 z) hx hv (keyOf_int_mk Try.underlying3 hz) _ _ (plainElem_bool Try.underlying4 true) fun w' h3 hg' => hK w' ⟨_, h3, fun k => ?_⟩ hg'
  by_cases e : k = z
  · subst e
    rw [atKey_put_same h1.isMap (by simp [WideAt.IsKeyLit])]
    simp
  · rw [atKey_put_other (by intro h; injection h with _ h; exact e h), h2]
    simp [e]
end
end Go.Proofs.Ythncoohkdmjcaaa
