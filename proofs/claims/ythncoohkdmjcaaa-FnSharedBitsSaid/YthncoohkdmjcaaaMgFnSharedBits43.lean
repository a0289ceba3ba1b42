/-
  'append(append([][]Block{}, o.Buckets...), o.Stash)': what it reads as; facts of the region that makes it.
-/
import Derived.Test.YthncoohkdmjcaaaMgFnSharedBits36
import Derived.Test.YthncoohkdmjcaaaMgFnSharedBits37
import Derived.Test.YthncoohkdmjcaaaMgFnSharedBits9
import Derived.Test.YthncoohkdmjcaaaMgFnSharedBits42
namespace Go.Proofs.Ythncoohkdmjcaaa
open Go.RowKit
set_option linter.unusedVariables false
set_option linter.unusedSimpArgs false
theorem RdAll.append {w : World} {cs ds : List CS} {vs us : List Value} (h : RdAll w cs vs) (k : RdAll w ds us) : RdAll w (cs ++ ds) (vs ++ us) := by
  refine ⟨by simp [h.1, k.1], fun i c v hc hv => ?_⟩
  rw [List.getElem?_append] at hc hv
  rw [h.1] at hv
  split at hc
  · rename_i hl
    rw [if_pos hl] at hv
    exact h.2 i c v hc hv
  · rename_i hl
    rw [if_neg hl] at hv
    exact k.2 _ c v hc hv
theorem own_lit1 {w : World} {base : Nat} (hb : base ≤ w.heap.size) (u : Value) (e : TypeId) : (w.alloc (.cells #[u] e)).ownsRow base e 1 (.slice (some ⟨w.heap.size, 0, none⟩) 1 1) 1 [u] :=
  ⟨rfl, .inr ⟨_, 1, #[u], rfl, hb, heap_alloc_new w _, Nat.le_refl _, by unfold maxLen; omega, rfl, rfl⟩⟩
theorem chgNil {W w : World} (h : Chg (fun b => ∃ s : Nat, (s, b) ∈ ([] : List (Nat × Nat))) W w) : W.grownBy w none := ⟨h.os, h.tape, h.output, h.size, fun i hi _ => h.block i hi (by simp)⟩
/-- A row of its own, of n elements and cap c. -/
def rowF (H : Nat) (e : TypeId) (n : Nat) (C : Nat → Prop) (xs : List Value) (v : Value) (w : World) : Prop := ∃ g c, v = .slice (some ⟨g, 0, none⟩) n c ∧ C c ∧ w.ownsRow H e 1 v n xs
theorem rowF_st {H : Nat} {e : TypeId} {n : Nat} {C : Nat → Prop} {xs : List Value} : stable (rowF H e n C xs) := fun v w w' h hg => by
  obtain ⟨g, c, e1, hc, ho⟩ := h
  exact ⟨g, c, e1, hc, own_grow ho hg⟩
/-- .. stands where another row, of another cap, has been appended to. -/
theorem rowF_keep {H H' : Nat} {e : TypeId} {n n' c' : Nat} {C : Nat → Prop} {xs ys : List Value} {v : Value} {w w' : World} {A' : Option Addr} (h : rowF H e n C xs v w) (k : w.ownsRow H' e 1 (.slice A' n' c') n' ys) (hc : ¬ C c') (hg : w.grownBy w' (Value.ownBlock (.slice A' n' c'))) : rowF H e n C xs v w' := by
  obtain ⟨g, c, e1, hC, ho⟩ := h
  refine ⟨g, c, e1, hC, ?_⟩
  subst e1
  cases A' with
  | none => exact own_grow ho hg
  | some a' =>
    have hf := k
    rcases k.2 with ⟨h1, _⟩ | ⟨g', cap', cur, hv, _⟩
    · injection h1 with h1; cases h1
    injection hv with e1 e2 e3
    injection e1 with e1
    subst e1
    refine own_grown ho hg (.inr ?_)
    intro e
    have : g = g' := by simpa [Value.ownBlock] using e
    subst this
    exact own_cap_ne ho hf (by omega) (fun x => hc (x ▸ hC)) rfl
theorem row16_at {w wr : World} {m : OM} {vs : List Value} {u1 : Value} {H g n c k : Nat} (h0 : RdAll w (m.bk.flatMap fun l => [cblocks l]) vs) (h1 : (cblocks m.st).rd w u1) (hn : m.bk.length + 1 = n)
    (ho : wr.ownsRow H 34 1 (.slice (some ⟨g, 0, none⟩) n c) n (vs ++ [u1])) (hk : k < n) :
    ∃ (x : Bks) (A : Option Addr) (d : Nat), (lsO m)[k]? = some x ∧ wr.cell? ⟨g, k, none⟩ = some (.slice A x.length d) ∧ x.length ≤ d ∧ d ≤ maxLen ∧ FL c2 2 w A x.length x := by
  have RA : RdAll w ((lsO m).map cblocks) (vs ++ [u1]) := by
    have := RdAll.append h0 (RdAll.cons h1 (RdAll.nil _))
    rw [cbs_flat] at this
    unfold lsO
    rw [List.map_append]
    exact this
  have hk' : k < (lsO m).length := by rw [lsO_len]; omega
  have hkv : k < (vs ++ [u1]).length := by rw [RA.1, List.length_map]; exact hk'
  have hr := RA.2 k (cblocks (lsO m)[k]) (vs ++ [u1])[k] (by rw [List.getElem?_map, List.getElem?_eq_getElem hk']; rfl) (List.getElem?_eq_getElem hkv)
  obtain ⟨A, d, e, h3, h4, h5⟩ := plst_rd (s := 2) (fun _ => rfl) (by omega) hr
  refine ⟨(lsO m)[k], A, d, List.getElem?_eq_getElem hk', ?_, h3, h4, h5⟩
  have hc := ho.cells (g := g) rfl k _ (List.getElem?_eq_getElem hkv)
  rw [e] at hc
  have hadd : (⟨g, 0, none⟩ : Addr).add k = ⟨g, k, none⟩ := by unfold Addr.add; split <;> simp_all
  rw [hadd] at hc
  exact hc
end Go.Proofs.Ythncoohkdmjcaaa
