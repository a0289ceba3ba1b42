/-
  A memory that is being worked on: a struct's block, and the rows that it owns.
-/
import Derived.Test.YthncoohkdmjcaaaMgFnMemory8
import Derived.Test.YthncoohkdmjcaaaMgFnMemory11
namespace Go.Proofs.Ythncoohkdmjcaaa
open Go.RowKit
set_option linter.unusedVariables false
set_option linter.unusedSimpArgs false
structure OS (lo g : Nat) (m : OM) (u0 u1 u2 : Value) (F0 F1 F2 : List Nat) (w : World) : Prop where
  blk : Blk w g 36 #[u0, u1, u2]
  b : (cblockss m.bk).own w F0 u0
  s : (cblocks m.st).own w F1 u1
  p : (cints m.pos).own w F2 u2
  l0 : ∀ x ∈ F0, lo ≤ x
  l1 : ∀ x ∈ F1, lo ≤ x
  l2 : ∀ x ∈ F2, lo ≤ x
  lg : lo ≤ g
  d01 : ∀ x ∈ F0, x ∉ F1
  d02 : ∀ x ∈ F0, x ∉ F2
  d12 : ∀ x ∈ F1, x ∉ F2
  n0 : g ∉ F0
  n1 : g ∉ F1
  n2 : g ∉ F2
def OSE (lo g : Nat) (m : OM) (w : World) : Prop := ∃ u0 u1 u2 F0 F1 F2, OS lo g m u0 u1 u2 F0 F1 F2 w
section
variable {lo g : Nat} {m : OM} {u0 u1 u2 : Value} {F0 F1 F2 : List Nat} {w w' : World}
theorem OS.chg {S : Nat → Prop} (h : OS lo g m u0 u1 u2 F0 F1 F2 w) (k : Chg S w w') (h0 : ∀ x ∈ F0, ¬ S x) (h1 : ∀ x ∈ F1, ¬ S x) (h2 : ∀ x ∈ F2, ¬ S x) (hg : ¬ S g) : OS lo g m u0 u1 u2 F0 F1 F2 w' :=
  ⟨h.blk.chg k hg, own_chgK _ h.b k h0, own_chgK _ h.s k h1, own_chgK _ h.p k h2, h.l0, h.l1, h.l2, h.lg, h.d01, h.d02, h.d12, h.n0, h.n1, h.n2⟩
theorem OS.grow (h : OS lo g m u0 u1 u2 F0 F1 F2 w) (k : w.grownBy w' none) : OS lo g m u0 u1 u2 F0 F1 F2 w' :=
  h.chg (S := fun _ => False) (Chg.of k fun g hg => by simp at hg) (fun _ _ => id) (fun _ _ => id) (fun _ _ => id) id
theorem OSE.grow (h : OSE lo g m w) (k : w.grownBy w' none) : OSE lo g m w' := by
  obtain ⟨u0, u1, u2, F0, F1, F2, h⟩ := h
  exact ⟨_, _, _, _, _, _, h.grow k⟩
theorem OS.forms (h : OS lo g m u0 u1 u2 F0 F1 F2 w) : (∃ A n c, u0 = .slice A n c) ∧ (∃ A c, u1 = .slice A m.st.length c ∧ F1 = u1.ownBlock.toList) ∧ (∃ A c, u2 = .slice A m.pos.length c ∧ F2 = u2.ownBlock.toList) := by
  refine ⟨row_form h.b, ?_, ?_⟩
  · obtain ⟨A, c, e1, e2, _⟩ := plst_row (s := 2) (fun _ => rfl) (by omega) h.s
    exact ⟨A, c, e1, e2⟩
  · obtain ⟨A, c, e1, e2, _⟩ := cints_row h.p
    exact ⟨A, c, e1, e2⟩
/-- Made of parts. -/
theorem OS.made {cs : Array Value} (hb : Blk w g 36 #[u0, u1, u2]) (h : AggO w (coram m) (F0) (.agg #[u0, u1, u2])) (hl : ∀ x ∈ F0, lo ≤ x) (hg : lo ≤ g) (hn : g ∉ F0) : OSE lo g m w := by
  obtain ⟨v0, v1, v2, G0, G1, G2, e, rfl, a0, a1, a2, d01, d02, d12⟩ := coram_oopen h
  injection e with e
  injection e with e
  injection e with e0 e
  injection e with e1 e
  injection e with e2 e
  subst e0; subst e1; subst e2
  simp only [List.flatten_cons, List.flatten_nil, List.append_nil, List.mem_append, not_or] at hl hn
  exact ⟨_, _, _, _, _, _, hb, a0, a1, a2, fun x hx => hl x (.inl hx), fun x hx => hl x (.inr (.inl hx)), fun x hx => hl x (.inr (.inr hx)), hg, d01, d02, d12, hn.1, hn.2.1, hn.2.2⟩
theorem OS.agg (h : OS lo g m u0 u1 u2 F0 F1 F2 w) : AggO w (coram m) [F0, F1, F2].flatten (.agg #[u0, u1, u2]) ∧ (∀ x ∈ [F0, F1, F2].flatten, lo ≤ x) :=
  ⟨coram_omk h.b h.s h.p h.d01 h.d02 h.d12, fun x hx => by
    simp at hx
    rcases hx with hx | hx | hx
    · exact h.l0 x hx
    · exact h.l1 x hx
    · exact h.l2 x hx⟩
/-- Another stash, stored. -/
theorem OS.stash {S : Nat → Prop} {l : List Bk} {v : Value} {F : List Nat} (h : OS lo g m u0 u1 u2 F0 F1 F2 w) (k : Chg S w w') (hv : (cblocks l).own w' F v) (h0 : ∀ x ∈ F0, ¬ S x) (h2 : ∀ x ∈ F2, ¬ S x) (hg : ¬ S g) (hF : ∀ x ∈ F, x ∉ F0 ∧ x ∉ F2 ∧ x ≠ g ∧ lo ≤ x) :
    OS lo g { m with st := l } u0 v u2 F0 F F2 (w'.setCell ⟨g, 1, none⟩ v) := by
  have hb := (h.blk.chg k hg).set_ 1 v
  exact ⟨by simpa using hb, own_setC _ (own_chgK _ h.b k h0) g 1 h.n0 v, own_setC _ hv g 1 (fun hx => (hF g hx).2.2.1 rfl) v, own_setC _ (own_chgK _ h.p k h2) g 1 h.n2 v, h.l0, fun x hx => (hF x hx).2.2.2, h.l2, h.lg, fun x hx hx' => (hF x hx').1 hx, h.d02, fun x hx => (hF x hx).2.1, h.n0, fun hx => (hF g hx).2.2.1 rfl, h.n2⟩
/-- Other buckets, stored. -/
theorem OS.buckets {S : Nat → Prop} {l : List Bks} {v : Value} {F : List Nat} (h : OS lo g m u0 u1 u2 F0 F1 F2 w) (k : Chg S w w') (hv : (cblockss l).own w' F v) (h1 : ∀ x ∈ F1, ¬ S x) (h2 : ∀ x ∈ F2, ¬ S x) (hg : ¬ S g) (hF : ∀ x ∈ F, x ∉ F1 ∧ x ∉ F2 ∧ x ≠ g ∧ lo ≤ x) :
    OS lo g { m with bk := l } v u1 u2 F F1 F2 (w'.setCell ⟨g, 0, none⟩ v) := by
  have hb := (h.blk.chg k hg).set_ 0 v
  exact ⟨by simpa using hb, own_setC _ hv g 0 (fun hx => (hF g hx).2.2.1 rfl) v, own_setC _ (own_chgK _ h.s k h1) g 0 h.n1 v, own_setC _ (own_chgK _ h.p k h2) g 0 h.n2 v, fun x hx => (hF x hx).2.2.2, h.l1, h.l2, h.lg, fun x hx => (hF x hx).1, fun x hx => (hF x hx).2.1, h.d12, fun hx => (hF g hx).2.2.1 rfl, h.n1, h.n2⟩
/-- A bucket's row, by one that took its place or grew out of it. -/
theorem OS.bucket {g0 n c : Nat} (h : OS lo g m (.slice (some ⟨g0, 0, none⟩) n c) u1 u2 F0 F1 F2 w) {i : Nat} {x : List Bk} (hi : m.bk[i]? = some x) :
    ∃ u Fi, w.cell? ⟨g0, i, none⟩ = some u ∧ w.frozen? ⟨g0, i, none⟩ = false ∧ (cblocks x).own w Fi u ∧ (∀ y ∈ Fi, y ∈ F0) ∧ g0 ∉ Fi ∧ g0 ∈ F0 ∧ ∀ (w' : World) (l : List Bk) (u' : Value) (Fc : List Nat), Chg (fun y => y ∈ Fi) w w' → (cblocks l).own w' Fc u' → (∀ y ∈ Fc, y ∈ Fi ∨ w.heap.size ≤ y) →
      ∃ F', OS lo g { m with bk := m.bk.set i l } (.slice (some ⟨g0, 0, none⟩) n c) u1 u2 F' F1 F2 (w'.setCell ⟨g0, i, none⟩ u') ∧ ∀ y ∈ F', y ∈ F0 ∨ w.heap.size ≤ y := by
  have hd : (m.bk.flatMap fun l => [cblocks l])[i]? = some (cblocks x) := by rw [cbs_flat, List.getElem?_map, hi]; rfl
  obtain ⟨u, Fi, a1, a2, a3, a4, a5, a6, a7⟩ := row_app h.b hd
  refine ⟨u, Fi, a1, a2, a3, a4, a5, a6, fun w' l u' Fc hch ho hsub => ?_⟩
  obtain ⟨F', k1, k2⟩ := a7 w' (cblocks l) u' Fc hch ho hsub
  have hflat : (m.bk.flatMap fun l => [cblocks l]).set i (cblocks l) = (m.bk.set i l).flatMap fun l => [cblocks l] := by rw [cbs_flat, cbs_flat, List.map_set]
  rw [hflat] at k1
  have hg0 : g0 ≠ g := fun e => h.n0 (e ▸ a6)
  have hlt1 := CS.lt _ h.s
  have hlt2 := CS.lt _ h.p
  have hltg := h.blk.lt
  have hlt0 := CS.lt _ h.b
  have g1 : g0 ∉ F1 := h.d01 _ a6
  have g2 : g0 ∉ F2 := h.d02 _ a6
  have hlow : lo ≤ w.heap.size := Nat.le_of_lt (Nat.lt_of_le_of_lt h.lg hltg)
  refine ⟨F', ⟨?_, k1, own_setC _ (own_chgK _ h.s hch fun y hy hy' => h.d01 y (a4 y hy') hy) g0 i g1 u', own_setC _ (own_chgK _ h.p hch fun y hy hy' => h.d02 y (a4 y hy') hy) g0 i g2 u', fun y hy => ?_, h.l1, h.l2, h.lg, fun y hy hy' => ?_, fun y hy hy' => ?_, h.d12, fun hy => ?_, h.n1, h.n2⟩, k2⟩
  · exact (h.blk.chg hch (fun hy => h.n0 (a4 g hy))).far (p := ⟨g0, i, none⟩) (fun e => hg0 e.symm) u'
  · rcases k2 y hy with h3 | h3
    · exact h.l0 y h3
    · omega
  · rcases k2 y hy with h3 | h3
    · exact h.d01 y h3 hy'
    · have := hlt1 y hy'; omega
  · rcases k2 y hy with h3 | h3
    · exact h.d02 y h3 hy'
    · have := hlt2 y hy'; omega
  · rcases k2 g hy with h3 | h3
    · exact h.n0 h3
    · omega
end
end Go.Proofs.Ythncoohkdmjcaaa
