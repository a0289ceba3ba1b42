/-
  A Public of the call's own: three rows of ints in a block.
-/
import Derived.Test.YthdfkiaoahpjpaaMgFnCaught32
namespace Go.Proofs.Ythdfkiaoahpjpaa
open Go.RowKit
set_option linter.unusedVariables false
set_option linter.unusedSimpArgs false
def cpub (ts cs ds : List Int) : List CS := [cints ts, cints cs, cints ds]
section
variable {T : TypeId} {cs : List CS} {zs : List Int} {g lo n i : Nat} {w : World}
theorem sof_row (h : sofF lo T cs g w) (hi : cs[i]? = some (cints zs)) (hl : zs.length = n) (hg : lo ≤ g) :
    ∃ A c Fi, w.cell? ⟨g, i, none⟩ = some (.slice A n c) ∧ Ints w A n zs ∧ (cints zs).own w Fi (.slice A n c) ∧ ((∀ x ∈ Fi, lo ≤ x ∧ x < w.heap.size) ∧ g ∉ Fi ∧ g < w.heap.size) ∧
      (∀ (w' : World) A' n' c' F' xs, (cints xs).own w' F' (.slice A' n' c') → Chg (fun y => y ∈ Fi) w w' → (∀ y ∈ F', y ∈ Fi ∨ w.heap.size ≤ y) →
        w'.cell? ⟨g, i, none⟩ = some (.slice A n c) ∧ w'.frozen? ⟨g, i, none⟩ = false ∧ sofF lo T (cs.set i (cints xs)) g (w'.setCell ⟨g, i, none⟩ (.slice A' n' c')) ∧
        (∀ W : World, W.heap.size ≤ lo → W.grownBy w none → W.grownBy (w'.setCell ⟨g, i, none⟩ (.slice A' n' c')) none)) := by
  obtain ⟨F, h, hF⟩ := h
  have hlo : lo ≤ w.heap.size := by have := h.ltg; omega
  have hlt := h.ltg
  obtain ⟨u, Fi, h1, h2, h3, h4, h5, h6, _⟩ := h.at_ (i := i) (c := cints zs) hi
  obtain ⟨A, c, rfl, _, _, h7⟩ := cints_rd (CS.toRd _ h3)
  subst hl
  refine ⟨A, c, Fi, h1, h7, h3, ⟨fun x hx => ⟨hF x (h4 x hx), CS.lt _ h3 x hx⟩, h5, hlt⟩, fun w' A' n' c' F' xs ho hc hs => ?_⟩
  obtain ⟨F2, k1, k2⟩ := h6 w' (cints xs) _ F' hc ho hs
  refine ⟨hc.cell h1 hlt h5, hc.frozen h2 hlt h5, ⟨F2, k1, fun y hy => ?_⟩, fun W hW gW => ?_⟩
  · rcases k2 y hy with e | e
    · exact hF y e
    · omega
  · refine Chg.new (S := fun y => y ∈ Fi ∨ y = g) gW ((hc.mono fun y hy => .inl hy).trans ((chgS w' g i _).mono fun y hy => .inr hy)) fun y hy => ?_
    rcases hy with e | rfl
    · have := hF y (h4 y e); omega
    · omega
end
theorem pub_new {lo : Nat} {ts : List Int} {v : Value} {w : World} (T : TypeId) (h : ownF lo (cints ts) v w) (hl : lo ≤ w.heap.size) : sofF lo T (cpub ts [] []) w.heap.size (w.alloc (.cells #[v, .slice none 0 0, .slice none 0 0] T)) := by
  have o1 : ownF w.heap.size (cints []) (.slice none 0 0) w := ownF.ints (n := 0) (World.ownsRow_nil _ _ _ _)
  obtain ⟨F, h1, h2⟩ := (ownL.app h.one (gbR w none) (ownL.app o1.one (gbR w none) o1.one (Nat.le_refl _)) hl).agg
  exact ⟨F, SOF.made (vs := [v, .slice none 0 0, .slice none 0 0]) (Blk.new w T _) (h1.grow (gbA (gbR _ _) _)) (fun hx => by have := h1.lt _ hx; omega), h2⟩
theorem pub_load {T : TypeId} {ts cs ds : List Int} {g lo : Nat} {w : World} (h : sofF lo T (cpub ts cs ds) g w) :
    ∃ D m d A n c B q e F, w.cell? ⟨g, 0, none⟩ = some (.slice D m d) ∧ w.cell? ⟨g, 1, none⟩ = some (.slice A n c) ∧ w.cell? ⟨g, 2, none⟩ = some (.slice B q e) ∧ AggO w (cpub ts cs ds) F (.agg #[.slice D m d, .slice A n c, .slice B q e]) ∧ (∀ x ∈ F, lo ≤ x) := by
  obtain ⟨F, h, hF⟩ := h
  obtain ⟨u0, F0, h0, _, o0, _⟩ := h.at_ (i := 0) (c := cints ts) rfl
  obtain ⟨u1, F1, h1, _, o1, _⟩ := h.at_ (i := 1) (c := cints cs) rfl
  obtain ⟨u2, F2, h2, _, o2, _⟩ := h.at_ (i := 2) (c := cints ds) rfl
  obtain ⟨D, d, rfl, _⟩ := cints_rd (CS.toRd _ o0)
  obtain ⟨A, c, rfl, _⟩ := cints_rd (CS.toRd _ o1)
  obtain ⟨B, e, rfl, _⟩ := cints_rd (CS.toRd _ o2)
  obtain ⟨vs, B0, ho⟩ := h.agg
  have hl := agg_len ho
  obtain ⟨v0, v1, v2, rfl⟩ : ∃ v0 v1 v2, vs = [v0, v1, v2] := by
    match vs, hl with
    | [a, b, c], _ => exact ⟨a, b, c, rfl⟩
  have e0 := B0.cell 0
  have e1 := B0.cell 1
  have e2 := B0.cell 2
  rw [h0] at e0
  rw [h1] at e1
  rw [h2] at e2
  simp at e0 e1 e2
  subst e0
  subst e1
  subst e2
  exact ⟨D, _, d, A, _, c, B, _, e, F, h0, h1, h2, ho, hF⟩
theorem stPublic : St Try.prog 70 3 := ⟨⟨_, Try.underlying70, rfl⟩, by kernel_rfl⟩
end Go.Proofs.Ythdfkiaoahpjpaa
