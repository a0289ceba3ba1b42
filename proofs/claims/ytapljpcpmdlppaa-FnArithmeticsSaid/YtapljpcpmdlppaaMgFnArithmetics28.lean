/-
  A cell of a row of rows: its row has been appended to (in place or anew), and the new slice stored.
-/
import Derived.Test.YtapljpcpmdlppaaMgFnArithmetics27
namespace Go.Proofs.Ytapljpcpmdlppaa
open Go.RowKit
set_option linter.unusedVariables false
set_option linter.unusedSimpArgs false
section
variable {e : TypeId} {s : Nat} {cs : List CS} {w w' : World} {F : List Nat}
theorem row_app {g n c : Nat} (h : (row e s cs).own w F (.slice (some ⟨g, 0, none⟩) n c)) {i : Nat} {d : CS} (hd : cs[i]? = some d) :
    ∃ u Fi, w.cell? ⟨g, i, none⟩ = some u ∧ w.frozen? ⟨g, i, none⟩ = false ∧ d.own w Fi u ∧ (∀ x ∈ Fi, x ∈ F) ∧ g ∉ Fi ∧ g ∈ F ∧ ∀ (w' : World) (d' : CS) (u' : Value) (Fc : List Nat), Chg (fun x => x ∈ Fi) w w' → d'.own w' Fc u' → (∀ x ∈ Fc, x ∈ Fi ∨ w.heap.size ≤ x) →
      ∃ F', (row e s (cs.set i d')).own (w'.setCell ⟨g, i, none⟩ u') F' (.slice (some ⟨g, 0, none⟩) n c) ∧ ∀ x ∈ F', x ∈ F ∨ w.heap.size ≤ x := by
  obtain ⟨n', vs, Fs, h1, h2, h3, h4, h5⟩ := h
  obtain rfl := own_n h2
  have hi := (List.getElem?_eq_some_iff.1 hd).1
  obtain ⟨d0, u, Fi, e1, e2, e3, ho⟩ := h3.get hi
  rw [hd] at e1; injection e1 with e1; subst e1
  have hg : g ∉ Fs.flatten := fun hx => by
    rw [h4, List.nodup_append] at h5
    exact h5.2.2 g (by simp [Value.ownBlock]) g hx rfl
  have hmem : ∀ x ∈ Fi, x ∈ Fs.flatten := fun x hx => mem_flat e3 hx
  have hgi : g ∉ Fi := fun hx => hg (hmem g hx)
  have hi' : i < Fs.length := by rw [h3.lf]; exact hi
  have hFi : Fs.getD i [] = Fi := by rw [List.getD_eq_getElem?_getD, e3]; rfl
  have hcell := h2.cellAt i (by rw [← h1]; exact hi)
  have hgl := (h2.lt g rfl).2
  refine ⟨u, Fi, hcell.trans e2, h2.frozenAt i, ho, fun x hx => by rw [h4]; exact List.mem_append_right _ (hmem x hx), hgi, by rw [h4]; simp [Value.ownBlock], fun w' d' u' Fc hch ho' hsub => ?_⟩
  have hset := h3.set_ (i := i) hi (w' := w') ho' (fun x hx hx' => hch.block x (h3.lt x hx) (by rw [hFi] at hx'; exact hx')) (fun x hx hx' => by
    rw [hFi]
    rcases hsub x hx with h6 | h6
    · exact h6
    · have := h3.lt x hx'; omega)
  have h2' := Chg.own h2 hch (fun x hx => by simp [Value.ownBlock] at hx; subst hx; exact hgi)
  have hst := (h2'.stored i u').1
  have hgN : g ∉ (Fs.set i Fc).flatten := fun hx => by
    rcases mem_flat_set hi' hx with h6 | h6
    · exact hg h6
    · rcases hsub _ h6 with h7 | h7
      · exact hgi h7
      · omega
  have hset' := hset.kept (w' := w'.setCell ⟨g, i, none⟩ u') (fun x hx => Below.heap_setCell w' ⟨g, i, none⟩ u' x (fun e => hgN (by have e' : x = g := e; rw [e'] at hx; exact hx)))
  refine ⟨_, ⟨n', vs.set i u', Fs.set i Fc, by rw [List.length_set]; exact h1, hst, ?_, rfl, ?_⟩, fun x hx => ?_⟩
  · exact hset'
  · rw [List.nodup_append]
    refine ⟨by simp [Value.ownBlock], hset.nd, fun a ha b hb e => ?_⟩
    simp [Value.ownBlock] at ha
    subst ha
    subst e
    exact hgN hb
  · rcases List.mem_append.1 hx with hx | hx
    · exact .inl (by rw [h4]; exact List.mem_append_left _ hx)
    · rcases mem_flat_set hi' hx with h6 | h6
      · exact .inl (by rw [h4]; exact List.mem_append_right _ h6)
      · rcases hsub x h6 with h7 | h7
        · exact .inl (by rw [h4]; exact List.mem_append_right _ (hmem x h7))
        · exact .inr h7
end
end Go.Proofs.Ytapljpcpmdlppaa
