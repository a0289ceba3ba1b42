/-
  Rows of one's own whose cells hold rows: a cell stored anew, a cell's row changed by a callee, cells appended.
-/
import Derived.Test.YtapljpcpmdlppaaMgFnArithmetics26
import Derived.Test.YtapljpcpmdlppaaMgFnArithmetics12
namespace Go.Proofs.Ytapljpcpmdlppaa
open Go.RowKit
set_option linter.unusedVariables false
set_option linter.unusedSimpArgs false
theorem own_n {w : World} {b : Nat} {e : TypeId} {s n n' c : Nat} {a : Addr} {vs : List Value} (h : w.ownsRow b e s (.slice (some a) n c) n' vs) : n' = n := by
  rcases h.2 with ⟨h1, _⟩ | ⟨g, cap, cur, hv, _⟩
  · injection h1 with h1; cases h1
  · injection hv with _ h1; exact h1.symm
section
variable {e : TypeId} {s : Nat} {cs : List CS} {w w' : World} {F : List Nat} {v : Value}
theorem row_own_slice (hs : 0 < s) (h : (row e s cs).own w F v) (hi : 0 < cs.length) : ∃ g n c, v = .slice (some ⟨g, 0, none⟩) n c ∧ g ∈ F := by
  obtain ⟨n, vs, Fs, h1, h2, h3, h4, h5⟩ := h
  rcases h2.2 with ⟨_, h0⟩ | ⟨g, cap, cur, hv, _⟩
  · subst h0; simp at h1; rw [h1] at hi; simp at hi
  · exact ⟨g, n, cap, hv, by rw [h4, hv]; simp [Value.ownBlock]⟩
/-- Cell i: what it holds, whose it is. -/
theorem row_cell {g n c : Nat} (h : (row e s cs).own w F (.slice (some ⟨g, 0, none⟩) n c)) {i : Nat} {d : CS} (hd : cs[i]? = some d) :
    ∃ u Fi, w.cell? ⟨g, i, none⟩ = some u ∧ w.frozen? ⟨g, i, none⟩ = false ∧ d.own w Fi u ∧ (∀ x ∈ Fi, x ∈ F) ∧ g ∉ Fi ∧ g ∈ F := by
  obtain ⟨n', vs, Fs, h1, h2, h3, h4, h5⟩ := h
  obtain rfl := own_n h2
  have hi := (List.getElem?_eq_some_iff.1 hd).1
  obtain ⟨d', u, Fi, e1, e2, e3, ho⟩ := h3.get hi
  rw [hd] at e1; injection e1 with e1; subst e1
  have hcell := h2.cellAt i (by rw [← h1]; exact hi)
  have hfr := h2.frozenAt i
  have hmem : ∀ x ∈ Fi, x ∈ Fs.flatten := fun x hx => mem_flat e3 hx
  have hg : g ∉ Fs.flatten := fun hx => by
    rw [h4, List.nodup_append] at h5
    exact h5.2.2 g (by simp [Value.ownBlock]) g hx rfl
  exact ⟨u, Fi, hcell.trans e2, hfr, ho, fun x hx => by rw [h4]; exact List.mem_append_right _ (hmem x hx), fun hx => hg (hmem g hx), by rw [h4]; simp [Value.ownBlock]⟩
theorem row_set {g n c : Nat} (h : (row e s cs).own w F (.slice (some ⟨g, 0, none⟩) n c)) {i : Nat} (hi : i < cs.length) {d : CS} {u : Value} {Fc : List Nat} (hu : d.own w Fc u) (hd : ∀ x ∈ Fc, x ∉ F) :
    ∃ F', (row e s (cs.set i d)).own (w.setCell ⟨g, i, none⟩ u) F' (.slice (some ⟨g, 0, none⟩) n c) ∧ (∀ x ∈ F', x ∈ F ∨ x ∈ Fc) := by
  obtain ⟨n', vs, Fs, h1, h2, h3, h4, h5⟩ := h
  obtain rfl := own_n h2
  have hst := h2.stored i u
  have hgF : g ∈ F := by rw [h4]; simp [Value.ownBlock]
  have hg : g ∉ Fs.flatten := fun hx => by
    rw [h4, List.nodup_append] at h5
    exact h5.2.2 g (by simp [Value.ownBlock]) g hx rfl
  have hgc : g ∉ Fc := fun hx => hd g hx hgF
  have hi' : i < Fs.length := by rw [h3.lf]; exact hi
  have hset := h3.set_ (i := i) hi (own_setK d hu ⟨g, i, none⟩ hgc u) (fun x hx _ => Below.heap_setCell w ⟨g, i, none⟩ u x (fun e => hg (by have e' : x = g := e; rw [e'] at hx; exact hx))) (fun x hx hx' => absurd (by rw [h4]; exact List.mem_append_right _ hx') (hd x hx))
  refine ⟨_, ⟨n', vs.set i u, Fs.set i Fc, by rw [List.length_set]; exact h1, hst.1, hset, rfl, ?_⟩, fun x hx => ?_⟩
  · rw [List.nodup_append]
    refine ⟨by simp [Value.ownBlock], hset.nd, fun a ha b hb e => ?_⟩
    simp [Value.ownBlock] at ha
    subst ha
    subst e
    rcases mem_flat_set hi' hb with h6 | h6
    · exact hg h6
    · exact hgc h6
  · rcases List.mem_append.1 hx with hx | hx
    · exact .inl (by rw [h4]; exact List.mem_append_left _ hx)
    · rcases mem_flat_set hi' hx with h6 | h6
      · exact .inl (by rw [h4]; exact List.mem_append_right _ h6)
      · exact .inr h6
/-- A callee has changed the row of cell i alone. -/
theorem row_inner {g n c : Nat} (h : (row e s cs).own w F (.slice (some ⟨g, 0, none⟩) n c)) {i : Nat} {d : CS} (hd : cs[i]? = some d) :
    ∃ u Fi, w.cell? ⟨g, i, none⟩ = some u ∧ d.own w Fi u ∧ (∀ x ∈ Fi, x ∈ F) ∧ ∀ (w' : World) (d' : CS) (Fi' : List Nat), Chg (fun x => x ∈ Fi) w w' → d'.own w' Fi' u → (∀ x ∈ Fi', x ∈ Fi) →
      ∃ F', (row e s (cs.set i d')).own w' F' (.slice (some ⟨g, 0, none⟩) n c) ∧ (∀ x ∈ F', x ∈ F) := by
  obtain ⟨n', vs, Fs, h1, h2, h3, h4, h5⟩ := h
  obtain rfl := own_n h2
  have hi := (List.getElem?_eq_some_iff.1 hd).1
  obtain ⟨d0, u, Fi, e1, e2, e3, ho⟩ := h3.get hi
  rw [hd] at e1; injection e1 with e1; subst e1
  have hg : g ∉ Fs.flatten := fun hx => by
    rw [h4, List.nodup_append] at h5
    exact h5.2.2 g (by simp [Value.ownBlock]) g hx rfl
  have hmem : ∀ x ∈ Fi, x ∈ Fs.flatten := fun x hx => mem_flat e3 hx
  have hgi : g ∉ Fi := fun hx => hg (hmem g hx)
  have hi' : i < Fs.length := by rw [h3.lf]; exact hi
  have hFi : Fs.getD i [] = Fi := by rw [List.getD_eq_getElem?_getD, e3]; rfl
  have hcell := h2.cellAt i (by rw [← h1]; exact hi)
  refine ⟨u, Fi, hcell.trans e2, ho, fun x hx => by rw [h4]; exact List.mem_append_right _ (hmem x hx), fun w' d' Fi' hch ho' hsub => ?_⟩
  have hset := h3.set_ (i := i) hi (w' := w') ho' (fun x hx hx' => hch.block x (h3.lt x hx) (by rw [hFi] at hx'; exact hx')) (fun x hx _ => by rw [hFi]; exact hsub x hx)
  have hvs : vs.set i u = vs := by
    apply List.ext_getElem?
    intro j
    rw [List.getElem?_set]
    split
    · rename_i e; subst e; rw [e2, if_pos (by rw [h3.lv]; exact hi)]
    · rfl
  rw [hvs] at hset
  refine ⟨_, ⟨n', vs, Fs.set i Fi', by rw [List.length_set]; exact h1, Chg.own h2 hch (fun x hx => by simp [Value.ownBlock] at hx; subst hx; exact hgi), hset, rfl, ?_⟩, fun x hx => ?_⟩
  · rw [List.nodup_append]
    refine ⟨by simp [Value.ownBlock], hset.nd, fun a ha b hb e => ?_⟩
    simp [Value.ownBlock] at ha
    subst ha
    subst e
    rcases mem_flat_set hi' hb with h6 | h6
    · exact hg h6
    · exact hgi (hsub _ h6)
  · rcases List.mem_append.1 hx with hx | hx
    · rw [h4]; exact List.mem_append_left _ hx
    · rw [h4]
      rcases mem_flat_set hi' hx with h6 | h6
      · exact List.mem_append_right _ h6
      · exact List.mem_append_right _ (hmem x (hsub x h6))
theorem row_inner2 {g n c : Nat} (h : (row e s cs).own w F (.slice (some ⟨g, 0, none⟩) n c)) {i : Nat} {d : CS} (hd : cs[i]? = some d) :
    ∃ u Fi, w.cell? ⟨g, i, none⟩ = some u ∧ d.own w Fi u ∧ (∀ x ∈ Fi, x ∈ F) ∧ ∀ (w' : World) (d' : CS), Chg (fun x => x ∈ Fi) w w' → d'.own w' Fi u → (row e s (cs.set i d')).own w' F (.slice (some ⟨g, 0, none⟩) n c) := by
  obtain ⟨n', vs, Fs, h1, h2, h3, h4, h5⟩ := h
  obtain rfl := own_n h2
  have hi := (List.getElem?_eq_some_iff.1 hd).1
  obtain ⟨d0, u, Fi, e1, e2, e3, ho⟩ := h3.get hi
  rw [hd] at e1; injection e1 with e1; subst e1
  have hg : g ∉ Fs.flatten := fun hx => by
    rw [h4, List.nodup_append] at h5
    exact h5.2.2 g (by simp [Value.ownBlock]) g hx rfl
  have hmem : ∀ x ∈ Fi, x ∈ Fs.flatten := fun x hx => mem_flat e3 hx
  have hgi : g ∉ Fi := fun hx => hg (hmem g hx)
  have hi' : i < Fs.length := by rw [h3.lf]; exact hi
  have hFi : Fs.getD i [] = Fi := by rw [List.getD_eq_getElem?_getD, e3]; rfl
  have hcell := h2.cellAt i (by rw [← h1]; exact hi)
  refine ⟨u, Fi, hcell.trans e2, ho, fun x hx => by rw [h4]; exact List.mem_append_right _ (hmem x hx), fun w' d' hch ho' => ?_⟩
  have hset := h3.set_ (i := i) hi (w' := w') ho' (fun x hx hx' => hch.block x (h3.lt x hx) (by rw [hFi] at hx'; exact hx')) (fun x hx _ => by rw [hFi]; exact hx)
  have selfV : vs.set i u = vs := by
    apply List.ext_getElem?
    intro j
    rw [List.getElem?_set]
    split
    · rename_i e; subst e; rw [e2, if_pos (by rw [h3.lv]; exact hi)]
    · rfl
  have selfF : Fs.set i Fi = Fs := by
    apply List.ext_getElem?
    intro j
    rw [List.getElem?_set]
    split
    · rename_i e; subst e; first | rw [e3, if_pos hi'] | rw [e3]
    · rfl
  rw [selfV, selfF] at hset
  exact ⟨n', vs, Fs, by rw [List.length_set]; exact h1, Chg.own h2 hch (fun x hx => by simp [Value.ownBlock] at hx; subst hx; exact hgi), hset, h4, h5⟩
end
end Go.Proofs.Ytapljpcpmdlppaa
