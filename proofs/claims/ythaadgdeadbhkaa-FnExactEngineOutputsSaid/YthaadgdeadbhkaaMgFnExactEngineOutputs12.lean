/-
  Structs by value: what their cells read as, whose they are.
-/
import Derived.Test.YthaadgdeadbhkaaMgFnExactEngineOutputs11
import Derived.Test.YthaadgdeadbhkaaMgFnExactEngineOutputs10
namespace Go.Proofs.Ythaadgdeadbhkaa
open Go.RowKit
theorem gdT' {w w' : World} {r : Option Nat} (h : w.drew.grownBy w' r) : w.grownBy w' r := gbT (gbD (gbR w r)) h
def AggR (w : World) (cs : List CS) (v : Value) : Prop := ∃ vs : List Value, v = .agg vs.toArray ∧ RdAll w cs vs
def AggO (w : World) (cs : List CS) (F : List Nat) (v : Value) : Prop := ∃ (vs : List Value) (Fs : List (List Nat)), v = .agg vs.toArray ∧ OwnAll w cs vs Fs ∧ F = Fs.flatten
theorem AggR.grow {w w' : World} {cs : List CS} {v : Value} (h : AggR w cs v) (hg : w.grownBy w' none) : AggR w' cs v := by
  obtain ⟨vs, h1, h2⟩ := h
  exact ⟨vs, h1, h2.grow hg⟩
theorem AggO.rd {w : World} {cs : List CS} {F : List Nat} {v : Value} (h : AggO w cs F v) : AggR w cs v := by
  obtain ⟨vs, Fs, h1, h2, _⟩ := h
  exact ⟨vs, h1, h2.rd⟩
theorem AggO.lt {w : World} {cs : List CS} {F : List Nat} {v : Value} (h : AggO w cs F v) : ∀ g ∈ F, g < w.heap.size := by
  obtain ⟨vs, Fs, h1, h2, rfl⟩ := h
  exact h2.lt
theorem AggO.kept {w w' : World} {cs : List CS} {F : List Nat} {v : Value} (h : AggO w cs F v) (hk : ∀ g ∈ F, w'.heap[g]? = w.heap[g]?) : AggO w' cs F v := by
  obtain ⟨vs, Fs, h1, h2, rfl⟩ := h
  exact ⟨vs, Fs, h1, h2.kept hk, rfl⟩
theorem AggO.grow {w w' : World} {cs : List CS} {F : List Nat} {v : Value} (h : AggO w cs F v) (hg : w.grownBy w' none) : AggO w' cs F v := h.kept fun g hg' => hg.block g (h.lt g hg') (by simp)
theorem AggO.chg {w w' : World} {cs : List CS} {F : List Nat} {S : Nat → Prop} {v : Value} (h : AggO w cs F v) (k : Chg S w w') (hs : ∀ g ∈ F, ¬ S g) : AggO w' cs F v := h.kept fun g hg' => k.block g (h.lt g hg') (hs g hg')
end Go.Proofs.Ythaadgdeadbhkaa
/-
  Rows of one's own whose cells hold rows: a cell stored anew, a cell's row changed by a callee, cells appended.
-/
namespace Go.Proofs.Ythaadgdeadbhkaa
open Go.RowKit
set_option linter.unusedVariables false
set_option linter.unusedSimpArgs false
theorem own_n {w : World} {b : Nat} {e : TypeId} {s n n' c : Nat} {a : Addr} {vs : List Value} (h : w.ownsRow b e s (.slice (some a) n c) n' vs) : n' = n := by
  rcases h.2 with ⟨h1, _⟩ | ⟨g, cap, cur, hv, _⟩
  · injection h1 with h1; cases h1
  · injection hv with _ h1; exact h1.symm
section
variable {e : TypeId} {s : Nat} {cs : List CS} {w w' : World} {F : List Nat} {v : Value}
theorem row_own_slice (hs : 0 < s) (h : (row e s cs).own w F v) (hi : 0 < cs.length) : ∃ g n c, v = .slice (some ⟨g, 0, none⟩) n c ∧ g ∈ F := by
  obtain ⟨n, vs, Fs, h1, h2, h3, h4, h5⟩ := h
  rcases h2.2 with ⟨_, h0⟩ | ⟨g, cap, cur, hv, _⟩
  · subst h0; simp at h1; rw [h1] at hi; simp at hi
  · exact ⟨g, n, cap, hv, by rw [h4, hv]; simp [Value.ownBlock]⟩
theorem row_cell {g n c : Nat} (h : (row e s cs).own w F (.slice (some ⟨g, 0, none⟩) n c)) {i : Nat} {d : CS} (hd : cs[i]? = some d) :
    ∃ u Fi, w.cell? ⟨g, i, none⟩ = some u ∧ w.frozen? ⟨g, i, none⟩ = false ∧ d.own w Fi u ∧ (∀ x ∈ Fi, x ∈ F) ∧ g ∉ Fi ∧ g ∈ F := by
  obtain ⟨n', vs, Fs, h1, h2, h3, h4, h5⟩ := h
  obtain rfl := own_n h2
  have hi := (List.getElem?_eq_some_iff.1 hd).1
  obtain ⟨d', u, Fi, e1, e2, e3, ho⟩ := h3.get hi
  rw [hd] at e1; injection e1 with e1; subst e1
  have hcell := h2.cellAt i (by rw [← h1]; exact hi)
  have hfr := h2.frozenAt i
  have hmem : ∀ x ∈ Fi, x ∈ Fs.flatten := fun x hx => mem_flat e3 hx
  have hg : g ∉ Fs.flatten := fun hx => by
    rw [h4, List.nodup_append] at h5
    exact h5.2.2 g (by simp [Value.ownBlock]) g hx rfl
  exact ⟨u, Fi, hcell.trans e2, hfr, ho, fun x hx => by rw [h4]; exact List.mem_append_right _ (hmem x hx), fun hx => hg (hmem g hx), by rw [h4]; simp [Value.ownBlock]⟩
theorem row_set {g n c : Nat} (h : (row e s cs).own w F (.slice (some ⟨g, 0, none⟩) n c)) {i : Nat} (hi : i < cs.length) {d : CS} {u : Value} {Fc : List Nat} (hu : d.own w Fc u) (hd : ∀ x ∈ Fc, x ∉ F) :
    ∃ F', (row e s (cs.set i d)).own (w.setCell ⟨g, i, none⟩ u) F' (.slice (some ⟨g, 0, none⟩) n c) ∧ (∀ x ∈ F', x ∈ F ∨ x ∈ Fc) := by
  obtain ⟨n', vs, Fs, h1, h2, h3, h4, h5⟩ := h
  obtain rfl := own_n h2
  have hst := h2.stored i u
  have hgF : g ∈ F := by rw [h4]; simp [Value.ownBlock]
  have hg : g ∉ Fs.flatten := fun hx => by
    rw [h4, List.nodup_append] at h5
    exact h5.2.2 g (by simp [Value.ownBlock]) g hx rfl
  have hgc : g ∉ Fc := fun hx => hd g hx hgF
  have hi' : i < Fs.length := by rw [h3.lf]; exact hi
  have hset := h3.set_ (i := i) hi (own_setK d hu ⟨g, i, none⟩ hgc u) (fun x hx _ => Below.heap_setCell w ⟨g, i, none⟩ u x (fun e => hg (by have e' : x = g := e; rw [e'] at hx; exact hx))) (fun x hx hx' => absurd (by rw [h4]; exact List.mem_append_right _ hx') (hd x hx))
  refine ⟨_, ⟨n', vs.set i u, Fs.set i Fc, by rw [List.length_set]; exact h1, hst.1, hset, rfl, ?_⟩, fun x hx => ?_⟩
  · rw [List.nodup_append]
    refine ⟨by simp [Value.ownBlock], hset.nd, fun a ha b hb e => ?_⟩
    simp [Value.ownBlock] at ha
    subst ha
    subst e
    rcases mem_flat_set hi' hb with h6 | h6
    · exact hg h6
    · exact hgc h6
  · rcases List.mem_append.1 hx with hx | hx
    · exact .inl (by rw [h4]; exact List.mem_append_left _ hx)
    · rcases mem_flat_set hi' hx with h6 | h6
      · exact .inl (by rw [h4]; exact List.mem_append_right _ h6)
      · exact .inr h6
theorem row_inner2 {g n c : Nat} (h : (row e s cs).own w F (.slice (some ⟨g, 0, none⟩) n c)) {i : Nat} {d : CS} (hd : cs[i]? = some d) :
    ∃ u Fi, w.cell? ⟨g, i, none⟩ = some u ∧ d.own w Fi u ∧ (∀ x ∈ Fi, x ∈ F) ∧ ∀ (w' : World) (d' : CS), Chg (fun x => x ∈ Fi) w w' → d'.own w' Fi u → (row e s (cs.set i d')).own w' F (.slice (some ⟨g, 0, none⟩) n c) := by
  obtain ⟨n', vs, Fs, h1, h2, h3, h4, h5⟩ := h
  obtain rfl := own_n h2
  have hi := (List.getElem?_eq_some_iff.1 hd).1
  obtain ⟨d0, u, Fi, e1, e2, e3, ho⟩ := h3.get hi
  rw [hd] at e1; injection e1 with e1; subst e1
  have hg : g ∉ Fs.flatten := fun hx => by
    rw [h4, List.nodup_append] at h5
    exact h5.2.2 g (by simp [Value.ownBlock]) g hx rfl
  have hmem : ∀ x ∈ Fi, x ∈ Fs.flatten := fun x hx => mem_flat e3 hx
  have hgi : g ∉ Fi := fun hx => hg (hmem g hx)
  have hi' : i < Fs.length := by rw [h3.lf]; exact hi
  have hFi : Fs.getD i [] = Fi := by rw [List.getD_eq_getElem?_getD, e3]; rfl
  have hcell := h2.cellAt i (by rw [← h1]; exact hi)
  refine ⟨u, Fi, hcell.trans e2, ho, fun x hx => by rw [h4]; exact List.mem_append_right _ (hmem x hx), fun w' d' hch ho' => ?_⟩
  have hset := h3.set_ (i := i) hi (w' := w') ho' (fun x hx hx' => hch.block x (h3.lt x hx) (by rw [hFi] at hx'; exact hx')) (fun x hx _ => by rw [hFi]; exact hx)
  have selfV : vs.set i u = vs := by
    apply List.ext_getElem?
    intro j
    rw [List.getElem?_set]
    split
    · rename_i e; subst e; rw [e2, if_pos (by rw [h3.lv]; exact hi)]
    · rfl
  have selfF : Fs.set i Fi = Fs := by
    apply List.ext_getElem?
    intro j
    rw [List.getElem?_set]
    split
    · rename_i e; subst e; first | rw [e3, if_pos hi'] | rw [e3]
    · rfl
  rw [selfV, selfF] at hset
  exact ⟨n', vs, Fs, by rw [List.length_set]; exact h1, Chg.own h2 hch (fun x hx => by simp [Value.ownBlock] at hx; subst hx; exact hgi), hset, h4, h5⟩
end
end Go.Proofs.Ythaadgdeadbhkaa
