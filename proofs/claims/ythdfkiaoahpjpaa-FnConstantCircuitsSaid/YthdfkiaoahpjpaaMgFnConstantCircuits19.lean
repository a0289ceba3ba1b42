/-
  A struct's block of one's own: what its cells hold, whose blocks these are; a cell stored anew, a cell's row changed.
-/
import Derived.Test.YthdfkiaoahpjpaaMgFnConstantCircuits17
import Derived.Test.YthdfkiaoahpjpaaMgFnConstantCircuits18
namespace Go.Proofs.Ythdfkiaoahpjpaa
open Go.RowKit
set_option linter.unusedVariables false
set_option linter.unusedSimpArgs false
def SOF (T : TypeId) (cs : List CS) (g : Nat) (F : List Nat) (w : World) : Prop := ∃ vs Fs, Blk w g T vs.toArray ∧ OwnAll w cs vs Fs ∧ F = Fs.flatten ∧ g ∉ F
section
variable {T : TypeId} {cs : List CS} {g : Nat} {F : List Nat} {w w' : World}
theorem SOF.chg {S : Nat → Prop} (h : SOF T cs g F w) (k : Chg S w w') (hF : ∀ x ∈ F, ¬ S x) (hg : ¬ S g) : SOF T cs g F w' := by
  obtain ⟨vs, Fs, h1, h2, rfl, h4⟩ := h
  exact ⟨vs, Fs, h1.chg k hg, h2.kept fun x hx => k.block x (h2.lt x hx) (hF x hx), rfl, h4⟩
theorem SOF.grow (h : SOF T cs g F w) (k : w.grownBy w' none) : SOF T cs g F w' := h.chg (S := fun _ => False) (Chg.of k (by simp)) (fun _ _ => id) id
theorem SOF.lt (h : SOF T cs g F w) : ∀ x ∈ F, x < w.heap.size := by
  obtain ⟨vs, Fs, h1, h2, rfl, h4⟩ := h
  exact h2.lt
theorem SOF.ltg (h : SOF T cs g F w) : g < w.heap.size := by
  obtain ⟨vs, Fs, h1, h2, rfl, h4⟩ := h
  exact h1.lt
theorem SOF.out (h : SOF T cs g F w) : g ∉ F := by
  obtain ⟨vs, Fs, h1, h2, rfl, h4⟩ := h
  exact h4
theorem SOF.agg (h : SOF T cs g F w) : ∃ vs : List Value, Blk w g T vs.toArray ∧ AggO w cs F (.agg vs.toArray) := by
  obtain ⟨vs, Fs, h1, h2, rfl, h4⟩ := h
  exact ⟨vs, h1, vs, Fs, rfl, h2, rfl⟩
theorem SOF.made {vs : List Value} (B : Blk w g T vs.toArray) (h : AggO w cs F (.agg vs.toArray)) (hn : g ∉ F) : SOF T cs g F w := by
  obtain ⟨us, Fs, e, h1, rfl⟩ := h
  injection e with e
  have e : us = vs := by have := congrArg Array.toList e; simpa using this.symm
  subst e
  exact ⟨us, Fs, B, h1, rfl, hn⟩
theorem SOF.at_ (h : SOF T cs g F w) {i : Nat} {c : CS} (hc : cs[i]? = some c) :
    ∃ u Fi, w.cell? ⟨g, i, none⟩ = some u ∧ w.frozen? ⟨g, i, none⟩ = false ∧ c.own w Fi u ∧ (∀ x ∈ Fi, x ∈ F) ∧ g ∉ Fi ∧
      (∀ (w' : World) (c' : CS) (u' : Value) (Fi' : List Nat), Chg (fun x => x ∈ Fi) w w' → c'.own w' Fi' u' → (∀ x ∈ Fi', x ∈ Fi ∨ w.heap.size ≤ x) → ∃ F', SOF T (cs.set i c') g F' (w'.setCell ⟨g, i, none⟩ u') ∧ ∀ x ∈ F', x ∈ F ∨ w.heap.size ≤ x) ∧
      (∀ (w' : World) (c' : CS) (Fi' : List Nat), Chg (fun x => x ∈ Fi) w w' → c'.own w' Fi' u → (∀ x ∈ Fi', x ∈ Fi ∨ w.heap.size ≤ x) → ∃ F', SOF T (cs.set i c') g F' w' ∧ ∀ x ∈ F', x ∈ F ∨ w.heap.size ≤ x) := by
  obtain ⟨vs, Fs, h1, h2, rfl, h4⟩ := h
  have hi := (List.getElem?_eq_some_iff.1 hc).1
  obtain ⟨c0, u, Fi, e1, e2, e3, ho⟩ := h2.get hi
  rw [hc] at e1; injection e1 with e1; subst e1
  have hi' : i < Fs.length := by rw [h2.lf]; exact hi
  have hFi : Fs.getD i [] = Fi := by rw [List.getD_eq_getElem?_getD, e3]; rfl
  have hmem : ∀ x ∈ Fi, x ∈ Fs.flatten := fun x hx => mem_flat e3 hx
  have hgi : g ∉ Fi := fun hx => h4 (hmem g hx)
  have hcell := h1.cell i
  have hlv := h2.lv
  have hgl := h1.lt
  have hset : ∀ (w' : World) (c' : CS) (u' : Value) (Fi' : List Nat), Chg (fun x => x ∈ Fi) w w' → c'.own w' Fi' u' → (∀ x ∈ Fi', x ∈ Fi ∨ w.heap.size ≤ x) → OwnAll w' (cs.set i c') (vs.set i u') (Fs.set i Fi') ∧ (∀ x ∈ (Fs.set i Fi').flatten, x ∈ Fs.flatten ∨ w.heap.size ≤ x) ∧ g ∉ (Fs.set i Fi').flatten := fun w' c' u' Fi' hch ho' hsub => by
    have a1 := h2.set_ (i := i) hi (w' := w') ho' (fun x hx hx' => hch.block x (h2.lt x hx) (by rw [hFi] at hx'; exact hx')) (fun x hx hx' => by
      rw [hFi]
      rcases hsub x hx with h6 | h6
      · exact h6
      · have := h2.lt x hx'; omega)
    have a2 : ∀ x ∈ (Fs.set i Fi').flatten, x ∈ Fs.flatten ∨ w.heap.size ≤ x := fun x hx => by
      rcases mem_flat_set hi' hx with h6 | h6
      · exact .inl h6
      · exact (hsub x h6).imp (hmem x) id
    refine ⟨a1, a2, fun hx => ?_⟩
    rcases a2 g hx with h6 | h6
    · exact h4 h6
    · omega
  refine ⟨u, Fi, ?_, h1.frozen i, ho, hmem, hgi, fun w' c' u' Fi' hch ho' hsub => ?_, fun w' c' Fi' hch ho' hsub => ?_⟩
  · rw [hcell]
    simpa using e2
  · obtain ⟨a1, a2, a3⟩ := hset w' c' u' Fi' hch ho' hsub
    have hb := ((h1.chg hch hgi).set_ i u')
    refine ⟨_, ⟨vs.set i u', Fs.set i Fi', by simpa using hb, a1.kept fun x hx => Below.heap_setCell w' ⟨g, i, none⟩ u' x (fun e => a3 (by have e' : x = g := e; rw [e'] at hx; exact hx)), rfl, a3⟩, a2⟩
  · obtain ⟨a1, a2, a3⟩ := hset w' c' u Fi' hch ho' hsub
    have hvs : vs.set i u = vs := by
      apply List.ext_getElem?
      intro j
      rw [List.getElem?_set]
      split
      · rename_i e; subst e; rw [e2, if_pos (by rw [hlv]; exact hi)]
      · rfl
    rw [hvs] at a1
    exact ⟨_, ⟨vs, Fs.set i Fi', h1.chg hch hgi, a1, rfl, a3⟩, a2⟩
theorem SOF.put (h : SOF T cs g F w) {i : Nat} {c c' : CS} {u' : Value} (hc : cs[i]? = some c) (ho : ∀ w, c'.own w [] u') : ∃ F', SOF T (cs.set i c') g F' (w.setCell ⟨g, i, none⟩ u') ∧ ∀ x ∈ F', x ∈ F ∨ w.heap.size ≤ x := by
  obtain ⟨u, Fi, _, _, _, _, _, h6, _⟩ := h.at_ hc
  exact h6 w c' u' [] (Chg.refl _ _) (ho w) (by simp)
end
theorem chain_st {P : List Value → World → Prop} {ts : List Tmp} (h : ∀ l w w', P l w → w.grownBy w' none → P l w') : stableF ⟨ts, P⟩ := fun l w w' a b => h l w w' a b
theorem Chg.join {S T : Nat → Prop} {a b c : World} (h : Chg S a b) (k : Chg T b c) (hT : ∀ i, T i → S i ∨ a.heap.size ≤ i) : Chg S a c :=
  ⟨k.os.trans h.os, k.tape.trans h.tape, k.output.trans h.output, Nat.le_trans h.size k.size, fun i hi hs => (k.block i (Nat.lt_of_lt_of_le hi h.size) (fun ht => by
    rcases hT i ht with h1 | h1
    · exact hs h1
    · omega)).trans (h.block i hi hs)⟩
theorem gb6 {ops : Array Oper} {W w : World} {g k K : Nat} (hG : Chg (fun b => ∃ s, (s, b) ∈ [(K, g)]) W w) (pre : ∀ b, b < W.heap.size → (∀ s, (s, b) ∈ [(K, g)] → aheadB ops s k = true) → w.heap[b]? = W.heap[b]?) (ha : aheadB ops K k = true) : W.grownBy w none :=
  ⟨hG.os, hG.tape, hG.output, hG.size, fun i hi _ => pre i hi fun s hs => by
    simp only [List.mem_cons, List.not_mem_nil, or_false, Prod.mk.injEq] at hs
    rw [hs.1]; exact ha⟩
theorem knowsF_get {T : List Fact} {f : Tmp → Value} {w : World} : ∀ {l : List Fact} {i : Nat} {F : Fact}, knowsF T f w l → l[i]? = some F → F.at_ f w
  | [], _, _, _, h => by simp at h
  | G :: l, 0, F, hk, h => by simp at h; subst h; exact hk.1
  | G :: l, i + 1, F, hk, h => knowsF_get (i := i) hk.2 (by simpa using h)
def ownF (lo : Nat) (c : CS) (v : Value) (w : World) : Prop := ∃ F, c.own w F v ∧ ∀ x ∈ F, lo ≤ x
def aggF (lo : Nat) (cs : List CS) (v : Value) (w : World) : Prop := ∃ F, AggO w cs F v ∧ ∀ x ∈ F, lo ≤ x
theorem ownF_st {lo : Nat} {c : CS} : stable (ownF lo c) := fun v w w' ⟨F, h1, h2⟩ hg => ⟨F, own_growK _ h1 hg, h2⟩
theorem aggF_st {lo : Nat} {cs : List CS} : stable (aggF lo cs) := fun v w w' ⟨F, h1, h2⟩ hg => ⟨F, h1.grow hg, h2⟩
theorem ownF.grow {lo : Nat} {c : CS} {v : Value} {w w' : World} (h : ownF lo c v w) (hg : w.grownBy w' none) : ownF lo c v w' := ownF_st v w w' h hg
theorem aggF.grow {lo : Nat} {cs : List CS} {v : Value} {w w' : World} (h : aggF lo cs v w) (hg : w.grownBy w' none) : aggF lo cs v w' := aggF_st v w w' h hg
theorem ownF.lo {lo lo' : Nat} {c : CS} {v : Value} {w : World} (h : ownF lo c v w) (hl : lo' ≤ lo) : ownF lo' c v w := by
  obtain ⟨F, h1, h2⟩ := h
  exact ⟨F, h1, fun x hx => Nat.le_trans hl (h2 x hx)⟩
theorem aggF.lo {lo lo' : Nat} {cs : List CS} {v : Value} {w : World} (h : aggF lo cs v w) (hl : lo' ≤ lo) : aggF lo' cs v w := by
  obtain ⟨F, h1, h2⟩ := h
  exact ⟨F, h1, fun x hx => Nat.le_trans hl (h2 x hx)⟩
theorem aggF.rd {lo : Nat} {cs : List CS} {v : Value} {w : World} (h : aggF lo cs v w) : AggR w cs v := by
  obtain ⟨F, h1, _⟩ := h
  exact h1.rd
theorem ownF.ints {lo n : Nat} {xs : List Int} {v : Value} {w : World} (h : w.ownsRow lo 3 1 v n (xs.map (Value.int .i64))) : ownF lo (cints xs) v w :=
  ⟨_, cints_own h, fun x hx => (h.lt x (by simpa using hx)).1⟩
def ownL (lo : Nat) (cs : List CS) (vs : List Value) (w : World) : Prop := ∃ Fs, OwnAll w cs vs Fs ∧ ∀ x ∈ Fs.flatten, lo ≤ x
theorem ownL.grow {lo : Nat} {cs : List CS} {vs : List Value} {w w' : World} (h : ownL lo cs vs w) (hg : w.grownBy w' none) : ownL lo cs vs w' := by
  obtain ⟨Fs, h1, h2⟩ := h
  exact ⟨Fs, ownAll_growK h1 hg, h2⟩
theorem aggF.all {lo : Nat} {cs : List CS} {vs : List Value} {w : World} (h : aggF lo cs (.agg vs.toArray) w) : ownL lo cs vs w := by
  obtain ⟨F, ⟨us, Fs, e, h1, rfl⟩, h2⟩ := h
  injection e with e
  have e : us = vs := by have := congrArg Array.toList e; simpa using this.symm
  subst e
  exact ⟨Fs, h1, h2⟩
theorem ownL.agg {lo : Nat} {cs : List CS} {vs : List Value} {w : World} (h : ownL lo cs vs w) : aggF lo cs (.agg vs.toArray) w := by
  obtain ⟨Fs, h1, h2⟩ := h
  exact ⟨_, ⟨vs, Fs, rfl, h1, rfl⟩, h2⟩
theorem ownL.pl {lo : Nat} {x : Value} {cs : List CS} {vs : List Value} {w : World} (h : ownL lo cs vs w) (hx : x.oneCell' = true) : ownL lo (CS.pl x :: cs) (x :: vs) w := by
  obtain ⟨Fs, h1, h2⟩ := h
  exact ⟨[] :: Fs, OwnAll.cons ⟨rfl, rfl, hx⟩ h1 (by simp), fun x hx => h2 x (by simpa using hx)⟩
theorem ownL.nil (lo : Nat) (w : World) : ownL lo [] [] w := ⟨[], OwnAll.nil w, by simp⟩
def sofF (lo : Nat) (T : TypeId) (cs : List CS) (g : Nat) (w : World) : Prop := ∃ F, SOF T cs g F w ∧ ∀ x ∈ F, lo ≤ x
theorem sofF.grow {lo : Nat} {T : TypeId} {cs : List CS} {g : Nat} {w w' : World} (h : sofF lo T cs g w) (hg : w.grownBy w' none) : sofF lo T cs g w' := by
  obtain ⟨F, h1, h2⟩ := h
  exact ⟨F, h1.grow hg, h2⟩
theorem SOF.store {T : TypeId} {cs : List CS} {g : Nat} {F : List Nat} {w : World} {us : List Value} {old : Array Value} (B : Blk w g T old) (hl : old.size = us.length) (h : AggO w cs F (.agg us.toArray)) (hn : g ∉ F) : SOF T cs g F (setCells w g 0 us) :=
  SOF.made (blk_setCells B us hl) (h.chg (chg_setCells g us 0 w) (fun x hx e => hn (e ▸ hx))) hn
theorem agg_len {w : World} {cs : List CS} {F : List Nat} {vs : List Value} (h : AggO w cs F (.agg vs.toArray)) : vs.length = cs.length := by
  obtain ⟨us, Fs, e, h1, rfl⟩ := h
  injection e with e
  have e : us = vs := by have := congrArg Array.toList e; simpa using this.symm
  subst e
  exact h1.lv
def tyd (Ts : List TypeId) (c : CS) : Prop := ∀ (w : World) (F : List Nat) (v : Value), c.own w F v → ∀ x ∈ F, ∃ cur T z, w.heap[x]? = some (.cells cur T z) ∧ T ∈ Ts
theorem tyd_pl {Ts : List TypeId} {x : Value} : tyd Ts (CS.pl x) := fun w F v h y hy => by
  rw [h.1] at hy
  cases hy
theorem ownAll_ty {Ts : List TypeId} {w : World} {cs : List CS} {vs : List Value} {Fs : List (List Nat)} (h : OwnAll w cs vs Fs) (hc : ∀ c ∈ cs, tyd Ts c) : ∀ x ∈ Fs.flatten, ∃ cur T z, w.heap[x]? = some (.cells cur T z) ∧ T ∈ Ts := by
  intro x hx
  obtain ⟨F, hF, hxF⟩ := List.mem_flatten.1 hx
  obtain ⟨i, hi⟩ := List.mem_iff_getElem?.1 hF
  have hl := (List.getElem?_eq_some_iff.1 hi).1
  obtain ⟨c, v, F', e1, e2, e3, ho⟩ := h.get (i := i) (by rw [← h.lf]; exact hl)
  rw [hi] at e3
  injection e3 with e3
  subst e3
  exact hc c (List.mem_of_getElem? e1) w _ _ ho x hxF
theorem tyd_row {Ts : List TypeId} {e : TypeId} {s : Nat} {cs : List CS} (he : e ∈ Ts) (hc : ∀ c ∈ cs, tyd Ts c) : tyd Ts (row e s cs) := by
  intro w F v h x hx
  obtain ⟨n, vs, Fs, h1, h2, h3, h4, h5⟩ := h
  rw [h4] at hx
  rcases List.mem_append.1 hx with hx | hx
  · have hx : v.ownBlock = some x := by simpa using hx
    rcases h2.2 with ⟨e1, _⟩ | ⟨g, cap, cur, hv, _, hg, _⟩
    · rw [e1] at hx; cases hx
    · rw [hv] at hx
      have : g = x := by simpa [Value.ownBlock] using hx
      subst this
      exact ⟨_, _, _, hg, he⟩
  · exact ownAll_ty h3 hc x hx
theorem tyd_plst {Ts : List TypeId} {α : Type} {e : TypeId} {s : Nat} {f : α → List Value} {xs : List α} (he : e ∈ Ts) : tyd Ts (plst e s f xs) := tyd_row he fun c hc => by
  obtain ⟨x, _, hx⟩ := List.mem_flatMap.1 hc
  obtain ⟨u, _, rfl⟩ := List.mem_map.1 hx
  exact tyd_pl
theorem agg_ty {Ts : List TypeId} {w : World} {cs : List CS} {F : List Nat} {v : Value} {g : Nat} {T : TypeId} {us : Array Value} (hc : ∀ c ∈ cs, tyd Ts c) (h : AggO w cs F v) (B : Blk w g T us) (hT : T ∉ Ts) : g ∉ F := by
  obtain ⟨vs, Fs, rfl, h1, rfl⟩ := h
  intro hg
  obtain ⟨cur, T', z, e, hT'⟩ := ownAll_ty h1 hc g hg
  unfold Blk at B
  rw [B] at e
  injection e with e
  injection e with _ e2 _
  exact hT (e2 ▸ hT')
theorem own_ty {Ts : List TypeId} {w : World} {c : CS} {F : List Nat} {v : Value} {g : Nat} {T : TypeId} {us : Array Value} (hc : tyd Ts c) (h : c.own w F v) (B : Blk w g T us) (hT : T ∉ Ts) : g ∉ F := by
  intro hg
  obtain ⟨cur, T', z, e, hT'⟩ := hc w F v h g hg
  unfold Blk at B
  rw [B] at e
  injection e with e
  injection e with _ e2 _
  exact hT (e2 ▸ hT')
end Go.Proofs.Ythdfkiaoahpjpaa
