/-
  A struct's block of one's own: what its cells hold, whose blocks these are; a cell stored anew, a cell's row changed.
-/
import Derived.Test.YthaadgdeadbhkaaMgFnCosts16
import Derived.Test.YthaadgdeadbhkaaMgFnCosts6
import Derived.Test.YthaadgdeadbhkaaMgFnCosts10
import Derived.Test.YthaadgdeadbhkaaMgFnCosts3
namespace Go.Proofs.Ythaadgdeadbhkaa
open Go.RowKit
set_option linter.unusedVariables false
set_option linter.unusedSimpArgs false
def SOF (T : TypeId) (cs : List CS) (g : Nat) (F : List Nat) (w : World) : Prop := ∃ vs Fs, Blk w g T vs.toArray ∧ OwnAll w cs vs Fs ∧ F = Fs.flatten ∧ g ∉ F
section
variable {T : TypeId} {cs : List CS} {g : Nat} {F : List Nat} {w w' : World}
theorem SOF.chg {S : Nat → Prop} (h : SOF T cs g F w) (k : Chg S w w') (hF : ∀ x ∈ F, ¬ S x) (hg : ¬ S g) : SOF T cs g F w' := by
  obtain ⟨vs, Fs, h1, h2, rfl, h4⟩ := h
  exact ⟨vs, Fs, h1.chg k hg, h2.kept fun x hx => k.block x (h2.lt x hx) (hF x hx), rfl, h4⟩
theorem SOF.grow (h : SOF T cs g F w) (k : w.grownBy w' none) : SOF T cs g F w' := h.chg (S := fun _ => False) (Chg.of k (by simp)) (fun _ _ => id) id
theorem SOF.lt (h : SOF T cs g F w) : ∀ x ∈ F, x < w.heap.size := by
  obtain ⟨vs, Fs, h1, h2, rfl, h4⟩ := h
  exact h2.lt
theorem SOF.ltg (h : SOF T cs g F w) : g < w.heap.size := by
  obtain ⟨vs, Fs, h1, h2, rfl, h4⟩ := h
  exact h1.lt
theorem SOF.out (h : SOF T cs g F w) : g ∉ F := by
  obtain ⟨vs, Fs, h1, h2, rfl, h4⟩ := h
  exact h4
theorem SOF.agg (h : SOF T cs g F w) : ∃ vs : List Value, Blk w g T vs.toArray ∧ AggO w cs F (.agg vs.toArray) := by
  obtain ⟨vs, Fs, h1, h2, rfl, h4⟩ := h
  exact ⟨vs, h1, vs, Fs, rfl, h2, rfl⟩
theorem SOF.made {vs : List Value} (B : Blk w g T vs.toArray) (h : AggO w cs F (.agg vs.toArray)) (hn : g ∉ F) : SOF T cs g F w := by
  obtain ⟨us, Fs, e, h1, rfl⟩ := h
  injection e with e
  have e : us = vs := by have := congrArg Array.toList e; simpa using this.symm
  subst e
  exact ⟨us, Fs, B, h1, rfl, hn⟩
theorem SOF.at_ (h : SOF T cs g F w) {i : Nat} {c : CS} (hc : cs[i]? = some c) :
    ∃ u Fi, w.cell? ⟨g, i, none⟩ = some u ∧ w.frozen? ⟨g, i, none⟩ = false ∧ c.own w Fi u ∧ (∀ x ∈ Fi, x ∈ F) ∧ g ∉ Fi ∧
      (∀ (w' : World) (c' : CS) (u' : Value) (Fi' : List Nat), Chg (fun x => x ∈ Fi) w w' → c'.own w' Fi' u' → (∀ x ∈ Fi', x ∈ Fi ∨ w.heap.size ≤ x) → ∃ F', SOF T (cs.set i c') g F' (w'.setCell ⟨g, i, none⟩ u') ∧ ∀ x ∈ F', x ∈ F ∨ w.heap.size ≤ x) ∧
      (∀ (w' : World) (c' : CS) (Fi' : List Nat), Chg (fun x => x ∈ Fi) w w' → c'.own w' Fi' u → (∀ x ∈ Fi', x ∈ Fi ∨ w.heap.size ≤ x) → ∃ F', SOF T (cs.set i c') g F' w' ∧ ∀ x ∈ F', x ∈ F ∨ w.heap.size ≤ x) := by
  obtain ⟨vs, Fs, h1, h2, rfl, h4⟩ := h
  have hi := (List.getElem?_eq_some_iff.1 hc).1
  obtain ⟨c0, u, Fi, e1, e2, e3, ho⟩ := h2.get hi
  rw [hc] at e1; injection e1 with e1; subst e1
  have hi' : i < Fs.length := by rw [h2.lf]; exact hi
  have hFi : Fs.getD i [] = Fi := by rw [List.getD_eq_getElem?_getD, e3]; rfl
  have hmem : ∀ x ∈ Fi, x ∈ Fs.flatten := fun x hx => mem_flat e3 hx
  have hgi : g ∉ Fi := fun hx => h4 (hmem g hx)
  have hcell := h1.cell i
  have hlv := h2.lv
  have hgl := h1.lt
  have hset : ∀ (w' : World) (c' : CS) (u' : Value) (Fi' : List Nat), Chg (fun x => x ∈ Fi) w w' → c'.own w' Fi' u' → (∀ x ∈ Fi', x ∈ Fi ∨ w.heap.size ≤ x) → OwnAll w' (cs.set i c') (vs.set i u') (Fs.set i Fi') ∧ (∀ x ∈ (Fs.set i Fi').flatten, x ∈ Fs.flatten ∨ w.heap.size ≤ x) ∧ g ∉ (Fs.set i Fi').flatten := fun w' c' u' Fi' hch ho' hsub => by
    have a1 := h2.set_ (i := i) hi (w' := w') ho' (fun x hx hx' => hch.block x (h2.lt x hx) (by rw [hFi] at hx'; exact hx')) (fun x hx hx' => by
      rw [hFi]
      rcases hsub x hx with h6 | h6
      · exact h6
      · have := h2.lt x hx'; omega)
    have a2 : ∀ x ∈ (Fs.set i Fi').flatten, x ∈ Fs.flatten ∨ w.heap.size ≤ x := fun x hx => by
      rcases mem_flat_set hi' hx with h6 | h6
      · exact .inl h6
      · exact (hsub x h6).imp (hmem x) id
    refine ⟨a1, a2, fun hx => ?_⟩
    rcases a2 g hx with h6 | h6
    · exact h4 h6
    · omega
  refine ⟨u, Fi, ?_, h1.frozen i, ho, hmem, hgi, fun w' c' u' Fi' hch ho' hsub => ?_, fun w' c' Fi' hch ho' hsub => ?_⟩
  · rw [hcell]
    simpa using e2
  · obtain ⟨a1, a2, a3⟩ := hset w' c' u' Fi' hch ho' hsub
    have hb := ((h1.chg hch hgi).set_ i u')
    refine ⟨_, ⟨vs.set i u', Fs.set i Fi', by simpa using hb, a1.kept fun x hx => Below.heap_setCell w' ⟨g, i, none⟩ u' x (fun e => a3 (by have e' : x = g := e; rw [e'] at hx; exact hx)), rfl, a3⟩, a2⟩
  · obtain ⟨a1, a2, a3⟩ := hset w' c' u Fi' hch ho' hsub
    have hvs : vs.set i u = vs := by
      apply List.ext_getElem?
      intro j
      rw [List.getElem?_set]
      split
      · rename_i e; subst e; rw [e2, if_pos (by rw [hlv]; exact hi)]
      · rfl
    rw [hvs] at a1
    exact ⟨_, ⟨vs, Fs.set i Fi', h1.chg hch hgi, a1, rfl, a3⟩, a2⟩
theorem SOF.put (h : SOF T cs g F w) {i : Nat} {c c' : CS} {u' : Value} (hc : cs[i]? = some c) (ho : ∀ w, c'.own w [] u') : ∃ F', SOF T (cs.set i c') g F' (w.setCell ⟨g, i, none⟩ u') ∧ ∀ x ∈ F', x ∈ F ∨ w.heap.size ≤ x := by
  obtain ⟨u, Fi, _, _, _, _, _, h6, _⟩ := h.at_ hc
  exact h6 w c' u' [] (Chg.refl _ _) (ho w) (by simp)
end
theorem cauths_set {vs : List AuM} {g n c : Nat} {F : List Nat} {w : World} (h : (cauths vs).own w F (.slice (some ⟨g, 0, none⟩) n c)) {i : Nat} (hi : i < vs.length) {x : AuM} {u0 u1 : Value} {Fx : List Nat} (hx : AggO w (cauth x) Fx (.agg #[u0, u1])) (hd : ∀ y ∈ Fx, y ∉ F) :
    ∃ F', (cauths (vs.set i x)).own ((w.setCell ⟨g, i * 2, none⟩ u0).setCell ⟨g, i * 2 + 1, none⟩ u1) F' (.slice (some ⟨g, 0, none⟩) n c) ∧ ∀ y ∈ F', y ∈ F ∨ y ∈ Fx := by
  obtain ⟨t0, t1, F0, F1, e, rfl, o0, o1, d⟩ := cauth_oopen hx
  injection e with e
  injection e with e
  injection e with e0 e
  injection e with e1 _
  subst e0; subst e1
  simp only [List.flatten_cons, List.flatten_nil, List.append_nil, List.mem_append] at hd
  have hlen : (vs.flatMap cauth).length = vs.length * 2 := flat_len (sz := 2) (fun _ => rfl) vs
  have hgF : g ∈ F := row_ob h rfl
  obtain ⟨F', k1, k2⟩ := row_set (i := i * 2) h (by rw [hlen]; omega) o0 (fun y hy => hd y (.inl hy))
  have hg0 : g ∉ F0 := fun hy => hd g (.inl hy) hgF
  have hg1 : g ∉ F1 := fun hy => hd g (.inr hy) hgF
  obtain ⟨F'', m1, m2⟩ := row_set (i := i * 2 + 1) k1 (by rw [List.length_set, hlen]; omega) (own_setC _ o1 g (i * 2) hg1 u0) (fun y hy hy' => by
    rcases k2 y hy' with h6 | h6
    · exact hd y (.inr hy) h6
    · exact d y h6 hy)
  have hfl : ((vs.flatMap cauth).set (i * 2) (cints x.sh)).set (i * 2 + 1) (cints x.mc) = (vs.set i x).flatMap cauth := by
    apply List.ext_getElem?
    intro j
    have hm : j % 2 < 2 := Nat.mod_lt _ (by omega)
    rw [List.getElem?_set, List.getElem?_set, List.length_set, hlen, flat_get' (sz := 2) (fun _ => rfl) (by omega) vs, flat_get' (sz := 2) (fun _ => rfl) (by omega) (vs.set i x)]
    rw [List.getElem?_set]
    by_cases e : i = j / 2
    · subst e
      rw [if_pos rfl, if_pos hi]
      rcases Nat.lt_or_ge (j % 2) 1 with h6 | h6
      · have h7 : j % 2 = 0 := by omega
        rw [if_neg (by omega), if_pos (by omega), if_pos (by omega), h7]
        rfl
      · have h7 : j % 2 = 1 := by omega
        rw [if_pos (by omega), if_pos (by omega), h7]
        rfl
    · rw [if_neg e, if_neg (by omega), if_neg (by omega)]
  refine ⟨F'', by rw [hfl] at m1; exact m1, fun y hy => ?_⟩
  rcases m2 y hy with h6 | h6
  · rcases k2 y h6 with h7 | h7
    · exact .inl h7
    · exact .inr (by simp [h7])
  · exact .inr (by simp [h6])
theorem chain_st {P : List Value → World → Prop} {ts : List Tmp} (h : ∀ l w w', P l w → w.grownBy w' none → P l w') : stableF ⟨ts, P⟩ := fun l w w' a b => h l w w' a b
theorem Chg.join {S T : Nat → Prop} {a b c : World} (h : Chg S a b) (k : Chg T b c) (hT : ∀ i, T i → S i ∨ a.heap.size ≤ i) : Chg S a c :=
  ⟨k.os.trans h.os, k.tape.trans h.tape, k.output.trans h.output, Nat.le_trans h.size k.size, fun i hi hs => (k.block i (Nat.lt_of_lt_of_le hi h.size) (fun ht => by
    rcases hT i ht with h1 | h1
    · exact hs h1
    · omega)).trans (h.block i hi hs)⟩
theorem gb6 {ops : Array Oper} {W w : World} {g k K : Nat} (hG : Chg (fun b => ∃ s, (s, b) ∈ [(K, g)]) W w) (pre : ∀ b, b < W.heap.size → (∀ s, (s, b) ∈ [(K, g)] → aheadB ops s k = true) → w.heap[b]? = W.heap[b]?) (ha : aheadB ops K k = true) : W.grownBy w none :=
  ⟨hG.os, hG.tape, hG.output, hG.size, fun i hi _ => pre i hi fun s hs => by
    simp only [List.mem_cons, List.not_mem_nil, or_false, Prod.mk.injEq] at hs
    rw [hs.1]; exact ha⟩
theorem knowsF_get {T : List Fact} {f : Tmp → Value} {w : World} : ∀ {l : List Fact} {i : Nat} {F : Fact}, knowsF T f w l → l[i]? = some F → F.at_ f w
  | [], _, _, _, h => by simp at h
  | G :: l, 0, F, hk, h => by simp at h; subst h; exact hk.1
  | G :: l, i + 1, F, hk, h => knowsF_get (i := i) hk.2 (by simpa using h)
def ownF (lo : Nat) (c : CS) (v : Value) (w : World) : Prop := ∃ F, c.own w F v ∧ ∀ x ∈ F, lo ≤ x
def aggF (lo : Nat) (cs : List CS) (v : Value) (w : World) : Prop := ∃ F, AggO w cs F v ∧ ∀ x ∈ F, lo ≤ x
theorem ownF_st {lo : Nat} {c : CS} : stable (ownF lo c) := fun v w w' ⟨F, h1, h2⟩ hg => ⟨F, own_growK _ h1 hg, h2⟩
theorem aggF_st {lo : Nat} {cs : List CS} : stable (aggF lo cs) := fun v w w' ⟨F, h1, h2⟩ hg => ⟨F, h1.grow hg, h2⟩
theorem ownF.grow {lo : Nat} {c : CS} {v : Value} {w w' : World} (h : ownF lo c v w) (hg : w.grownBy w' none) : ownF lo c v w' := ownF_st v w w' h hg
theorem aggF.grow {lo : Nat} {cs : List CS} {v : Value} {w w' : World} (h : aggF lo cs v w) (hg : w.grownBy w' none) : aggF lo cs v w' := aggF_st v w w' h hg
theorem ownF.lo {lo lo' : Nat} {c : CS} {v : Value} {w : World} (h : ownF lo c v w) (hl : lo' ≤ lo) : ownF lo' c v w := by
  obtain ⟨F, h1, h2⟩ := h
  exact ⟨F, h1, fun x hx => Nat.le_trans hl (h2 x hx)⟩
theorem aggF.lo {lo lo' : Nat} {cs : List CS} {v : Value} {w : World} (h : aggF lo cs v w) (hl : lo' ≤ lo) : aggF lo' cs v w := by
  obtain ⟨F, h1, h2⟩ := h
  exact ⟨F, h1, fun x hx => Nat.le_trans hl (h2 x hx)⟩
theorem aggF.rd {lo : Nat} {cs : List CS} {v : Value} {w : World} (h : aggF lo cs v w) : AggR w cs v := by
  obtain ⟨F, h1, _⟩ := h
  exact h1.rd
theorem ownF.ints {lo n : Nat} {xs : List Int} {v : Value} {w : World} (h : w.ownsRow lo 3 1 v n (xs.map (Value.int .i64))) : ownF lo (cints xs) v w :=
  ⟨_, cints_own h, fun x hx => (h.lt x (by simpa using hx)).1⟩
def ownL (lo : Nat) (cs : List CS) (vs : List Value) (w : World) : Prop := ∃ Fs, OwnAll w cs vs Fs ∧ ∀ x ∈ Fs.flatten, lo ≤ x
theorem ownL.grow {lo : Nat} {cs : List CS} {vs : List Value} {w w' : World} (h : ownL lo cs vs w) (hg : w.grownBy w' none) : ownL lo cs vs w' := by
  obtain ⟨Fs, h1, h2⟩ := h
  exact ⟨Fs, ownAll_growK h1 hg, h2⟩
theorem ownF.one {lo : Nat} {c : CS} {v : Value} {w : World} (h : ownF lo c v w) : ownL lo [c] [v] w := by
  obtain ⟨F, h1, h2⟩ := h
  exact ⟨[F], OwnAll.cons h1 (OwnAll.nil _) (by simp), fun x hx => h2 x (by simpa using hx)⟩
theorem aggF.all {lo : Nat} {cs : List CS} {vs : List Value} {w : World} (h : aggF lo cs (.agg vs.toArray) w) : ownL lo cs vs w := by
  obtain ⟨F, ⟨us, Fs, e, h1, rfl⟩, h2⟩ := h
  injection e with e
  have e : us = vs := by have := congrArg Array.toList e; simpa using this.symm
  subst e
  exact ⟨Fs, h1, h2⟩
theorem ownL.agg {lo : Nat} {cs : List CS} {vs : List Value} {w : World} (h : ownL lo cs vs w) : aggF lo cs (.agg vs.toArray) w := by
  obtain ⟨Fs, h1, h2⟩ := h
  exact ⟨_, ⟨vs, Fs, rfl, h1, rfl⟩, h2⟩
theorem ownL.pl {lo : Nat} {x : Value} {cs : List CS} {vs : List Value} {w : World} (h : ownL lo cs vs w) (hx : x.oneCell' = true) : ownL lo (CS.pl x :: cs) (x :: vs) w := by
  obtain ⟨Fs, h1, h2⟩ := h
  exact ⟨[] :: Fs, OwnAll.cons ⟨rfl, rfl, hx⟩ h1 (by simp), fun x hx => h2 x (by simpa using hx)⟩
theorem ownL.nil (lo : Nat) (w : World) : ownL lo [] [] w := ⟨[], OwnAll.nil w, by simp⟩
theorem ownL.app {lo : Nat} {cs ds : List CS} {us vs : List Value} {w w' : World} (h : ownL lo cs us w) (hg : w.grownBy w' none) (k : ownL w.heap.size ds vs w') (hl : lo ≤ w.heap.size) : ownL lo (cs ++ ds) (us ++ vs) w' := by
  obtain ⟨Fs, h1, h2⟩ := h
  obtain ⟨Gs, k1, k2⟩ := k
  refine ⟨Fs ++ Gs, OwnAll.append (ownAll_growK h1 hg) k1 (fun x hx hx' => ?_), fun x hx => ?_⟩
  · have := h1.lt x hx
    have := k2 x hx'
    omega
  · rw [List.flatten_append] at hx
    rcases List.mem_append.1 hx with hx | hx
    · exact h2 x hx
    · have := k2 x hx; omega
def sofF (lo : Nat) (T : TypeId) (cs : List CS) (g : Nat) (w : World) : Prop := ∃ F, SOF T cs g F w ∧ ∀ x ∈ F, lo ≤ x
theorem sofF.grow {lo : Nat} {T : TypeId} {cs : List CS} {g : Nat} {w w' : World} (h : sofF lo T cs g w) (hg : w.grownBy w' none) : sofF lo T cs g w' := by
  obtain ⟨F, h1, h2⟩ := h
  exact ⟨F, h1.grow hg, h2⟩
theorem SOF.store {T : TypeId} {cs : List CS} {g : Nat} {F : List Nat} {w : World} {us : List Value} {old : Array Value} (B : Blk w g T old) (hl : old.size = us.length) (h : AggO w cs F (.agg us.toArray)) (hn : g ∉ F) : SOF T cs g F (setCells w g 0 us) :=
  SOF.made (blk_setCells B us hl) (h.chg (chg_setCells g us 0 w) (fun x hx e => hn (e ▸ hx))) hn
theorem agg_len {w : World} {cs : List CS} {F : List Nat} {vs : List Value} (h : AggO w cs F (.agg vs.toArray)) : vs.length = cs.length := by
  obtain ⟨us, Fs, e, h1, rfl⟩ := h
  injection e with e
  have e : us = vs := by have := congrArg Array.toList e; simpa using this.symm
  subst e
  exact h1.lv
def tyd (Ts : List TypeId) (c : CS) : Prop := ∀ (w : World) (F : List Nat) (v : Value), c.own w F v → ∀ x ∈ F, ∃ cur T z, w.heap[x]? = some (.cells cur T z) ∧ T ∈ Ts
theorem tyd_pl {Ts : List TypeId} {x : Value} : tyd Ts (CS.pl x) := fun w F v h y hy => by
  rw [h.1] at hy
  cases hy
theorem ownAll_ty {Ts : List TypeId} {w : World} {cs : List CS} {vs : List Value} {Fs : List (List Nat)} (h : OwnAll w cs vs Fs) (hc : ∀ c ∈ cs, tyd Ts c) : ∀ x ∈ Fs.flatten, ∃ cur T z, w.heap[x]? = some (.cells cur T z) ∧ T ∈ Ts := by
  intro x hx
  obtain ⟨F, hF, hxF⟩ := List.mem_flatten.1 hx
  obtain ⟨i, hi⟩ := List.mem_iff_getElem?.1 hF
  have hl := (List.getElem?_eq_some_iff.1 hi).1
  obtain ⟨c, v, F', e1, e2, e3, ho⟩ := h.get (i := i) (by rw [← h.lf]; exact hl)
  rw [hi] at e3
  injection e3 with e3
  subst e3
  exact hc c (List.mem_of_getElem? e1) w _ _ ho x hxF
theorem tyd_row {Ts : List TypeId} {e : TypeId} {s : Nat} {cs : List CS} (he : e ∈ Ts) (hc : ∀ c ∈ cs, tyd Ts c) : tyd Ts (row e s cs) := by
  intro w F v h x hx
  obtain ⟨n, vs, Fs, h1, h2, h3, h4, h5⟩ := h
  rw [h4] at hx
  rcases List.mem_append.1 hx with hx | hx
  · have hx : v.ownBlock = some x := by simpa using hx
    rcases h2.2 with ⟨e1, _⟩ | ⟨g, cap, cur, hv, _, hg, _⟩
    · rw [e1] at hx; cases hx
    · rw [hv] at hx
      have : g = x := by simpa [Value.ownBlock] using hx
      subst this
      exact ⟨_, _, _, hg, he⟩
  · exact ownAll_ty h3 hc x hx
theorem tyd_plst {Ts : List TypeId} {α : Type} {e : TypeId} {s : Nat} {f : α → List Value} {xs : List α} (he : e ∈ Ts) : tyd Ts (plst e s f xs) := tyd_row he fun c hc => by
  obtain ⟨x, _, hx⟩ := List.mem_flatMap.1 hc
  obtain ⟨u, _, rfl⟩ := List.mem_map.1 hx
  exact tyd_pl
theorem tyd_cauths {Ts : List TypeId} {xs : List AuM} (h1 : 3 ∈ Ts) (h2 : 44 ∈ Ts) : tyd Ts (cauths xs) := tyd_row h2 fun c hc => by
  obtain ⟨x, _, hx⟩ := List.mem_flatMap.1 hc
  simp only [List.mem_cons, List.not_mem_nil, or_false] at hx
  rcases hx with rfl | rfl
  · exact tyd_plst h1
  · exact tyd_plst h1
theorem agg_ty {Ts : List TypeId} {w : World} {cs : List CS} {F : List Nat} {v : Value} {g : Nat} {T : TypeId} {us : Array Value} (hc : ∀ c ∈ cs, tyd Ts c) (h : AggO w cs F v) (B : Blk w g T us) (hT : T ∉ Ts) : g ∉ F := by
  obtain ⟨vs, Fs, rfl, h1, rfl⟩ := h
  intro hg
  obtain ⟨cur, T', z, e, hT'⟩ := ownAll_ty h1 hc g hg
  unfold Blk at B
  rw [B] at e
  injection e with e
  injection e with _ e2 _
  exact hT (e2 ▸ hT')
theorem own_ty {Ts : List TypeId} {w : World} {c : CS} {F : List Nat} {v : Value} {g : Nat} {T : TypeId} {us : Array Value} (hc : tyd Ts c) (h : c.own w F v) (B : Blk w g T us) (hT : T ∉ Ts) : g ∉ F := by
  intro hg
  obtain ⟨cur, T', z, e, hT'⟩ := hc w F v h g hg
  unfold Blk at B
  rw [B] at e
  injection e with e
  injection e with _ e2 _
  exact hT (e2 ▸ hT')
end Go.Proofs.Ythaadgdeadbhkaa
/-
  TripleUse of the program.
-/
namespace Go.Proofs.Ythaadgdeadbhkaa
open Go.RowKit
set_option linter.unusedVariables false
set_option linter.unusedSimpArgs false
theorem awf_use {k : KM} {x : TrM} {d e : Int} (h : twf x) : awf (tripleUse k x d e) := by
  unfold tripleUse
  split
  · exact awf_const (awf_add (awf_add h.2.2))
  · exact awf_no
end Go.Proofs.Ythaadgdeadbhkaa
/-
  valueIn and TripleOpen of the program.
-/
namespace Go.Proofs.Ythaadgdeadbhkaa
open Go.RowKit
set_option linter.unusedVariables false
set_option linter.unusedSimpArgs false
def openB (k : KM) (x y : AuM) (t : TrM) : Bool := formB k x && formB k y && formB k t.a && formB k t.b
def openD (k : KM) (x y : AuM) (t : TrM) : Int := if openB k x y t then (fsum k.p x.sh - fsum k.p t.a.sh) % k.p else 0
def openE (k : KM) (x y : AuM) (t : TrM) : Int := if openB k x y t then (fsum k.p y.sh - fsum k.p t.b.sh) % k.p else 0
theorem stOpening : St Try.prog 108 2 := ⟨⟨_, Try.underlying108, rfl⟩, by kernel_rfl⟩
end Go.Proofs.Ythaadgdeadbhkaa
/-
  TripleNew of the program, where it answers.
-/
namespace Go.Proofs.Ythaadgdeadbhkaa
open Go.RowKit
set_option linter.unusedVariables false
set_option linter.unusedSimpArgs false
def tnA (s a P : Nat) : Nat := belN s a P
def tnB (s a P : Nat) : Nat := belN s (a + 1) P
def tripleNew (k : KM) (P s a : Nat) : TrM :=
  ⟨authNew k P s (a + 2) (tnA s a P), authNew k P s (a + 2 + 2 * (k.al.length - 1)) (tnB s a P), authNew k P s (a + 2 + 4 * (k.al.length - 1)) (((tnA s a P : Int) * (tnB s a P : Int)) % k.p)⟩
theorem stTriple : St Try.prog 46 6 := ⟨⟨_, Try.underlying46, rfl⟩, by kernel_rfl⟩
def aTup (lo : Nat) (m : AuM) (t : Value) (v : Value) (w : World) : Prop := ∃ A n c B k d, v = .tuple #[.agg #[.slice A n c, .slice B k d], t] ∧ autF lo m (.agg #[.slice A n c, .slice B k d]) w
theorem aTup_st {lo : Nat} {m : AuM} {t : Value} : stable (aTup lo m t) := fun v w w' ⟨A, n, c, B, k, d, h1, h2⟩ hg => ⟨A, n, c, B, k, d, h1, h2.grow hg⟩
theorem aTup_chg {lo g : Nat} {m : AuM} {t v : Value} {w w' : World} (h : aTup lo m t v w) (q : Chg (fun y => y = g) w w') (hg : g < lo) : aTup lo m t v w' := by
  obtain ⟨A, n, c, B, k, d, h1, h2⟩ := h
  exact ⟨A, n, c, B, k, d, h1, autF.chg h2 q hg⟩
theorem chgDD {g : Nat} {w w' : World} (h : Chg (fun y => y = g) w w') : Chg (fun y => y = g) w.drew w'.drew := ⟨h.os, h.tape, h.output, h.size, h.block⟩
theorem autF.far2 {lo g h : Nat} {m : AuM} {v : Value} {w w' : World} {T U : TypeId} {cs ds : Array Value} (H : autF lo m v w) (B : Blk w g T cs) (D : Blk w h U ds) (k : Chg (fun y => y = g ∨ y = h) w w') (hT : 3 ≠ T := by decide) (hU : 3 ≠ U := by decide) : autF lo m v w' := by
  obtain ⟨F, h1, h2⟩ := H
  refine ⟨F, h1.chg k (fun x hx e => ?_), h2⟩
  obtain ⟨u0, u1, F0, F1, _, rfl, o0, o1, _⟩ := cauth_oopen h1
  have : ∃ cur z, w.heap[x]? = some (.cells cur 3 z) := by
    simp at hx
    rcases hx with hx | hx
    · exact cints_ty o0 x hx
    · exact cints_ty o1 x hx
  obtain ⟨cur, z, hc⟩ := this
  unfold Blk at B D
  rcases e with e | e
  · subst e
    rw [B] at hc
    injection hc with hc
    injection hc with _ h3 _
    exact hT h3.symm
  · subst e
    rw [D] at hc
    injection hc with hc
    injection hc with _ h3 _
    exact hU h3.symm
def OwnE (w : World) (cs : List CS) (vs : List Value) : Prop := vs.length = cs.length ∧ ∀ (i : Nat) (c : CS) (v : Value), cs[i]? = some c → vs[i]? = some v → ∃ F, c.own w F v
def AggE (w : World) (cs : List CS) (v : Value) : Prop := ∃ vs : List Value, v = .agg vs.toArray ∧ OwnE w cs vs
theorem OwnE.rd {w : World} {cs : List CS} {vs : List Value} (h : OwnE w cs vs) : RdAll w cs vs := ⟨h.1, fun i c v hc hv => by
  obtain ⟨F, hF⟩ := h.2 i c v hc hv
  exact c.toRd hF⟩
theorem AggE.rd {w : World} {cs : List CS} {v : Value} (h : AggE w cs v) : AggR w cs v := by
  obtain ⟨vs, rfl, h⟩ := h
  exact ⟨vs, rfl, h.rd⟩
theorem OwnE.append {w : World} {cs ds : List CS} {vs us : List Value} (h : OwnE w cs vs) (k : OwnE w ds us) : OwnE w (cs ++ ds) (vs ++ us) := by
  refine ⟨by simp [h.1, k.1], fun i c v hc hv => ?_⟩
  rw [List.getElem?_append] at hc hv
  rw [h.1] at hv
  split at hc
  · rename_i hl
    rw [if_pos hl] at hv
    exact h.2 i c v hc hv
  · rename_i hl
    rw [if_neg hl] at hv
    exact k.2 _ c v hc hv
theorem OwnE.aut {w : World} {lo : Nat} {m : AuM} {vs : List Value} (h : autF lo m (.agg vs.toArray) w) : OwnE w (cauth m) vs := by
  obtain ⟨F, ⟨us, Fs, e, h1, _⟩, _⟩ := h
  injection e with e
  have e : vs = us := by have := congrArg Array.toList e; simpa using this
  subst e
  refine ⟨h1.lv, fun i c v hc hv => ?_⟩
  have hi := (List.getElem?_eq_some_iff.1 hc).1
  obtain ⟨c', v', F', e1, e2, _, ho⟩ := h1.get hi
  rw [hc] at e1; injection e1 with e1; subst e1
  rw [hv] at e2; injection e2 with e2; subst e2
  exact ⟨F', ho⟩
end Go.Proofs.Ythaadgdeadbhkaa
/-
  isZeroAuth of the program.
-/
namespace Go.Proofs.Ythaadgdeadbhkaa
open Go.RowKit
set_option linter.unusedVariables false
set_option linter.unusedSimpArgs false
def zeroA (a : AuM) : Bool := decide (a.sh.length = 0) && decide (a.mc.length = 0)
end Go.Proofs.Ythaadgdeadbhkaa
/-
  copyAuth of the program.
-/
namespace Go.Proofs.Ythaadgdeadbhkaa
open Go.RowKit
set_option linter.unusedVariables false
set_option linter.unusedSimpArgs false
end Go.Proofs.Ythaadgdeadbhkaa
/-
  append onto a new empty row ('append([]T{}, x...)'): nothing old changes.
-/
namespace Go.Proofs.Ythaadgdeadbhkaa
open Go.RowKit
set_option linter.unusedVariables false
set_option linter.unusedSimpArgs false
section
variable {P : Program}
variable {ops : Array Oper} {rest : List Oper} {o : Oper} {a : Act} {Q : Exit → Act → World → Prop}
end
end Go.Proofs.Ythaadgdeadbhkaa
/-
  More draws: once in n, a list of numbers below p, a word.
-/
namespace Go.Proofs.Ythaadgdeadbhkaa
open Go.RowKit
set_option linter.unusedVariables false
set_option linter.unusedSimpArgs false
theorem Chg.rdk {S : Nat → Prop} {w w' : World} {sz n : Nat} {A : Option Addr} {xs : List Value} (h : Rd w sz A n xs) (k : Chg S w w') (hs : 0 < n → ∀ a, A = some a → ¬ S a.block) : Rd w' sz A n xs := by
  rcases Nat.eq_zero_or_pos n with h0 | h0
  · exact ⟨h.1, fun hn => by omega⟩
  · exact Chg.rd h k (hs h0)
theorem Cur.kept {S : Nat → Prop} {w w' : World} {g : Nat} {A : Option Addr} {n c : Nat} {bs : List Int} (h : Cur w g A n c bs) (k : Chg S w w') (hg : w'.heap[g]? = w.heap[g]?) (hs : 0 < n → ∀ a, A = some a → ¬ S a.block) : Cur w' g A n c bs := by
  obtain ⟨⟨i, hh, hi, hb⟩, k2, k3, k4, k5⟩ := h
  exact ⟨⟨i, hh, hi, hg.trans hb⟩, Chg.rdk k2 k hs, k3, k4, k5⟩
theorem Cur.old {w : World} {g : Nat} {A : Option Addr} {n c : Nat} {bs : List Int} (h : Cur w g A n c bs) {y : Nat} (hy : w.heap.size ≤ y) : 0 < n → ∀ a, A = some a → a.block ≠ y := fun hn a ha e => by
  obtain ⟨b, o, rfl, hb, _⟩ := h.bytes.2 (by omega)
  injection ha with ha
  subst ha
  simp only at e
  omega
theorem gbC {a b c : World} {r : Option Nat} {S : Nat → Prop} (h : a.grownBy b r) (k : Chg S b c) (hs : ∀ i, S i → some i = r ∨ a.heap.size ≤ i) : a.grownBy c r :=
  ⟨k.os.trans h.os, k.tape.trans h.tape, k.output.trans h.output, Nat.le_trans h.size k.size, fun i hi hr => (k.block i (Nat.lt_of_lt_of_le hi h.size) fun hS => by
    rcases hs i hS with e | e
    · exact hr e
    · omega).trans (h.block i hi hr)⟩
set_option maxHeartbeats 400000 in
theorem l02Word_c (w : World) (g : Nat) (A : Option Addr) (n c : Nat) (bs : List Int) (hc : Cur w g A n c bs) :
    Calls Try.prog 155 #[.pointer (some ⟨g, 0, none⟩)] w fun e w' => ∃ x : Int, e = .returned (.int .i64 x) ∧ (0 ≤ x ∧ x ≤ 4294967295) ∧ Cur w' g A n c bs ∧ w.grownBy w' (some g) := by
  have HC := Lib.hid hc
  clear hc
  go_enter Try.func155, Try.ntmps155
  go_wp2_with fail
  refine (l01Below_c _ 4 (by omega) g A n c bs HC.out).mono ?_
  rintro e w1 ⟨x, rfl, hx0, hx1, hc1, hg1⟩
  have H1 := Lib.hid hc1
  have hlt := hc1.lt
  clear hc1 hx1
  by_cases h0 : x = 0
  · subst h0
    go_wp2_with fail
    refine (l01PickInt_c _ _ 5 5 [0, 1, 4294967295, 2147483648, 65536] (ints_new w1 _ [0, 1, 4294967295, 2147483648, 65536]) (by omega) (by omega) g (fun a ha e => by injection ha with ha; subst ha; injection e with e; simp at e; omega) A n c bs (H1.out.grow (gbA (gbR _ _) _))).mono ?_
    rintro e w2 ⟨y, rfl, hy, hc2, hg2⟩
    have H2 := Lib.hid hc2
    have HY := Lib.hid hy
    have G2 := Lib.hid (gbNN hg1 (gbT (gbW (gbA (gbR w1 none) _)) hg2) (fun _ h => .inr (by rw [h])))
    clear hc2 hy hg2
    go_wp2_with fail
    go_ret
    refine ⟨y, rfl, ?_, H2.out, G2.out⟩
    have := HY.out
    simp at this
    omega
  · have d0 : (x == 0) = false := by simpa using h0
    by_cases h1 : x = 1
    · subst h1
      go_wp2_with fail
      refine (l01Below_c _ 200 (by omega) g A n c bs H1.out).mono ?_
      rintro e w2 ⟨y, rfl, hy0, hy1, hc2, hg2⟩
      have H2 := Lib.hid hc2
      clear hc2
      go_wp2_with fail
      go_ret
      exact ⟨y, rfl, ⟨hy0, by have := hy1 (by omega); omega⟩, H2.out, gbT hg1 hg2⟩
    · have d1 : (x == 1) = false := by simpa using h1
      go_wp2_with fail
      refine (l01Below_c _ 65536 (by omega) g A n c bs H1.out).mono ?_
      rintro e w2 ⟨y, rfl, hy0, hy1, hc2, hg2⟩
      have H2 := Lib.hid hc2
      have hy2 := hy1 (by omega)
      clear hc2 hy1
      go_wp2_with fail
      refine (l01Below_c _ 65536 (by omega) g A n c bs H2.out).mono ?_
      rintro e w3 ⟨z, rfl, hz0, hz1, hc3, hg3⟩
      have H3 := Lib.hid hc3
      have hz2 := hz1 (by omega)
      clear hc3 hz1
      go_wp2_with fail
      go_ret
      exact ⟨_, rfl, by omega, H3.out, gbT (gbT hg1 hg2) hg3⟩
set_option maxHeartbeats 800000 in
theorem l03List_c (w : World) (p : Int) (hp : p ≤ 1099511627776) (m : Nat) (hm : m ≤ 1048576) (g : Nat) (A : Option Addr) (n c : Nat) (bs : List Int) (hc : Cur w g A n c bs) :
    Calls Try.prog 156 #[.pointer (some ⟨g, 0, none⟩), .int .i64 p, .int .i64 m] w fun e w' => ∃ (v : Value) (qs : List Int), e = .returned v ∧ w'.ownsRow w.heap.size 3 1 v m (qs.map (Value.int .i64)) ∧ qs.length = m ∧ (∀ q ∈ qs, 0 ≤ q ∧ (1 ≤ p → q < p)) ∧ Cur w' g A n c bs ∧ w.grownBy w' (some g) := by
  have hgl := hc.lt
  have HO := Lib.hid (hc.old (Nat.le_refl _))
  have HC := Lib.hid (hc.grow (gbA (gbR w none) (.cells #[] 3)))
  have HR := Lib.hid (World.ownsRow_made (e := 3) (size := 1) (base := w.heap.size) w #[] 0 (by omega) (by simp) rfl)
  have HG : Hid (w.grownBy (w.alloc (.cells #[] 3)) (some g)) := Lib.hid (gbW (gbA (gbR w none) _))
  have HL : Hid (∀ y, w.heap.size ≤ y → 0 < n → ∀ a, A = some a → a.block ≠ y) := Lib.hid (fun y hy => hc.old hy)
  clear hc
  go_enter Try.func156, Try.ntmps156
  go_wp2_with fail
  go_loopw [7, 8] (fun s i wr => ∃ (k : Nat) (qs : List Int), k ≤ m ∧ i = .int .i64 k ∧ Hid (wr.ownsRow w.heap.size 3 1 s k (qs.map (Value.int .i64))) ∧ Hid (qs.length = k ∧ ∀ q ∈ qs, 0 ≤ q ∧ (1 ≤ p → q < p)) ∧ Hid (Cur wr g A n c bs) ∧ Hid (w.grownBy wr (some g))) (fun _ i _ => m - (intOf i).toNat)
  case atStart => exact ⟨0, [], by omega, rfl, HR.out, ⟨rfl, by simp⟩, HC.out, HG.out⟩
  case round =>
    obtain ⟨k, qs, hk, rfl, hown, hqs, hcur, hg⟩ := hrel
    by_cases hlt : k < m
    · have i1 : (k : Int) < (m : Int) := by omega
      go_wp2_with fail
      refine (l01Below_c _ p hp _ A n c bs hcur.out).mono ?_
      rintro e w2 ⟨x, rfl, hx0, hx1, hc2, hg2⟩
      have hown2 := own_grown hown.out hg2 (by
        cases hb : Value.ownBlock _ with
        | none => exact .inl rfl
        | some b => refine .inr fun e => ?_
                    have := (hown.out.lt b hb).1
                    injection e with e
                    omega)
      have HC2 := Lib.hid hc2
      have HX1 := Lib.hid hx1
      have HG2 := Lib.hid (gbT hg.out hg2)
      have hw2 := hg2.size
      have hw := hg.out.size
      clear hc2 hg2 hx1 hown hcur hg
      go_wp2_with (at_builtin; refine wp_append1 w2 el_int rfl (.tmp 15) (.tmp 19) rfl _ rfl (by simp [Value.oneCell']) w.heap.size _ k _ hown2 rfl rfl (by unfold maxLen; omega) (by omega) (by omega) ?_; intro v' w3 hown3 hgrow)
      have h1 := Lib.hid (show w3.ownsRow w.heap.size 3 1 v' (k + 1) ((qs ++ [x]).map (Value.int .i64)) by simpa using hown3)
      have h2 := Lib.hid (gbNN HG2.out hgrow fun y e => .inl (hown2.lt y e).1)
      have h3 := Lib.hid (show Cur w3 g A n c bs by
        obtain ⟨⟨i, hh, hi, hb⟩, k2, k3, k4, k5⟩ := HC2.out
        have hne : some g ≠ Value.ownBlock _ := fun e => by have := (hown2.lt _ e.symm).1; omega
        exact ⟨⟨i, hh, hi, hb.grown hgrow hne⟩, k2.grown' hgrow (fun hn a ha e => by have := (hown2.lt _ e.symm).1; exact HL.out a.block this hn a ha rfl), k3, k4, k5⟩)
      clear hown3 hgrow hown2
      go_wp2_with fail
      go_roundw
      case rel => exact ⟨k + 1, qs ++ [x], by omega, by go_num, h1.out, ⟨by simp [hqs.out.1], fun q hq => by
        rcases List.mem_append.1 hq with hq | hq
        · exact hqs.out.2 q hq
        · simp at hq; subst hq; exact ⟨hx0, HX1.out⟩⟩, h3.out, h2.out⟩
      case measure => simp [intOf]; omega
    · have hkm : k = m := by omega
      subst hkm
      go_wp2_with fail
      go_ret
      exact ⟨_, qs, rfl, hown.out, hqs.out.1, hqs.out.2, hcur.out, hg.out⟩
end Go.Proofs.Ythaadgdeadbhkaa
