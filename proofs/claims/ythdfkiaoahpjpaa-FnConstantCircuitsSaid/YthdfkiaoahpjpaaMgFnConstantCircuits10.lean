/-
  What a cell holds, of any depth: it reads as something (rd), or it is the call's own (own), on blocks that are listed: no two cells of one's own share a block.
-/
import Derived.Test.YthdfkiaoahpjpaaMgFnConstantCircuits5
namespace Go.Proofs.Ythdfkiaoahpjpaa
open Go.RowKit
set_option linter.unusedVariables false
set_option linter.unusedSimpArgs false
structure CS where
  rd : World → Value → Prop
  own : World → List Nat → Value → Prop
  grow : ∀ {w w' : World} {v : Value}, rd w v → w.grownBy w' none → rd w' v
  toRd : ∀ {w : World} {F : List Nat} {v : Value}, own w F v → rd w v
  kept : ∀ {w w' : World} {F : List Nat} {v : Value}, own w F v → (∀ g ∈ F, w'.heap[g]? = w.heap[g]?) → own w' F v
  lt : ∀ {w : World} {F : List Nat} {v : Value}, own w F v → ∀ g ∈ F, g < w.heap.size
  nd : ∀ {w : World} {F : List Nat} {v : Value}, own w F v → F.Nodup
  one : ∀ {w : World} {v : Value}, rd w v → v.oneCell' = true
def CS.pl (x : Value) : CS where
  rd _ v := v = x ∧ x.oneCell' = true
  own _ F v := F = [] ∧ v = x ∧ x.oneCell' = true
  grow h _ := h
  toRd h := h.2
  kept h _ := h
  lt h := by rw [h.1]; simp
  nd h := by rw [h.1]; simp
  one h' := by rw [h'.1]; exact h'.2
def ci (z : Int) : CS := CS.pl (.int .i64 z)
def cb (b : Bool) : CS := CS.pl (.bool b)
def RdAll (w : World) (cs : List CS) (vs : List Value) : Prop :=
  vs.length = cs.length ∧ ∀ (i : Nat) (c : CS) (v : Value), cs[i]? = some c → vs[i]? = some v → c.rd w v
theorem RdAll.grow {w w' : World} {cs : List CS} {vs : List Value} (h : RdAll w cs vs) (hg : w.grownBy w' none) : RdAll w' cs vs := ⟨h.1, fun i c v hc hv => c.grow (h.2 i c v hc hv) hg⟩
theorem RdAll.nil (w : World) : RdAll w [] [] := ⟨rfl, fun i c v h => by simp at h⟩
theorem RdAll.cons {w : World} {c : CS} {v : Value} {cs : List CS} {vs : List Value} (h : c.rd w v) (k : RdAll w cs vs) : RdAll w (c :: cs) (v :: vs) :=
  ⟨by simp [k.1], fun i d u hd hu => by
    cases i with
    | zero => simp at hd hu; subst hd; subst hu; exact h
    | succ i => exact k.2 i d u (by simpa using hd) (by simpa using hu)⟩
theorem RdAll.head {w : World} {c : CS} {cs : List CS} {vs : List Value} (h : RdAll w (c :: cs) vs) : ∃ v us, vs = v :: us ∧ c.rd w v ∧ RdAll w cs us := by
  cases vs with
  | nil => have := h.1; simp at this
  | cons v us => exact ⟨v, us, rfl, h.2 0 c v rfl rfl, by have := h.1; simpa using this, fun i d u hd hu => h.2 (i + 1) d u (by simpa using hd) (by simpa using hu)⟩
theorem RdAll.none {w : World} {vs : List Value} (h : RdAll w [] vs) : vs = [] := List.eq_nil_of_length_eq_zero h.1
structure OwnAll (w : World) (cs : List CS) (vs : List Value) (Fs : List (List Nat)) : Prop where
  lv : vs.length = cs.length
  lf : Fs.length = cs.length
  at_ : ∀ (i : Nat) (c : CS) (v : Value) (F : List Nat), cs[i]? = some c → vs[i]? = some v → Fs[i]? = some F → c.own w F v
  nd : Fs.flatten.Nodup
theorem mem_flat {Fs : List (List Nat)} {i : Nat} {F : List Nat} (h : Fs[i]? = some F) {g : Nat} (hg : g ∈ F) : g ∈ Fs.flatten := List.mem_flatten.2 ⟨F, List.mem_of_getElem? h, hg⟩
section
variable {w w' : World} {cs : List CS} {vs : List Value} {Fs : List (List Nat)}
theorem OwnAll.rd (h : OwnAll w cs vs Fs) : RdAll w cs vs := ⟨h.lv, fun i c v hc hv => by
  have hl := (List.getElem?_eq_some_iff.1 hc).1
  exact c.toRd (h.at_ i c v _ hc hv (List.getElem?_eq_getElem (by rw [h.lf]; exact hl)))⟩
theorem OwnAll.get (h : OwnAll w cs vs Fs) {i : Nat} (hi : i < cs.length) : ∃ c v F, cs[i]? = some c ∧ vs[i]? = some v ∧ Fs[i]? = some F ∧ c.own w F v :=
  ⟨_, _, _, List.getElem?_eq_getElem hi, List.getElem?_eq_getElem (by rw [h.lv]; exact hi), List.getElem?_eq_getElem (by rw [h.lf]; exact hi), h.at_ i _ _ _ (List.getElem?_eq_getElem hi) (List.getElem?_eq_getElem _) (List.getElem?_eq_getElem _)⟩
theorem OwnAll.lt (h : OwnAll w cs vs Fs) : ∀ g ∈ Fs.flatten, g < w.heap.size := by
  intro g hg
  obtain ⟨F, hF, hgF⟩ := List.mem_flatten.1 hg
  obtain ⟨i, hi⟩ := List.mem_iff_getElem?.1 hF
  have hl := (List.getElem?_eq_some_iff.1 hi).1
  obtain ⟨c, v, F', hc, hv, hF', ho⟩ := h.get (i := i) (by rw [← h.lf]; exact hl)
  rw [hi] at hF'
  injection hF' with hF'
  subst hF'
  exact c.lt ho g hgF
theorem OwnAll.kept (h : OwnAll w cs vs Fs) (hk : ∀ g ∈ Fs.flatten, w'.heap[g]? = w.heap[g]?) : OwnAll w' cs vs Fs :=
  ⟨h.lv, h.lf, fun i c v F hc hv hF => c.kept (h.at_ i c v F hc hv hF) fun g hg => hk g (mem_flat hF hg), h.nd⟩
theorem nodup_mid {α : Type} {A B B' C : List α} (h : (A ++ B ++ C).Nodup) (hb : B'.Nodup) (hd : ∀ g ∈ B', g ∉ A ∧ g ∉ C) : (A ++ B' ++ C).Nodup := by
  rw [List.nodup_append, List.nodup_append] at *
  obtain ⟨⟨h1, h2, h3⟩, h4, h5⟩ := h
  refine ⟨⟨h1, hb, fun a ha b hb' e => (hd b hb').1 (e ▸ ha)⟩, h4, fun a ha b hb' e => ?_⟩
  rcases List.mem_append.1 ha with ha | ha
  · exact h5 a (List.mem_append_left _ ha) b hb' e
  · exact (hd a ha).2 (e ▸ hb')
theorem flat_split {α : Type} (l : List (List α)) (k : Nat) (h : k < l.length) : l.flatten = (l.take k).flatten ++ l[k] ++ (l.drop (k + 1)).flatten := by
  conv => lhs; rw [← List.take_append_drop k l, List.drop_eq_getElem_cons h, List.flatten_append, List.flatten_cons, ← List.append_assoc]
theorem flat_set {α : Type} (l : List (List α)) (k : Nat) (h : k < l.length) (x : List α) : (l.set k x).flatten = (l.take k).flatten ++ x ++ (l.drop (k + 1)).flatten := by
  rw [List.set_eq_take_append_cons_drop, if_pos h]
  simp
theorem OwnAll.set_ (h : OwnAll w cs vs Fs) {i : Nat} (hi : i < cs.length) {c : CS} {v : Value} {F : List Nat} (ho : c.own w' F v) (hk : ∀ g ∈ Fs.flatten, g ∉ (Fs.getD i []) → w'.heap[g]? = w.heap[g]?)
    (hd : ∀ g ∈ F, g ∈ Fs.flatten → g ∈ Fs.getD i []) : OwnAll w' (cs.set i c) (vs.set i v) (Fs.set i F) := by
  have hiF : i < Fs.length := by rw [h.lf]; exact hi
  have hiv : i < vs.length := by rw [h.lv]; exact hi
  have hget : Fs.getD i [] = Fs[i] := by simp [List.getD_eq_getElem?_getD, List.getElem?_eq_getElem hiF]
  rw [hget] at hk hd
  have hnd := h.nd
  rw [flat_split _ _ hiF] at hnd
  have apart : ∀ g ∈ Fs[i], g ∉ (Fs.take i).flatten ∧ g ∉ (Fs.drop (i + 1)).flatten := fun g hg => by
    rw [List.nodup_append, List.nodup_append] at hnd
    exact ⟨fun hg' => hnd.1.2.2 g hg' g hg rfl, fun hg' => hnd.2.2 g (List.mem_append_right _ hg) g hg' rfl⟩
  refine ⟨by simp [h.lv], by simp [h.lf], fun j d u G hd' hu hG => ?_, ?_⟩
  · rw [List.getElem?_set] at hd' hu hG
    by_cases e : i = j
    · subst e
      rw [if_pos rfl, if_pos hi] at hd'
      rw [if_pos rfl, if_pos hiv] at hu
      rw [if_pos rfl, if_pos hiF] at hG
      injection hd' with hd'; injection hu with hu; injection hG with hG
      subst hd'; subst hu; subst hG
      exact ho
    · rw [if_neg e] at hd' hu hG
      refine d.kept (h.at_ j d u G hd' hu hG) fun g hg => hk g (mem_flat hG hg) fun hgi => ?_
      have h1 := apart g hgi
      rcases Nat.lt_or_ge j i with hji | hji
      · exact h1.1 (List.mem_flatten.2 ⟨G, List.mem_of_getElem? (i := j) (by rw [List.getElem?_take, if_pos hji]; exact hG), hg⟩)
      · exact h1.2 (List.mem_flatten.2 ⟨G, List.mem_of_getElem? (i := j - (i + 1)) (by rw [List.getElem?_drop, show i + 1 + (j - (i + 1)) = j by omega]; exact hG), hg⟩)
  · rw [flat_set _ _ hiF]
    refine nodup_mid hnd (c.nd ho) fun g hg => ?_
    by_cases hm : g ∈ Fs.flatten
    · exact apart g (hd g hg hm)
    · rw [flat_split _ _ hiF] at hm
      exact ⟨fun h' => hm (List.mem_append_left _ (List.mem_append_left _ h')), fun h' => hm (List.mem_append_right _ h')⟩
theorem mem_flat_set {i g : Nat} {F : List Nat} (hi : i < Fs.length) (h : g ∈ (Fs.set i F).flatten) : g ∈ Fs.flatten ∨ g ∈ F := by
  rw [flat_set _ _ hi] at h
  rw [flat_split _ _ hi]
  rcases List.mem_append.1 h with h | h
  · rcases List.mem_append.1 h with h | h
    · exact .inl (List.mem_append_left _ (List.mem_append_left _ h))
    · exact .inr h
  · exact .inl (List.mem_append_right _ h)
theorem OwnAll.append {cs' : List CS} {vs' : List Value} {Fs' : List (List Nat)} (h : OwnAll w cs vs Fs) (k : OwnAll w cs' vs' Fs') (hd : ∀ g ∈ Fs.flatten, g ∉ Fs'.flatten) : OwnAll w (cs ++ cs') (vs ++ vs') (Fs ++ Fs') := by
  refine ⟨by simp [h.lv, k.lv], by simp [h.lf, k.lf], fun i c v F hc hv hF => ?_, ?_⟩
  · rw [List.getElem?_append] at hc hv hF
    rw [h.lv] at hv
    rw [h.lf] at hF
    split at hc
    · rename_i hl
      rw [if_pos hl] at hv hF
      exact h.at_ i c v F hc hv hF
    · rename_i hl
      rw [if_neg hl] at hv hF
      exact k.at_ _ c v F hc hv hF
  · rw [List.flatten_append, List.nodup_append]
    exact ⟨h.nd, k.nd, fun a ha b hb e => hd a ha (e ▸ hb)⟩
theorem OwnAll.nil (w : World) : OwnAll w [] [] [] := ⟨rfl, rfl, fun i c v F h => by simp at h, by simp⟩
theorem OwnAll.cons {c : CS} {v : Value} {F : List Nat} (ho : c.own w F v) (h : OwnAll w cs vs Fs) (hd : ∀ g ∈ F, g ∉ Fs.flatten) : OwnAll w (c :: cs) (v :: vs) (F :: Fs) := by
  refine ⟨by simp [h.lv], by simp [h.lf], fun i d u G hd' hu hG => ?_, ?_⟩
  · cases i with
    | zero => simp at hd' hu hG; subst hd'; subst hu; subst hG; exact ho
    | succ i => exact h.at_ i d u G (by simpa using hd') (by simpa using hu) (by simpa using hG)
  · rw [List.flatten_cons, List.nodup_append]
    exact ⟨c.nd ho, h.nd, fun a ha b hb e => hd a ha (e ▸ hb)⟩
theorem OwnAll.head {c : CS} (h : OwnAll w (c :: cs) vs Fs) : ∃ v us F Gs, vs = v :: us ∧ Fs = F :: Gs ∧ c.own w F v ∧ OwnAll w cs us Gs ∧ ∀ g ∈ F, g ∉ Gs.flatten := by
  cases vs with
  | nil => have := h.lv; simp at this
  | cons v us =>
    cases Fs with
    | nil => have := h.lf; simp at this
    | cons F Gs =>
      have hnd := h.nd
      rw [List.flatten_cons, List.nodup_append] at hnd
      exact ⟨v, us, F, Gs, rfl, rfl, h.at_ 0 c v F rfl rfl rfl, ⟨by have := h.lv; simpa using this, by have := h.lf; simpa using this, fun i d u G hd hu hG => h.at_ (i + 1) d u G (by simpa using hd) (by simpa using hu) (by simpa using hG), hnd.2.1⟩, fun g hg hg' => hnd.2.2 g hg g hg' rfl⟩
theorem OwnAll.none (h : OwnAll w [] vs Fs) : vs = [] ∧ Fs = [] := ⟨List.eq_nil_of_length_eq_zero h.lv, List.eq_nil_of_length_eq_zero h.lf⟩
theorem ownAll_pl (l : List Value) (h : ∀ u ∈ l, u.oneCell' = true) (w : World) : OwnAll w (l.map CS.pl) l (l.map fun _ => []) := by
  induction l with
  | nil => exact OwnAll.nil w
  | cons x xs ih => exact OwnAll.cons ⟨rfl, rfl, h x (List.mem_cons_self ..)⟩ (ih fun u hu => h u (List.mem_cons_of_mem _ hu)) (by simp)
theorem rdAll_pl_eq {w : World} {l vs : List Value} (h : RdAll w (l.map CS.pl) vs) : vs = l := by
  induction l generalizing vs with
  | nil => exact RdAll.none h
  | cons x xs ih =>
    obtain ⟨v, us, rfl, h1, h2⟩ := RdAll.head h
    rw [ih h2, h1.1]
theorem ownAll_pl_eq {w : World} {l vs : List Value} {Fs : List (List Nat)} (h : OwnAll w (l.map CS.pl) vs Fs) : Fs.flatten = [] := by
  induction l generalizing vs Fs with
  | nil => rw [(OwnAll.none h).2]; rfl
  | cons x xs ih =>
    obtain ⟨v, us, F, Gs, rfl, rfl, h1, h2, _⟩ := OwnAll.head h
    rw [List.flatten_cons, ih h2, h1.1]; rfl
theorem flat_nils {α β : Type} (xs : List α) : ((xs.map fun _ => ([] : List β))).flatten = [] := by
  induction xs with
  | nil => rfl
  | cons x xs ih => simp
end
theorem own_rd2 {w : World} {lo : Nat} {e : TypeId} {s n : Nat} {cs : List Value} {u : Value} (h : w.ownsRow lo e s u n cs) : ∃ A c, u = .slice A n c ∧ n ≤ c ∧ c ≤ maxLen ∧ Rd w s A n cs := by
  rcases h.2 with ⟨h1, h2⟩ | ⟨g, cap, cur, hv, hb, hg, hnc, hm, r⟩
  · have hn : n = 0 := h2
    subst hn
    exact ⟨none, 0, h1, Nat.le_refl _, by simp, by rw [← show Value.slice none 0 0 = u from h1.symm] at h; exact Rd.ofOwn h⟩
  · refine ⟨some ⟨g, 0, none⟩, cap, hv, hnc, hm, ?_⟩
    rw [hv] at h
    exact Rd.ofOwn h
def row (e : TypeId) (s : Nat) (cs : List CS) : CS where
  rd w v := ∃ A n c vs, v = .slice A n c ∧ n ≤ c ∧ c ≤ maxLen ∧ cs.length = n * s ∧ RdAll w cs vs ∧ Rd w s A n vs
  own w F v := ∃ n vs Fs, cs.length = n * s ∧ w.ownsRow 0 e s v n vs ∧ OwnAll w cs vs Fs ∧ F = v.ownBlock.toList ++ Fs.flatten ∧ F.Nodup
  grow h hg := by
    obtain ⟨A, n, c, vs, h1, h2, h3, h4, h5, h6⟩ := h
    exact ⟨A, n, c, vs, h1, h2, h3, h4, h5.grow hg, h6.grow hg⟩
  toRd h := by
    obtain ⟨n, vs, Fs, h1, h2, h3, _, _⟩ := h
    obtain ⟨A, c, rfl, hc, hm, hr⟩ := own_rd2 h2
    exact ⟨A, n, c, vs, rfl, hc, hm, h1, h3.rd, hr⟩
  kept h hk := by
    obtain ⟨n, vs, Fs, h1, h2, h3, h4, h5⟩ := h
    subst h4
    refine ⟨n, vs, Fs, h1, ⟨h2.1, ?_⟩, h3.kept fun g hg => hk g (List.mem_append_right _ hg), rfl, h5⟩
    rcases h2.2 with h' | ⟨g, cap, cur, hv, hb, hg, r⟩
    · exact .inl h'
    · exact .inr ⟨g, cap, cur, hv, hb, by rw [hk g (List.mem_append_left _ (by rw [hv]; simp [Value.ownBlock]))]; exact hg, r⟩
  lt h := by
    obtain ⟨n, vs, Fs, h1, h2, h3, h4, h5⟩ := h
    subst h4
    intro g hg
    rcases List.mem_append.1 hg with hg | hg
    · exact (h2.lt g (by simpa using hg)).2
    · exact h3.lt g hg
  nd h := by obtain ⟨n, vs, Fs, h1, h2, h3, h4, h5⟩ := h; exact h5
  one h := by obtain ⟨A, n, c, vs, rfl, _⟩ := h; rfl
theorem row_form {e : TypeId} {s : Nat} {cs : List CS} {w : World} {F : List Nat} {v : Value} (h : (row e s cs).own w F v) : ∃ A n c, v = .slice A n c := by
  obtain ⟨n, vs, Fs, _, h2, _⟩ := h
  obtain ⟨A, c, hv, _⟩ := own_rd2 h2
  exact ⟨A, n, c, hv⟩
def lst {α : Type} (e : TypeId) (s : Nat) (f : α → List CS) (xs : List α) : CS := row e s (xs.flatMap f)
def plst {α : Type} (e : TypeId) (s : Nat) (f : α → List Value) (xs : List α) : CS := lst e s (fun x => (f x).map CS.pl) xs
def fiC (z : Int) : List Value := [.int .i64 z]
def fbC (b : Bool) : List Value := [.bool b]
abbrev cints (xs : List Int) : CS := plst 3 1 fiC xs
abbrev cbools (xs : List Bool) : CS := plst 4 1 fbC xs
theorem div_of {a n s : Nat} (hs : 0 < s) (h : a * s = n * s) : a = n := Nat.eq_of_mul_eq_mul_right hs h
section
variable {α : Type} {e : TypeId} {s : Nat} {f : α → List CS} {xs : List α} {w w' : World} {v : Value} {F : List Nat}
theorem lst_rd (hf : ∀ x, (f x).length = s) (hs : 0 < s) (h : (lst e s f xs).rd w v) : ∃ A c vs, v = .slice A xs.length c ∧ xs.length ≤ c ∧ c ≤ maxLen ∧ RdAll w (xs.flatMap f) vs ∧ Rd w s A xs.length vs := by
  obtain ⟨A, n, c, vs, h1, h2, h3, h4, h5, h6⟩ := h
  rw [flat_len hf] at h4
  have := div_of hs h4
  subst this
  exact ⟨A, c, vs, h1, h2, h3, h5, h6⟩
end
theorem flat_pl {α : Type} (f : α → List Value) (xs : List α) : (xs.flatMap fun x => (f x).map CS.pl) = (xs.flatMap f).map CS.pl := by
  induction xs with
  | nil => rfl
  | cons x xs ih => rw [List.flatMap_cons, List.flatMap_cons, List.map_append, ih]
theorem flat_one {α β : Type} (f : α → β) (xs : List α) : (xs.flatMap fun z => [f z]) = xs.map f := by
  induction xs with
  | nil => rfl
  | cons x xs ih => rw [List.flatMap_cons, ih]; rfl
section
variable {α : Type} {e : TypeId} {s : Nat} {f : α → List Value} {xs : List α} {w : World} {v : Value}
theorem plst_rd (hf : ∀ x, (f x).length = s) (hs : 0 < s) (h : (plst e s f xs).rd w v) : ∃ A c, v = .slice A xs.length c ∧ xs.length ≤ c ∧ c ≤ maxLen ∧ FL f s w A xs.length xs := by
  obtain ⟨A, c, vs, rfl, h1, h2, h3, h4⟩ := lst_rd (s := s) (fun x => by rw [List.length_map, hf]) hs h
  refine ⟨A, c, rfl, h1, h2, rfl, ?_⟩
  rw [flat_pl] at h3
  rw [rdAll_pl_eq h3] at h4
  exact h4
theorem plst_own (hf : ∀ x, (f x).length = s) (hs : 0 < s) (h1 : ∀ x, ∀ u ∈ f x, u.oneCell' = true) {base n : Nat} (h : w.ownsRow base e s v n (xs.flatMap f)) : (plst e s f xs).own w v.ownBlock.toList v := by
  have hl : xs.length = n := by have := h.1; rw [flat_len hf] at this; exact div_of hs this
  refine ⟨n, _, (xs.flatMap f).map fun _ => [], ?_, own_base h (Nat.zero_le _), ?_, by rw [flat_nils, List.append_nil], ?_⟩
  · rw [flat_pl, List.length_map, flat_len hf, hl]
  · rw [flat_pl]
    exact ownAll_pl _ (fun u hu => by obtain ⟨x, _, hx⟩ := List.mem_flatMap.1 hu; exact h1 x u hx) w
  · cases v.ownBlock <;> simp
theorem plst_row (hf : ∀ x, (f x).length = s) (hs : 0 < s) {F : List Nat} (h : (plst e s f xs).own w F v) : ∃ A c, v = .slice A xs.length c ∧ F = v.ownBlock.toList ∧ ∀ lo, (∀ g ∈ F, lo ≤ g) → w.ownsRow lo e s v xs.length (xs.flatMap f) := by
  obtain ⟨A, c, hv, _⟩ := plst_rd hf hs ((plst e s f xs).toRd h)
  obtain ⟨n, vs, Fs, h1, h2, h3, h4, h5⟩ := h
  rw [flat_pl, List.length_map, flat_len hf] at h1
  have h1 := div_of hs h1
  subst h1
  rw [flat_pl] at h3
  have e1 := rdAll_pl_eq h3.rd
  have e2 := ownAll_pl_eq h3
  rw [e2, List.append_nil] at h4
  subst e1
  exact ⟨A, c, hv, h4, fun lo hlo => own_rebase h2 fun g hg => hlo g (by rw [h4, hg]; simp)⟩
end
theorem fiC_one (x : Int) : ∀ u ∈ fiC x, u.oneCell' = true := by simp [fiC, Value.oneCell']
theorem flat_fiC (xs : List Int) : xs.flatMap fiC = xs.map (Value.int .i64) := flat_one _ xs
theorem cints_rd {w : World} {xs : List Int} {v : Value} (h : (cints xs).rd w v) : ∃ A c, v = .slice A xs.length c ∧ xs.length ≤ c ∧ c ≤ maxLen ∧ Ints w A xs.length xs := by
  obtain ⟨A, c, h1, h2, h3, h4⟩ := plst_rd (s := 1) (fun _ => rfl) (by omega) h
  exact ⟨A, c, h1, h2, h3, by have := h4.rd; rw [flat_fiC] at this; exact this⟩
theorem cints_rd' {w : World} {xs : List Int} {A : Option Addr} {n c : Nat} (h : (cints xs).rd w (.slice A n c)) : xs.length = n ∧ n ≤ c ∧ c ≤ maxLen ∧ Ints w A n xs := by
  obtain ⟨A', c', hv, h1, h2, h3⟩ := cints_rd h
  injection hv with e1 e2 e3
  subst e1; subst e2; subst e3
  exact ⟨rfl, h1, h2, h3⟩
theorem cints_own {w : World} {base n : Nat} {v : Value} {xs : List Int} (h : w.ownsRow base 3 1 v n (xs.map (Value.int .i64))) : (cints xs).own w v.ownBlock.toList v := by
  rw [← flat_fiC] at h
  exact plst_own (s := 1) (fun _ => rfl) (by omega) fiC_one h
theorem cints_row {w : World} {F : List Nat} {v : Value} {xs : List Int} (h : (cints xs).own w F v) : ∃ A c, v = .slice A xs.length c ∧ F = v.ownBlock.toList ∧ ∀ lo, (∀ g ∈ F, lo ≤ g) → w.ownsRow lo 3 1 v xs.length (xs.map (Value.int .i64)) := by
  obtain ⟨A, c, h1, h2, h3⟩ := plst_row (s := 1) (fun _ => rfl) (by omega) h
  exact ⟨A, c, h1, h2, fun lo hlo => by have := h3 lo hlo; rw [flat_fiC] at this; exact this⟩
end Go.Proofs.Ythdfkiaoahpjpaa
