/-
  Oblivious memory, with no program in sight: what a well-formed memory is, what an access does, and that it keeps the memory well-formed and answers like an array.
-/
import Derived.Lib.Hide
namespace Go.Proofs.Ythncoohkdmjcaaa
/-- Blocks: an id, a value. -/
abbrev Bk := Int × Int
structure OM where
  bk : List (List Bk)
  st : List Bk
  pos : List Int
def opath (leaf : Int) : List Nat :=
  if 0 ≤ leaf ∧ leaf ≤ 7 then [leaf.toNat + 7, (leaf.toNat + 6) / 2, ((leaf.toNat + 6) / 2 - 1) / 2, 0] else []
def OM.all (o : OM) : List Bk := o.bk.flatten ++ o.st
def OM.leaf (o : OM) (id : Int) : Int := o.pos.getD id.toNat 0
def bkOk (b : Bk) : Prop := 0 ≤ b.1 ∧ b.1 ≤ 11 ∧ 0 ≤ b.2 ∧ b.2 ≤ 4294967295
structure OOk (o : OM) : Prop where
  nb : o.bk.length = 15
  np : o.pos.length = 12
  pr : ∀ p ∈ o.pos, 0 ≤ p ∧ p ≤ 7
  room : ∀ l ∈ o.bk, l.length ≤ 2
  rng : ∀ b ∈ o.all, bkOk b
  nd : (o.all.map (·.1)).Nodup
  path : ∀ i l, o.bk[i]? = some l → ∀ b ∈ l, i ∈ opath (o.leaf b.1)
theorem opath_nodup (leaf : Int) : (opath leaf).Nodup := by
  unfold opath
  split
  · rename_i h
    obtain ⟨k, rfl⟩ := Int.eq_ofNat_of_zero_le h.1
    have hk : k ≤ 7 := by omega
    simp only [Int.toNat_natCast]
    have hk' : k = 0 ∨ k = 1 ∨ k = 2 ∨ k = 3 ∨ k = 4 ∨ k = 5 ∨ k = 6 ∨ k = 7 := by omega
    rcases hk' with rfl | rfl | rfl | rfl | rfl | rfl | rfl | rfl <;> decide
  · simp
theorem opath_lt {leaf : Int} {k : Nat} (h : k ∈ opath leaf) : k < 15 := by
  unfold opath at h
  split at h
  · simp at h; omega
  · simp at h
theorem opath_len {leaf : Int} (h0 : 0 ≤ leaf) (h1 : leaf ≤ 7) : (opath leaf).length = 4 := by simp [opath, h0, h1]

/-- The blocks of some buckets go to the stash. -/
def evict1 (o : OM) (k : Nat) : OM := { o with st := o.st ++ o.bk.getD k [], bk := o.bk.set k [] }
def evict (o : OM) (ks : List Nat) : OM := ks.foldl evict1 o
/-- One block of the stash goes to bucket k, or stays. -/
def fillStep (o : OM) (k : Nat) (a : List Bk × List Bk) (b : Bk) : List Bk × List Bk :=
  if a.1.length < 2 ∧ k ∈ opath (o.leaf b.1) then (a.1 ++ [b], a.2) else (a.1, a.2 ++ [b])
def fillR (o : OM) (k : Nat) (l : List Bk) : List Bk × List Bk := l.foldl (fillStep o k) (o.bk.getD k [], [])
def fill1 (o : OM) (k : Nat) : OM := { o with bk := o.bk.set k (fillR o k o.st).1, st := (fillR o k o.st).2 }
def fill (o : OM) (ks : List Nat) : OM := ks.foldl fill1 o
/-- The value of a block in a list: 0 if it is not there. -/
def bval (l : List Bk) (id : Int) : Int := ((l.find? (·.1 == id)).map (·.2)).getD 0
def bhas (l : List Bk) (id : Int) : Bool := l.any (·.1 == id)
def bput (l : List Bk) (id v : Int) : List Bk := if bhas l id then l.map (fun b => if b.1 = id then (b.1, v) else b) else l ++ [(id, v)]
/-- What an access makes of a memory. -/
def acc1 (o : OM) (id : Int) : OM := evict o (opath (o.leaf id))
def acc2 (o : OM) (id : Int) (write : Bool) (value leaf : Int) : OM :=
  { acc1 o id with st := if write then bput (acc1 o id).st id value else (acc1 o id).st, pos := o.pos.set id.toNat leaf }
def acc (o : OM) (id : Int) (write : Bool) (value leaf : Int) : OM := fill (acc2 o id write value leaf) (opath (o.leaf id))
def accV (o : OM) (id : Int) : Int := bval (acc1 o id).st id
def oval (o : OM) (id : Int) : Int := bval o.all id

theorem getD_get {α : Type} (l : List α) (d : α) (k : Nat) (h : k < l.length) : l.getD k d = l[k] := by simp [List.getD_eq_getElem?_getD, List.getElem?_eq_getElem h]
theorem flatten_split {α : Type} (l : List (List α)) (k : Nat) (h : k < l.length) : l.flatten = (l.take k).flatten ++ l[k] ++ (l.drop (k + 1)).flatten := by
  conv => lhs; rw [← List.take_append_drop k l, List.drop_eq_getElem_cons h, List.flatten_append, List.flatten_cons, ← List.append_assoc]
theorem flatten_set {α : Type} (l : List (List α)) (k : Nat) (h : k < l.length) (x : List α) : (l.set k x).flatten = (l.take k).flatten ++ x ++ (l.drop (k + 1)).flatten := by
  rw [List.set_eq_take_append_cons_drop, if_pos h]
  simp
theorem evict1_perm (o : OM) (k : Nat) (h : k < o.bk.length) : (evict1 o k).all.Perm o.all := by
  unfold OM.all evict1
  simp only
  rw [flatten_set _ _ h, flatten_split _ _ h, getD_get _ _ _ h, List.append_nil]
  generalize (o.bk.take k).flatten = A
  generalize (o.bk.drop (k + 1)).flatten = B
  generalize o.bk[k] = C
  rw [List.append_assoc, List.append_assoc, List.append_assoc]
  refine List.Perm.append_left A ?_
  refine List.Perm.trans ?_ (List.perm_append_comm (l₁ := B ++ o.st) (l₂ := C) |>.trans (by simp))
  simp
theorem evict1_bk (o : OM) (k : Nat) : (evict1 o k).bk = o.bk.set k [] := rfl
theorem evict_len : ∀ (ks : List Nat) (o : OM), (evict o ks).bk.length = o.bk.length ∧ (evict o ks).pos = o.pos
  | [], _ => ⟨rfl, rfl⟩
  | k :: ks, o => by
    have := evict_len ks (evict1 o k)
    exact ⟨this.1.trans (by simp [evict1]), this.2⟩
theorem evict_perm : ∀ (ks : List Nat) (o : OM), (∀ k ∈ ks, k < o.bk.length) → (evict o ks).all.Perm o.all
  | [], _, _ => List.Perm.refl _
  | k :: ks, o, h => (evict_perm ks (evict1 o k) (fun j hj => by simpa [evict1] using h j (List.mem_cons_of_mem _ hj))).trans (evict1_perm o k (h k (List.mem_cons_self ..)))
theorem evict_at : ∀ (ks : List Nat) (o : OM) (i : Nat) (l : List Bk), (evict o ks).bk[i]? = some l → (i ∈ ks → l = []) ∧ (i ∉ ks → o.bk[i]? = some l)
  | [], _, _, _, h => ⟨fun h => by simp at h, fun _ => h⟩
  | k :: ks, o, i, l, h => by
    obtain ⟨h1, h2⟩ := evict_at ks (evict1 o k) i l h
    have h3 : i ∉ ks → (o.bk.set k [])[i]? = some l := h2
    refine ⟨fun hi => ?_, fun hi => ?_⟩
    · by_cases hik : i ∈ ks
      · exact h1 hik
      · have e : i = k := by simpa [hik] using hi
        subst e
        have := h3 hik
        rw [List.getElem?_set] at this
        simp at this
        first | exact this.2 | exact this.2.symm
    · simp at hi
      have := h3 hi.2
      rw [List.getElem?_set, if_neg (Ne.symm hi.1)] at this
      exact this
/-- The stash after: what was there, then the buckets one after the other. -/
theorem evict_st : ∀ (ks : List Nat) (o : OM), ks.Nodup → (evict o ks).st = o.st ++ (ks.map fun k => o.bk.getD k []).flatten
  | [], _, _ => by simp [evict]
  | k :: ks, o, h => by
    have hk := List.nodup_cons.1 h
    have := evict_st ks (evict1 o k) hk.2
    show (evict (evict1 o k) ks).st = _
    rw [this]
    have hm : (ks.map fun j => (evict1 o k).bk.getD j []) = ks.map fun j => o.bk.getD j [] := by
      apply List.map_congr_left
      intro j hj
      have : k ≠ j := fun e => hk.1 (e ▸ hj)
      simp [evict1, List.getD_eq_getElem?_getD, this]
    rw [hm]
    simp [evict1]

theorem fillR_perm (o : OM) (k : Nat) : ∀ (l : List Bk) (a : List Bk × List Bk), ((l.foldl (fillStep o k) a).1 ++ (l.foldl (fillStep o k) a).2).Perm (a.1 ++ a.2 ++ l)
  | [], a => by simp
  | b :: l, a => by
    refine (fillR_perm o k l (fillStep o k a b)).trans ?_
    unfold fillStep
    split
    · simp only [List.append_assoc]
      refine List.Perm.append_left _ ?_
      simp only [List.singleton_append]
      refine List.Perm.trans ?_ (List.perm_middle (l₁ := a.2) (l₂ := l) (a := b)).symm
      simp
    · simp
theorem fillR_len (o : OM) (k : Nat) : ∀ (l : List Bk) (a : List Bk × List Bk), a.1.length ≤ 2 → (l.foldl (fillStep o k) a).1.length ≤ 2
  | [], a, h => h
  | b :: l, a, h => by
    refine fillR_len o k l (fillStep o k a b) ?_
    unfold fillStep
    split
    · simp; omega
    · exact h
theorem fillR_path (o : OM) (k : Nat) : ∀ (l : List Bk) (a : List Bk × List Bk), (∀ b ∈ a.1, k ∈ opath (o.leaf b.1)) → ∀ b ∈ (l.foldl (fillStep o k) a).1, k ∈ opath (o.leaf b.1)
  | [], a, h => h
  | b :: l, a, h => by
    refine fillR_path o k l (fillStep o k a b) ?_
    unfold fillStep
    split
    · rename_i hc
      intro x hx
      rcases List.mem_append.1 hx with hx | hx
      · exact h x hx
      · simp at hx; subst hx; exact hc.2
    · exact h
theorem fill1_perm (o : OM) (k : Nat) (h : k < o.bk.length) : (fill1 o k).all.Perm o.all := by
  unfold OM.all fill1
  simp only
  rw [flatten_set _ _ h, flatten_split _ _ h]
  have hp := fillR_perm o k o.st (o.bk.getD k [], [])
  rw [getD_get _ _ _ h, List.append_nil] at hp
  unfold fillR
  rw [getD_get _ _ _ h]
  generalize List.foldl (fillStep o k) (o.bk[k], []) o.st = r at *
  generalize (o.bk.take k).flatten = A
  generalize (o.bk.drop (k + 1)).flatten = B
  generalize o.bk[k] = C at *
  obtain ⟨X, Y⟩ := r
  simp only [List.append_assoc] at hp ⊢
  refine List.Perm.append_left A ?_
  have e1 : (X ++ (B ++ Y)).Perm (B ++ (X ++ Y)) := by
    rw [← List.append_assoc, ← List.append_assoc]
    exact List.Perm.append_right Y List.perm_append_comm
  have e2 : (C ++ (B ++ o.st)).Perm (B ++ (C ++ o.st)) := by
    rw [← List.append_assoc, ← List.append_assoc]
    exact List.Perm.append_right _ List.perm_append_comm
  exact e1.trans ((List.Perm.append_left B hp).trans e2.symm)
theorem fill_len : ∀ (ks : List Nat) (o : OM), (fill o ks).bk.length = o.bk.length ∧ (fill o ks).pos = o.pos
  | [], _ => ⟨rfl, rfl⟩
  | k :: ks, o => by
    have := fill_len ks (fill1 o k)
    exact ⟨this.1.trans (by simp [fill1]), this.2⟩
theorem fill_perm : ∀ (ks : List Nat) (o : OM), (∀ k ∈ ks, k < o.bk.length) → (fill o ks).all.Perm o.all
  | [], _, _ => List.Perm.refl _
  | k :: ks, o, h => (fill_perm ks (fill1 o k) (fun j hj => by simpa [fill1] using h j (List.mem_cons_of_mem _ hj))).trans (fill1_perm o k (h k (List.mem_cons_self ..)))
/-- Room and paths of the buckets. -/
def Placed (o : OM) : Prop := ∀ i l, o.bk[i]? = some l → l.length ≤ 2 ∧ ∀ b ∈ l, i ∈ opath (o.leaf b.1)
theorem fill1_placed (o : OM) (k : Nat) (h : Placed o) : Placed (fill1 o k) := by
  intro i l hl
  have hl' : (o.bk.set k (fillR o k o.st).1)[i]? = some l := hl
  rw [List.getElem?_set] at hl'
  split at hl'
  · split at hl'
    · rename_i e hk
      subst e
      injection hl' with hl'
      subst hl'
      have h0 : (o.bk.getD k []).length ≤ 2 ∧ ∀ b ∈ o.bk.getD k [], k ∈ opath (o.leaf b.1) := by
        rw [getD_get _ _ _ hk]
        exact h k _ (List.getElem?_eq_getElem hk)
      exact ⟨fillR_len o k o.st _ h0.1, fun b hb => fillR_path o k o.st _ h0.2 b hb⟩
    · cases hl'
  · exact h i l hl'
theorem fill_placed : ∀ (ks : List Nat) (o : OM), Placed o → Placed (fill o ks)
  | [], _, h => h
  | k :: ks, o, h => fill_placed ks (fill1 o k) (fill1_placed o k h)

theorem bput_ids (l : List Bk) (id v : Int) : ((bput l id v).map (·.1)) = if bhas l id then l.map (·.1) else l.map (·.1) ++ [id] := by
  unfold bput
  split
  · rw [List.map_map]
    apply List.map_congr_left
    intro b _
    simp only [Function.comp]
    split <;> rfl
  · simp
theorem bhas_iff (l : List Bk) (id : Int) : bhas l id = true ↔ id ∈ l.map (·.1) := by simp [bhas]
theorem bput_mem {l : List Bk} {id v : Int} {b : Bk} (h : b ∈ bput l id v) : b = (id, v) ∨ (b ∈ l ∧ b.1 ≠ id) := by
  unfold bput at h
  split at h
  · obtain ⟨x, hx, rfl⟩ := List.mem_map.1 h
    split
    · rename_i e; exact .inl (by rw [e])
    · rename_i e; exact .inr ⟨hx, e⟩
  · rename_i hn
    rcases List.mem_append.1 h with h | h
    · exact .inr ⟨h, fun e => hn ((bhas_iff l id).2 (List.mem_map.2 ⟨b, h, e⟩))⟩
    · simp at h; exact .inl h
theorem mem_bput (l : List Bk) (id v : Int) : (id, v) ∈ bput l id v := by
  unfold bput
  split
  · rename_i h
    obtain ⟨b, hb, e⟩ := List.mem_map.1 ((bhas_iff l id).1 h)
    exact List.mem_map.2 ⟨b, hb, by simp [e]⟩
  · simp
theorem mem_bput_of {l : List Bk} {id v : Int} {b : Bk} (h : b ∈ l) (hne : b.1 ≠ id) : b ∈ bput l id v := by
  unfold bput
  split
  · exact List.mem_map.2 ⟨b, h, by simp [hne]⟩
  · exact List.mem_append_left _ h

theorem bval_mem {l : List Bk} (hnd : (l.map (·.1)).Nodup) {id v : Int} (h : (id, v) ∈ l) : bval l id = v := by
  unfold bval
  cases hf : l.find? (·.1 == id) with
  | none =>
    have := List.find?_eq_none.1 hf _ h
    simp at this
  | some b =>
    have h1 := List.find?_some hf
    have h2 := List.mem_of_find?_eq_some hf
    simp at h1
    obtain ⟨i, hi, ei⟩ := List.getElem_of_mem h2
    obtain ⟨j, hj, ej⟩ := List.getElem_of_mem h
    have hij : i = j := by
      have hp := List.pairwise_iff_getElem.1 hnd
      rcases Nat.lt_trichotomy i j with h3 | h3 | h3
      · exact (hp i j (by simpa using hi) (by simpa using hj) h3 (by simp [ei, ej, h1])).elim
      · exact h3
      · exact (hp j i (by simpa using hj) (by simpa using hi) h3 (by simp [ei, ej, h1])).elim
    subst hij
    rw [ei] at ej
    subst ej
    rfl
theorem bval_none {l : List Bk} {id : Int} (h : ∀ b ∈ l, b.1 ≠ id) : bval l id = 0 := by
  unfold bval
  have : l.find? (·.1 == id) = none := List.find?_eq_none.2 fun b hb => by simpa using h b hb
  rw [this]; rfl
/-- Two lists with the same blocks of an id answer alike. -/
theorem bval_alike {l m : List Bk} (hl : (l.map (·.1)).Nodup) (hm : (m.map (·.1)).Nodup) {id : Int} (h : ∀ v, (id, v) ∈ l ↔ (id, v) ∈ m) : bval l id = bval m id := by
  by_cases he : ∃ v, (id, v) ∈ l
  · obtain ⟨v, hv⟩ := he
    rw [bval_mem hl hv, bval_mem hm ((h v).1 hv)]
  · have h1 : ∀ b ∈ l, b.1 ≠ id := fun b hb e => he ⟨b.2, by rw [← e]; exact hb⟩
    have h2 : ∀ b ∈ m, b.1 ≠ id := fun b hb e => he ⟨b.2, (h b.2).2 (by rw [← e]; exact hb)⟩
    rw [bval_none h1, bval_none h2]

section
variable {o : OM} {id value leaf : Int} {write : Bool}
theorem OOk.leaf_in (h : OOk o) {j : Int} (h0 : 0 ≤ j) (h1 : j ≤ 11) : 0 ≤ o.leaf j ∧ o.leaf j ≤ 7 := by
  have hl : j.toNat < o.pos.length := by rw [h.np]; omega
  unfold OM.leaf
  rw [getD_get _ _ _ hl]
  exact h.pr _ (List.getElem_mem hl)
theorem OOk.placed (h : OOk o) : Placed o := fun i l hl => ⟨h.room l (List.mem_of_getElem? hl), h.path i l hl⟩
theorem acc1_perm (h : OOk o) : (acc1 o id).all.Perm o.all := evict_perm _ o fun k hk => by rw [h.nb]; exact opath_lt hk
/-- The block that was asked for lies in the stash now, if it lies anywhere. -/
theorem acc1_mine (h : OOk o) {b : Bk} (hb : b ∈ (acc1 o id).all) (e : b.1 = id) : b ∈ (acc1 o id).st := by
  unfold OM.all at hb
  rcases List.mem_append.1 hb with hb | hb
  · exfalso
    obtain ⟨l, hl, hbl⟩ := List.mem_flatten.1 hb
    obtain ⟨i, hi⟩ := List.mem_iff_getElem?.1 hl
    obtain ⟨h1, h2⟩ := evict_at _ o i l hi
    by_cases hik : i ∈ opath (o.leaf id)
    · rw [h1 hik] at hbl; cases hbl
    · exact hik (e ▸ h.path i l (h2 hik) b hbl)
  · exact hb
theorem acc1_nd (h : OOk o) : ((acc1 o id).all.map (·.1)).Nodup := ((acc1_perm h).map _).nodup_iff.2 h.nd
theorem accV_is (h : OOk o) : accV o id = oval o id := by
  unfold accV oval
  have h1 := acc1_nd (id := id) h
  have hs : (((acc1 o id).st).map (·.1)).Nodup := by
    unfold OM.all at h1
    rw [List.map_append, List.nodup_append] at h1
    exact h1.2.1
  refine bval_alike hs h.nd fun v => ?_
  constructor
  · intro hv
    exact (acc1_perm h).mem_iff.1 (List.mem_append_right _ hv)
  · intro hv
    exact acc1_mine h ((acc1_perm h).mem_iff.2 hv) rfl
theorem mem_all_bput (bk : List (List Bk)) (st : List Bk) (hn : ∀ b ∈ bk.flatten, b.1 ≠ id) (v : Int) (b : Bk) :
    b ∈ bk.flatten ++ bput st id v ↔ b = (id, v) ∨ (b ∈ bk.flatten ++ st ∧ b.1 ≠ id) := by
  constructor
  · intro h
    rcases List.mem_append.1 h with h | h
    · exact .inr ⟨List.mem_append_left _ h, hn b h⟩
    · rcases bput_mem h with h | h
      · exact .inl h
      · exact .inr ⟨List.mem_append_right _ h.1, h.2⟩
  · rintro (rfl | ⟨h, e⟩)
    · exact List.mem_append_right _ (mem_bput _ _ _)
    · rcases List.mem_append.1 h with h | h
      · exact List.mem_append_left _ h
      · exact List.mem_append_right _ (mem_bput_of h e)
theorem nd_bput (bk : List (List Bk)) (st : List Bk) (hn : ∀ b ∈ bk.flatten, b.1 ≠ id) (v : Int) (h : ((bk.flatten ++ st).map (·.1)).Nodup) : ((bk.flatten ++ bput st id v).map (·.1)).Nodup := by
  rw [List.map_append, bput_ids]
  rw [List.map_append] at h
  split
  · exact h
  · rename_i hb
    rw [← List.append_assoc]
    rw [List.nodup_append]
    refine ⟨h, by simp, fun a ha b hb' => ?_⟩
    simp at hb'
    subst hb'
    intro e
    subst e
    rcases List.mem_append.1 ha with ha | ha
    · obtain ⟨x, hx, hxe⟩ := List.mem_map.1 ha
      exact hn x hx hxe
    · exact hb ((bhas_iff st a).2 ha)
/-- The buckets after the path's have been emptied hold no block of the id. -/
theorem acc1_none (h : OOk o) : ∀ b ∈ (acc1 o id).bk.flatten, b.1 ≠ id := by
  intro b hb e
  obtain ⟨l, hl, hbl⟩ := List.mem_flatten.1 hb
  obtain ⟨i, hi⟩ := List.mem_iff_getElem?.1 hl
  obtain ⟨h1, h2⟩ := evict_at _ o i l hi
  by_cases hik : i ∈ opath (o.leaf id)
  · rw [h1 hik] at hbl; cases hbl
  · exact hik (e ▸ h.path i l (h2 hik) b hbl)
theorem acc2_bk : (acc2 o id write value leaf).bk = (acc1 o id).bk := rfl
theorem acc2_pos : (acc2 o id write value leaf).pos = o.pos.set id.toNat leaf := rfl
theorem acc2_nd (h : OOk o) : ((acc2 o id write value leaf).all.map (·.1)).Nodup := by
  have h1 := acc1_nd (id := id) h
  cases write with
  | false => exact h1
  | true => exact nd_bput _ _ (acc1_none h) _ h1
theorem acc2_mem (h : OOk o) (b : Bk) : b ∈ (acc2 o id true value leaf).all ↔ b = (id, value) ∨ (b ∈ o.all ∧ b.1 ≠ id) := by
  have h1 := mem_all_bput (acc1 o id).bk (acc1 o id).st (acc1_none h) value b
  rw [← (acc1_perm (id := id) h).mem_iff]
  exact h1
theorem acc2_read (h : OOk o) (b : Bk) : b ∈ (acc2 o id false value leaf).all ↔ b ∈ o.all := (acc1_perm (id := id) h).mem_iff
theorem acc_pos : (acc o id write value leaf).pos = o.pos.set id.toNat leaf := (fill_len _ _).2
theorem acc_nb (h : OOk o) : (acc o id write value leaf).bk.length = 15 := by
  rw [← h.nb]
  exact (fill_len _ _).1.trans (evict_len _ _).1
theorem acc_perm (h : OOk o) : (acc o id write value leaf).all.Perm (acc2 o id write value leaf).all := by
  refine fill_perm _ _ fun k hk => ?_
  rw [acc2_bk]
  have : (acc1 o id).bk.length = 15 := (evict_len _ _).1.trans h.nb
  rw [this]
  exact opath_lt hk
theorem acc_mem (h : OOk o) (b : Bk) : b ∈ (acc o id write value leaf).all ↔ if write then b = (id, value) ∨ (b ∈ o.all ∧ b.1 ≠ id) else b ∈ o.all := by
  rw [(acc_perm h).mem_iff]
  cases write with
  | true => simpa using acc2_mem h b
  | false => simpa using acc2_read h b
theorem acc_nd (h : OOk o) : ((acc o id write value leaf).all.map (·.1)).Nodup := ((acc_perm h).map _).nodup_iff.2 (acc2_nd h)
theorem leaf_set_ne {j : Int} (h0 : 0 ≤ id) (hj : 0 ≤ j) (hne : j ≠ id) (o' : OM) (hp : o'.pos = o.pos.set id.toNat leaf) : o'.leaf j = o.leaf j := by
  unfold OM.leaf
  rw [hp, List.getD_eq_getElem?_getD, List.getD_eq_getElem?_getD, List.getElem?_set, if_neg (by omega)]
theorem leaf_set_eq (h : OOk o) (h0 : 0 ≤ id) (h1 : id ≤ 11) (o' : OM) (hp : o'.pos = o.pos.set id.toNat leaf) : o'.leaf id = leaf := by
  unfold OM.leaf
  rw [hp, List.getD_eq_getElem?_getD, List.getElem?_set, if_pos rfl, if_pos (by rw [h.np]; omega)]
  rfl
theorem acc_ok (h : OOk o) (h0 : 0 ≤ id) (h1 : id ≤ 11) (v0 : 0 ≤ value) (v1 : value ≤ 4294967295) (l0 : 0 ≤ leaf) (l1 : leaf ≤ 7) : OOk (acc o id write value leaf) := by
  have hp := acc_pos (o := o) (id := id) (write := write) (value := value) (leaf := leaf)
  have hpl : Placed (acc o id write value leaf) := by
    refine fill_placed _ _ fun i l hl => ?_
    have hl' : (evict o (opath (o.leaf id))).bk[i]? = some l := hl
    obtain ⟨e1, e2⟩ := evict_at _ o i l hl'
    by_cases hik : i ∈ opath (o.leaf id)
    · rw [e1 hik]; simp
    · refine ⟨h.room l (List.mem_of_getElem? (e2 hik)), fun b hb => ?_⟩
      have hbr := h.rng b (List.mem_append_left _ (List.mem_flatten.2 ⟨l, List.mem_of_getElem? (e2 hik), hb⟩))
      have hne : b.1 ≠ id := fun e => hik (e ▸ h.path i l (e2 hik) b hb)
      rw [leaf_set_ne (o := o) (leaf := leaf) h0 hbr.1 hne _ acc2_pos]
      exact h.path i l (e2 hik) b hb
  refine ⟨acc_nb h, by rw [hp]; simp [h.np], fun p hp' => ?_, fun l hl => ?_, fun b hb => ?_, acc_nd h, fun i l hl => (hpl i l hl).2⟩
  · rw [hp] at hp'
    rcases List.mem_or_eq_of_mem_set hp' with h2 | h2
    · exact h.pr p h2
    · subst h2; exact ⟨l0, l1⟩
  · obtain ⟨i, hi⟩ := List.mem_iff_getElem?.1 hl
    exact (hpl i l hi).1
  · have := (acc_mem h b).1 hb
    cases write with
    | false => exact h.rng b (by simpa using this)
    | true =>
      simp at this
      rcases this with rfl | ⟨h2, _⟩
      · exact ⟨h0, h1, v0, v1⟩
      · exact h.rng b h2
/-- It answers like an array. -/
theorem acc_val (h : OOk o) (j : Int) : oval (acc o id write value leaf) j = if write = true ∧ j = id then value else oval o j := by
  unfold oval
  split
  · rename_i hw
    obtain ⟨rfl, rfl⟩ := hw
    exact bval_mem (acc_nd h) ((acc_mem h _).2 (by simp))
  · rename_i hw
    refine bval_alike (acc_nd h) h.nd fun v => ?_
    rw [acc_mem h]
    cases write with
    | false => simp
    | true =>
      have : j ≠ id := fun e => hw ⟨rfl, e⟩
      simp [this]
/-- A reading access loses no block. -/
theorem acc_count (h : OOk o) : (acc o id false value leaf).all.length = o.all.length :=
  (acc_perm h).length_eq.trans (acc1_perm (id := id) h).length_eq
end
end Go.Proofs.Ythncoohkdmjcaaa
