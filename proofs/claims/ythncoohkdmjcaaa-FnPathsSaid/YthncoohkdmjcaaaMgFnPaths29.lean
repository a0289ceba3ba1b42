/-
  An access: what the loops keep, with no walk in sight.
-/
import Derived.Test.YthncoohkdmjcaaaMgFnPaths27
import Derived.Test.YthncoohkdmjcaaaMgFnPaths28
namespace Go.Proofs.Ythncoohkdmjcaaa
open Go.RowKit
set_option linter.unusedVariables false
set_option linter.unusedSimpArgs false
theorem sumL_flat : ∀ (l : List Bks), sumL l l.length = l.flatten.length := by
  intro l
  unfold sumL
  rw [List.take_of_length_le (Nat.le_refl _), List.length_flatten]
theorem all_lenO (m : OM) : m.all.length ≤ m.sz := by
  unfold OM.all OM.sz szB
  rw [List.length_append, sumL_flat]
  omega
theorem evict_next {m : OM} {ks : List Nat} {j k : Nat} (h : ks[j]? = some k) : evict m (ks.take (j + 1)) = evict1 (evict m (ks.take j)) k := by
  unfold evict
  rw [List.take_add_one, h]
  simp
theorem fill_next {m : OM} {ks : List Nat} {j k : Nat} (h : ks[j]? = some k) : fill m (ks.take (j + 1)) = fill1 (fill m (ks.take j)) k := by
  unfold fill
  rw [List.take_add_one, h]
  simp
theorem evict_st_le {m : OM} {ks : List Nat} (h : ∀ k ∈ ks, k < m.bk.length) : (evict m ks).st.length ≤ m.all.length := by
  have h1 := (evict_perm ks m h).length_eq
  unfold OM.all at h1
  rw [List.length_append, List.length_append] at h1
  unfold OM.all
  rw [List.length_append]
  omega
theorem fill_st_le {m : OM} {ks : List Nat} (h : ∀ k ∈ ks, k < m.bk.length) : (fill m ks).st.length ≤ m.all.length := by
  have h1 := (fill_perm ks m h).length_eq
  unfold OM.all at h1
  rw [List.length_append, List.length_append] at h1
  unfold OM.all
  rw [List.length_append]
  omega
/-- The path's row. -/
def PathO (gp cp : Nat) (leaf : Int) (w : World) : Prop := w.ownsRow 0 3 1 (.slice (some ⟨gp, 0, none⟩) 4 cp) 4 ((opathI leaf).map (Value.int .i64))
section
variable {gp cp : Nat} {leaf : Int} {w w' : World}
theorem PathO.chg {S : Nat → Prop} (h : PathO gp cp leaf w) (k : Chg S w w') (hs : ∀ y, S y → y ≠ gp) : PathO gp cp leaf w' := Chg.own h k fun g hg hg' => hs g hg' (by simp [Value.ownBlock] at hg; exact hg.symm)
theorem PathO.grow (h : PathO gp cp leaf w) (k : w.grownBy w' none) : PathO gp cp leaf w' := own_grow h k
theorem PathO.ne_row {e : TypeId} {base s n y : Nat} {v : Value} {xs : List Value} (h : PathO gp cp leaf w) (k : w.ownsRow base e s v n xs) (he : e ≠ 3) (hy : v.ownBlock = some y) : y ≠ gp := by
  intro e1
  subst e1
  obtain ⟨c1, h1⟩ := own_ty' k hy
  obtain ⟨c2, h2⟩ := own_ty' h rfl
  rw [h1] at h2
  injection h2 with h2
  injection h2 with _ h2
  exact he h2
theorem PathO.ne_blocks {l : List Bk} {F : List Nat} {v : Value} (h : PathO gp cp leaf w) (k : (cblocks l).own w F v) {y : Nat} (hy : y ∈ F) : y ≠ gp := by
  obtain ⟨A, c, e1, e2, e3⟩ := plst_row (s := 2) (fun _ => rfl) (by omega) k
  subst e2
  exact h.ne_row (e3 0 (by simp)) (by decide) (by simpa using hy)
theorem PathO.ne_blk {g : Nat} {T : TypeId} {cs : Array Value} (h : PathO gp cp leaf w) (k : Blk w g T cs) (hT : 3 ≠ T) : g ≠ gp := fun e => own_blk_ne h k hT (by rw [e]; rfl)
theorem PathO.at_ (h : PathO gp cp leaf w) {j k : Nat} (hk : (opath leaf)[j]? = some k) : w.cell? ⟨gp, j, none⟩ = some (.int .i64 (k : Int)) := by
  have hl := h.1
  have hj : j < 4 := by
    have h1 := (List.getElem?_eq_some_iff.1 hk).1
    simp [opathI] at hl
    omega
  rw [World.ownsRow.cellAt h j (by omega), List.getElem?_map]
  unfold opathI
  rw [List.getElem?_map, hk]
  rfl
end
theorem row_topo {e : TypeId} {s : Nat} {cs : List CS} {w : World} {F : List Nat} {v : Value} (h : (row e s cs).own w F v) : ∃ n vs, w.ownsRow 0 e s v n vs := by
  obtain ⟨n, vs, Fs, _, h2, _⟩ := h
  exact ⟨n, vs, h2⟩
theorem OS.top {lo g : Nat} {m : OM} {A0 : Option Addr} {n0 c0 : Nat} {u1 u2 : Value} {F0 F1 F2 : List Nat} {w : World} (h : OS lo g m (.slice A0 n0 c0) u1 u2 F0 F1 F2 w) (hb : 0 < m.bk.length) : ∃ g0, A0 = some ⟨g0, 0, none⟩ ∧ g0 ∈ F0 := by
  obtain ⟨g0, n, c, hv, hg⟩ := row_own_slice (by omega) h.b (by rw [cbs_flat]; simpa using hb)
  injection hv with e1 e2 e3
  exact ⟨g0, e1, hg⟩
end Go.Proofs.Ythncoohkdmjcaaa
/-
  An access: the search of the stash, and a value stored into it.
-/
namespace Go.Proofs.Ythncoohkdmjcaaa
open Go.RowKit
set_option linter.unusedVariables false
set_option linter.unusedSimpArgs false
def pv (id v : Int) (b : Bk) : Bk := if b.1 = id then (b.1, v) else b
def stJ (write : Bool) (l : List Bk) (id v : Int) (j : Nat) : List Bk := if write then (l.take j).map (pv id v) ++ l.drop j else l
section
variable {write : Bool} {l : List Bk} {id v : Int} {j : Nat} {b : Bk}
theorem stJ_zero : stJ write l id v 0 = l := by unfold stJ; cases write <;> simp
theorem stJ_len : (stJ write l id v j).length = l.length := by
  unfold stJ
  cases write
  · rfl
  · simp
    omega
theorem stJ_get (h : l[j]? = some b) : (stJ write l id v j)[j]? = some b := by
  have hj := (List.getElem?_eq_some_iff.1 h).1
  unfold stJ
  cases write
  · exact h
  · simp only [if_true]
    rw [List.getElem?_append_right (by simp; omega)]
    simp [h, Nat.min_eq_left (Nat.le_of_lt hj)]
theorem stJ_next (h : l[j]? = some b) : stJ true l id v (j + 1) = (stJ true l id v j).set j (pv id v b) := by
  obtain ⟨hj, hb⟩ := List.getElem?_eq_some_iff.1 h
  unfold stJ
  simp only [if_true]
  rw [List.take_add_one, h, List.drop_eq_getElem_cons hj, hb, List.set_append, if_neg (by simp; omega)]
  simp [Nat.min_eq_left (Nat.le_of_lt hj)]
theorem stJ_ne (h : l[j]? = some b) (hb : b.1 ≠ id) : stJ write l id v (j + 1) = stJ write l id v j := by
  cases write
  · rfl
  · rw [stJ_next h]
    have hg := stJ_get (write := true) (id := id) (v := v) h
    have : pv id v b = b := by unfold pv; rw [if_neg hb]
    rw [this]
    apply List.ext_getElem?
    intro i
    rw [List.getElem?_set]
    split
    · rename_i e
      subst e
      rw [hg]
      have := (List.getElem?_eq_some_iff.1 hg).1
      rw [if_pos this]
    · rfl
theorem stJ_false : stJ false l id v j = l := rfl
theorem bhas_take (h : l[j]? = some b) : bhas (l.take (j + 1)) id = (bhas (l.take j) id || b.1 == id) := by
  unfold bhas
  rw [List.take_add_one, h]
  simp
theorem bval_take (hnd : (l.map (·.1)).Nodup) (h : l[j]? = some b) : bval (l.take (j + 1)) id = if b.1 = id then b.2 else bval (l.take j) id := by
  have hnd' : ((l.take (j + 1)).map (·.1)).Nodup := by
    rw [List.map_take]
    exact List.Sublist.nodup (List.take_sublist _ _) hnd
  have hmem : b ∈ l.take (j + 1) := by
    rw [List.take_add_one, h]
    simp
  by_cases e : b.1 = id
  · rw [if_pos e]
    refine bval_mem hnd' ?_
    rw [← e]
    exact hmem
  · rw [if_neg e]
    have hnd2 : ((l.take j).map (·.1)).Nodup := by
      rw [List.map_take]
      exact List.Sublist.nodup (List.take_sublist _ _) hnd
    refine bval_alike hnd' hnd2 fun u => ?_
    rw [List.take_add_one, h]
    simp
    intro hu
    exact absurd (by rw [← hu]) e
theorem stJ_end (h : j = l.length) : stJ write l id v j = if write then l.map (pv id v) else l := by
  subst h
  unfold stJ
  cases write <;> simp
theorem bput_has (h : bhas l id = true) : bput l id v = l.map (pv id v) := by unfold bput; rw [if_pos h]; rfl
theorem bput_not (h : bhas l id = false) : bput l id v = l ++ [(id, v)] := by unfold bput; rw [h]; rfl
theorem map_not (h : bhas l id = false) : l.map (pv id v) = l := by
  conv => rhs; rw [← List.map_id l]
  refine List.map_congr_left fun b hb => ?_
  unfold pv
  rw [if_neg ?_]
  · rfl
  · intro e
    unfold bhas at h
    have h1 : l.any (fun x => x.1 == id) = true := List.any_eq_true.2 ⟨b, hb, by simpa using e⟩
    rw [h1] at h; cases h
theorem bval_full (h : j = l.length) : bval (l.take j) id = bval l id := by subst h; rw [List.take_length]
theorem bhas_full (h : j = l.length) : bhas (l.take j) id = bhas l id := by subst h; rw [List.take_length]
end
theorem flat_put {l : List Bk} {j : Nat} {b : Bk} (h : l[j]? = some b) (v : Int) : (l.flatMap c2).set (j * 2 + 1) (.int .i64 v) = (l.set j (b.1, v)).flatMap c2 := by
  have hj := (List.getElem?_eq_some_iff.1 h).1
  rw [← flat_set2 c2_len l j hj (b.1, v) (.int .i64 b.1) (.int .i64 v) rfl]
  congr 1
  apply List.ext_getElem?
  intro i
  rw [List.getElem?_set]
  split
  · rename_i e
    subst e
    have := flat_get c2_len l j 0 (by omega)
    rw [Nat.add_zero, h] at this
    have h3 : (l.flatMap c2)[j * 2]? = some (.int .i64 b.1) := this
    have h2 := (List.getElem?_eq_some_iff.1 h3).1
    rw [if_pos h2, h3]
  · rfl
section
variable {lo g : Nat} {m : OM} {u0 u2 : Value} {A1 : Option Addr} {n1 c1 : Nat} {F0 F1 F2 : List Nat} {w : World}
theorem OS.val (h : OS lo g m u0 (.slice A1 n1 c1) u2 F0 F1 F2 w) {j : Nat} {b : Bk} (hb : m.st[j]? = some b) :
    ∃ g1, A1 = some ⟨g1, 0, none⟩ ∧ g1 ∈ F1 ∧ w.cell? ⟨g1, j * 2, none⟩ = some (.int .i64 b.1) ∧ w.cell? ⟨g1, j * 2 + 1, none⟩ = some (.int .i64 b.2) ∧ w.frozen? ⟨g1, j * 2 + 1, none⟩ = false ∧
      ∀ v : Int, OS lo g { m with st := m.st.set j (b.1, v) } u0 (.slice A1 n1 c1) u2 F0 F1 F2 (w.setCell ⟨g1, j * 2 + 1, none⟩ (.int .i64 v)) := by
  have hj := (List.getElem?_eq_some_iff.1 hb).1
  obtain ⟨A, c, e1, e2, e3⟩ := plst_row (s := 2) (fun _ => rfl) (by omega) h.s
  injection e1 with x1 x2 x3
  subst x1 x2 x3
  have o := e3 lo (by intro x hx; exact h.l1 x hx)
  obtain ⟨g1, cc, hv, _⟩ := own_form2 o (by omega)
  injection hv with x1 x2 x3
  subst x1
  have hg1 : g1 ∈ F1 := by rw [e2]; simp [Value.ownBlock]
  have k0 := o.cellAt (j * 2) (by omega)
  have k1 := o.cellAt (j * 2 + 1) (by omega)
  have q0 := flat_get c2_len m.st j 0 (by omega)
  have q1 := flat_get c2_len m.st j 1 (by omega)
  rw [Nat.add_zero] at q0
  refine ⟨g1, rfl, hg1, k0.trans (by rw [q0, hb]; rfl), k1.trans (by rw [q1, hb]; rfl), o.frozenAt _, fun v => ?_⟩
  have st := (o.stored (j * 2 + 1) (.int .i64 v)).1
  rw [flat_put hb] at st
  have hs := plst_own (s := 2) (fun _ => rfl) (by omega) c2_one st
  have hF : (Value.slice (some ⟨g1, 0, none⟩) m.st.length c1).ownBlock.toList = F1 := e2.symm
  rw [hF] at hs
  refine ⟨h.blk.far (p := ⟨g1, j * 2 + 1, none⟩) (fun e => h.n1 (by have e' : g = g1 := e; rw [e']; exact hg1)) _, own_setC _ h.b g1 _ (fun hx => h.d01 _ hx hg1) _, hs, own_setC _ h.p g1 _ (h.d12 _ hg1) _, h.l0, h.l1, h.l2, h.lg, h.d01, h.d02, h.d12, h.n0, h.n1, h.n2⟩
end
end Go.Proofs.Ythncoohkdmjcaaa
