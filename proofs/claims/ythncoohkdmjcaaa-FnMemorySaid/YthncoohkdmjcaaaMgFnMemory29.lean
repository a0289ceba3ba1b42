/-
  An access: what the loops keep, with no walk in sight.
-/
import Derived.Test.YthncoohkdmjcaaaMgFnMemory27
import Derived.Test.YthncoohkdmjcaaaMgFnMemory28
namespace Go.Proofs.Ythncoohkdmjcaaa
open Go.RowKit
set_option linter.unusedVariables false
set_option linter.unusedSimpArgs false
theorem sumL_flat : ∀ (l : List Bks), sumL l l.length = l.flatten.length := by
  intro l
  unfold sumL
  rw [List.take_of_length_le (Nat.le_refl _), List.length_flatten]
theorem all_lenO (m : OM) : m.all.length ≤ m.sz := by
  unfold OM.all OM.sz szB
  rw [List.length_append, sumL_flat]
  omega
theorem evict_next {m : OM} {ks : List Nat} {j k : Nat} (h : ks[j]? = some k) : evict m (ks.take (j + 1)) = evict1 (evict m (ks.take j)) k := by
  unfold evict
  rw [List.take_add_one, h]
  simp
theorem fill_next {m : OM} {ks : List Nat} {j k : Nat} (h : ks[j]? = some k) : fill m (ks.take (j + 1)) = fill1 (fill m (ks.take j)) k := by
  unfold fill
  rw [List.take_add_one, h]
  simp
theorem evict_st_le {m : OM} {ks : List Nat} (h : ∀ k ∈ ks, k < m.bk.length) : (evict m ks).st.length ≤ m.all.length := by
  have h1 := (evict_perm ks m h).length_eq
  unfold OM.all at h1
  rw [List.length_append, List.length_append] at h1
  unfold OM.all
  rw [List.length_append]
  omega
theorem fill_st_le {m : OM} {ks : List Nat} (h : ∀ k ∈ ks, k < m.bk.length) : (fill m ks).st.length ≤ m.all.length := by
  have h1 := (fill_perm ks m h).length_eq
  unfold OM.all at h1
  rw [List.length_append, List.length_append] at h1
  unfold OM.all
  rw [List.length_append]
  omega
/-- The path's row. -/
def PathO (gp cp : Nat) (leaf : Int) (w : World) : Prop := w.ownsRow 0 3 1 (.slice (some ⟨gp, 0, none⟩) 4 cp) 4 ((opathI leaf).map (Value.int .i64))
section
variable {gp cp : Nat} {leaf : Int} {w w' : World}
theorem PathO.chg {S : Nat → Prop} (h : PathO gp cp leaf w) (k : Chg S w w') (hs : ∀ y, S y → y ≠ gp) : PathO gp cp leaf w' := Chg.own h k fun g hg hg' => hs g hg' (by simp [Value.ownBlock] at hg; exact hg.symm)
theorem PathO.grow (h : PathO gp cp leaf w) (k : w.grownBy w' none) : PathO gp cp leaf w' := own_grow h k
theorem PathO.ne_row {e : TypeId} {base s n y : Nat} {v : Value} {xs : List Value} (h : PathO gp cp leaf w) (k : w.ownsRow base e s v n xs) (he : e ≠ 3) (hy : v.ownBlock = some y) : y ≠ gp := by
  intro e1
  subst e1
  obtain ⟨c1, h1⟩ := own_ty' k hy
  obtain ⟨c2, h2⟩ := own_ty' h rfl
  rw [h1] at h2
  injection h2 with h2
  injection h2 with _ h2
  exact he h2
theorem PathO.ne_blocks {l : List Bk} {F : List Nat} {v : Value} (h : PathO gp cp leaf w) (k : (cblocks l).own w F v) {y : Nat} (hy : y ∈ F) : y ≠ gp := by
  obtain ⟨A, c, e1, e2, e3⟩ := plst_row (s := 2) (fun _ => rfl) (by omega) k
  subst e2
  exact h.ne_row (e3 0 (by simp)) (by decide) (by simpa using hy)
theorem PathO.ne_blk {g : Nat} {T : TypeId} {cs : Array Value} (h : PathO gp cp leaf w) (k : Blk w g T cs) (hT : 3 ≠ T) : g ≠ gp := fun e => own_blk_ne h k hT (by rw [e]; rfl)
theorem PathO.at_ (h : PathO gp cp leaf w) {j k : Nat} (hk : (opath leaf)[j]? = some k) : w.cell? ⟨gp, j, none⟩ = some (.int .i64 (k : Int)) := by
  have hl := h.1
  have hj : j < 4 := by
    have h1 := (List.getElem?_eq_some_iff.1 hk).1
    simp [opathI] at hl
    omega
  rw [World.ownsRow.cellAt h j (by omega), List.getElem?_map]
  unfold opathI
  rw [List.getElem?_map, hk]
  rfl
end
theorem row_topo {e : TypeId} {s : Nat} {cs : List CS} {w : World} {F : List Nat} {v : Value} (h : (row e s cs).own w F v) : ∃ n vs, w.ownsRow 0 e s v n vs := by
  obtain ⟨n, vs, Fs, _, h2, _⟩ := h
  exact ⟨n, vs, h2⟩
theorem OS.top {lo g : Nat} {m : OM} {A0 : Option Addr} {n0 c0 : Nat} {u1 u2 : Value} {F0 F1 F2 : List Nat} {w : World} (h : OS lo g m (.slice A0 n0 c0) u1 u2 F0 F1 F2 w) (hb : 0 < m.bk.length) : ∃ g0, A0 = some ⟨g0, 0, none⟩ ∧ g0 ∈ F0 := by
  obtain ⟨g0, n, c, hv, hg⟩ := row_own_slice (by omega) h.b (by rw [cbs_flat]; simpa using hb)
  injection hv with e1 e2 e3
  exact ⟨g0, e1, hg⟩
end Go.Proofs.Ythncoohkdmjcaaa
/-
  An access: the search of the stash, and a value stored into it.
-/
namespace Go.Proofs.Ythncoohkdmjcaaa
open Go.RowKit
set_option linter.unusedVariables false
set_option linter.unusedSimpArgs false
def pv (id v : Int) (b : Bk) : Bk := if b.1 = id then (b.1, v) else b
def stJ (write : Bool) (l : List Bk) (id v : Int) (j : Nat) : List Bk := if write then (l.take j).map (pv id v) ++ l.drop j else l
section
variable {write : Bool} {l : List Bk} {id v : Int} {j : Nat} {b : Bk}
theorem stJ_zero : stJ write l id v 0 = l := by unfold stJ; cases write <;> simp
theorem stJ_len : (stJ write l id v j).length = l.length := by
  unfold stJ
  cases write
  · rfl
  · simp
    omega
theorem stJ_get (h : l[j]? = some b) : (stJ write l id v j)[j]? = some b := by
  have hj := (List.getElem?_eq_some_iff.1 h).1
  unfold stJ
  cases write
  · exact h
  · simp only [if_true]
    rw [List.getElem?_append_right (by simp; omega)]
    simp [h, Nat.min_eq_left (Nat.le_of_lt hj)]
theorem stJ_next (h : l[j]? = some b) : stJ true l id v (j + 1) = (stJ true l id v j).set j (pv id v b) := by
  obtain ⟨hj, hb⟩ := List.getElem?_eq_some_iff.1 h
  unfold stJ
  simp only [if_true]
  rw [List.take_add_one, h, List.drop_eq_getElem_cons hj, hb, List.set_append, if_neg (by simp; omega)]
  simp [Nat.min_eq_left (Nat.le_of_lt hj)]
theorem stJ_ne (h : l[j]? = some b) (hb : b.1 ≠ id) : stJ write l id v (j + 1) = stJ write l id v j := by
  cases write
  · rfl
  · rw [stJ_next h]
    have hg := stJ_get (write := true) (id := id) (v := v) h
    have : pv id v b = b := by unfold pv; rw [if_neg hb]
    rw [this]
    apply List.ext_getElem?
    intro i
    rw [List.getElem?_set]
    split
    · rename_i e
      subst e
      rw [hg]
      have := (List.getElem?_eq_some_iff.1 hg).1
      rw [if_pos this]
    · rfl
theorem stJ_false : stJ false l id v j = l := rfl
theorem bhas_take (h : l[j]? = some b) : bhas (l.take (j + 1)) id = (bhas (l.take j) id || b.1 == id) := by
  unfold bhas
  rw [List.take_add_one, h]
  simp
theorem bval_take (hnd : (l.map (·.1)).Nodup) (h : l[j]? = some b) : bval (l.take (j + 1)) id = if b.1 = id then b.2 else bval (l.take j) id := by
  have hnd' : ((l.take (j + 1)).map (·.1)).Nodup := by
    rw [List.map_take]
    exact List.Sublist.nodup (List.take_sublist _ _) hnd
  have hmem : b ∈ l.take (j + 1) := by
    rw [List.take_add_one, h]
    simp
  by_cases e : b.1 = id
  · rw [if_pos e]
    refine bval_mem hnd' ?_
    rw [← e]
    exact hmem
  · rw [if_neg e]
    have hnd2 : ((l.take j).map (·.1)).Nodup := by
      rw [List.map_take]
      exact List.Sublist.nodup (List.take_sublist _ _) hnd
    refine bval_alike hnd' hnd2 fun u => ?_
    rw [List.take_add_one, h]
    simp
    intro hu
    exact absurd (by rw [← hu]) e
theorem stJ_end (h : j = l.length) : stJ write l id v j = if write then l.map (pv id v) else l := by
  subst h
  unfold stJ
  cases write <;> simp
theorem bput_has (h : bhas l id = true) : bput l id v = l.map (pv id v) := by unfold bput; rw [if_pos h]; rfl
theorem bput_not (h : bhas l id = false) : bput l id v = l ++ [(id, v)] := by unfold bput; rw [h]; rfl
theorem map_not (h : bhas l id = false) : l.map (pv id v) = l := by
  conv => rhs; rw [← List.map_id l]
  refine List.map_congr_left fun b hb => ?_
  unfold pv
  rw [if_neg ?_]
  · rfl
  · intro e
    unfold bhas at h
    have h1 : l.any (fun x => x.1 == id) = true := List.any_eq_true.2 ⟨b, hb, by simpa using e⟩
    rw [h1] at h; cases h
theorem bval_full (h : j = l.length) : bval (l.take j) id = bval l id := by subst h; rw [List.take_length]
theorem bhas_full (h : j = l.length) : bhas (l.take j) id = bhas l id := by subst h; rw [List.take_length]
end
theorem flat_put {l : List Bk} {j : Nat} {b : Bk} (h : l[j]? = some b) (v : Int) : (l.flatMap c2).set (j * 2 + 1) (.int .i64 v) = (l.set j (b.1, v)).flatMap c2 := by
  have hj := (List.getElem?_eq_some_iff.1 h).1
  rw [← flat_set2 c2_len l j hj (b.1, v) (.int .i64 b.1) (.int .i64 v) rfl]
  congr 1
  apply List.ext_getElem?
  intro i
  rw [List.getElem?_set]
  split
  · rename_i e
    subst e
    have := flat_get c2_len l j 0 (by omega)
    rw [Nat.add_zero, h] at this
    have h3 : (l.flatMap c2)[j * 2]? = some (.int .i64 b.1) := this
    have h2 := (List.getElem?_eq_some_iff.1 h3).1
    rw [if_pos h2, h3]
  · rfl
section
variable {lo g : Nat} {m : OM} {u0 u2 : Value} {A1 : Option Addr} {n1 c1 : Nat} {F0 F1 F2 : List Nat} {w : World}
theorem OS.val (h : OS lo g m u0 (.slice A1 n1 c1) u2 F0 F1 F2 w) {j : Nat} {b : Bk} (hb : m.st[j]? = some b) :
    ∃ g1, A1 = some ⟨g1, 0, none⟩ ∧ g1 ∈ F1 ∧ w.cell? ⟨g1, j * 2, none⟩ = some (.int .i64 b.1) ∧ w.cell? ⟨g1, j * 2 + 1, none⟩ = some (.int .i64 b.2) ∧ w.frozen? ⟨g1, j * 2 + 1, none⟩ = false ∧
      ∀ v : Int, OS lo g { m with st := m.st.set j (b.1, v) } u0 (.slice A1 n1 c1) u2 F0 F1 F2 (w.setCell ⟨g1, j * 2 + 1, none⟩ (.int .i64 v)) := by
  have hj := (List.getElem?_eq_some_iff.1 hb).1
  obtain ⟨A, c, e1, e2, e3⟩ := plst_row (s := 2) (fun _ => rfl) (by omega) h.s
  injection e1 with x1 x2 x3
  subst x1 x2 x3
  have o := e3 lo (by intro x hx; exact h.l1 x hx)
  obtain ⟨g1, cc, hv, _⟩ := own_form2 o (by omega)
  injection hv with x1 x2 x3
  subst x1
  have hg1 : g1 ∈ F1 := by rw [e2]; simp [Value.ownBlock]
  have k0 := o.cellAt (j * 2) (by omega)
  have k1 := o.cellAt (j * 2 + 1) (by omega)
  have q0 := flat_get c2_len m.st j 0 (by omega)
  have q1 := flat_get c2_len m.st j 1 (by omega)
  rw [Nat.add_zero] at q0
  refine ⟨g1, rfl, hg1, k0.trans (by rw [q0, hb]; rfl), k1.trans (by rw [q1, hb]; rfl), o.frozenAt _, fun v => ?_⟩
  have st := (o.stored (j * 2 + 1) (.int .i64 v)).1
  rw [flat_put hb] at st
  have hs := plst_own (s := 2) (fun _ => rfl) (by omega) c2_one st
  have hF : (Value.slice (some ⟨g1, 0, none⟩) m.st.length c1).ownBlock.toList = F1 := e2.symm
  rw [hF] at hs
  refine ⟨h.blk.far (p := ⟨g1, j * 2 + 1, none⟩) (fun e => h.n1 (by have e' : g = g1 := e; rw [e']; exact hg1)) _, own_setC _ h.b g1 _ (fun hx => h.d01 _ hx hg1) _, hs, own_setC _ h.p g1 _ (h.d12 _ hg1) _, h.l0, h.l1, h.l2, h.lg, h.d01, h.d02, h.d12, h.n0, h.n1, h.n2⟩
end
end Go.Proofs.Ythncoohkdmjcaaa
/-
  An access: the filling of the buckets.
-/
namespace Go.Proofs.Ythncoohkdmjcaaa
open Go.RowKit
set_option linter.unusedVariables false
set_option linter.unusedSimpArgs false
structure M3 (m : OM) : Prop where
  nb : m.bk.length = 15
  np : m.pos.length = 12
  ids : ∀ b ∈ m.all, 0 ≤ b.1 ∧ b.1 ≤ 11
  sz : m.all.length ≤ 1048577
theorem M3.st {m : OM} (h : M3 m) : m.st.length ≤ 1048577 := by
  have := h.sz
  unfold OM.all at this
  rw [List.length_append] at this
  omega
theorem M3.bkk {m : OM} (h : M3 m) (k : Nat) : (m.bk.getD k []).length + m.st.length ≤ 1048577 := by
  have h1 := h.sz
  unfold OM.all at h1
  rw [List.length_append] at h1
  rcases Nat.lt_or_ge k m.bk.length with h2 | h2
  · rw [flatten_split _ _ h2] at h1
    rw [getD_get _ _ _ h2]
    simp only [List.length_append] at h1
    omega
  · rw [List.getD_eq_getElem?_getD, List.getElem?_eq_none h2]
    simp
    omega
theorem bput_len (l : List Bk) (id v : Int) : (bput l id v).length ≤ l.length + 1 := by
  unfold bput
  split <;> simp
theorem m3_ok {m : OM} {id value leaf : Int} {write : Bool} (h : OOk m) (hz : m.sz ≤ 1048576) (h0 : 0 ≤ id) (h1 : id ≤ 11) : M3 (acc2 m id write value leaf) := by
  have ha := all_lenO m
  have hp := (acc1_perm (id := id) h).length_eq
  refine ⟨?_, ?_, fun b hb => ?_, ?_⟩
  · rw [acc2_bk]
    unfold acc1
    rw [(evict_len _ _).1]
    exact h.nb
  · rw [acc2_pos]
    simpa using h.np
  · cases write
    · have := (acc2_read h b).1 hb
      exact ⟨(h.rng b this).1, (h.rng b this).2.1⟩
    · rcases (acc2_mem h b).1 hb with rfl | ⟨hb, _⟩
      · exact ⟨h0, h1⟩
      · exact ⟨(h.rng b hb).1, (h.rng b hb).2.1⟩
  · cases write
    · have : (acc2 m id false value leaf).all = (acc1 m id).all := rfl
      rw [this, hp]
      omega
    · have h2 := bput_len (acc1 m id).st id value
      have h3 : (acc2 m id true value leaf).all = (acc1 m id).bk.flatten ++ bput (acc1 m id).st id value := rfl
      rw [h3, List.length_append]
      unfold OM.all at hp
      rw [List.length_append] at hp
      unfold OM.all at ha
      omega
theorem M3.fill {m : OM} (h : M3 m) {ks : List Nat} (hk : ∀ k ∈ ks, k < 15) : M3 (fill m ks) := by
  have hp := fill_perm ks m (fun k hk' => by rw [h.nb]; exact hk k hk')
  refine ⟨?_, ?_, fun b hb => h.ids b (hp.mem_iff.1 hb), ?_⟩
  · rw [(fill_len ks m).1]; exact h.nb
  · rw [(fill_len ks m).2]; exact h.np
  · rw [hp.length_eq]; exact h.sz
def fS (m : OM) (k p : Nat) : List Bk × List Bk := (m.st.take p).foldl (fillStep m k) (m.bk.getD k [], [])
theorem fS_zero (m : OM) (k : Nat) : fS m k 0 = (m.bk.getD k [], []) := rfl
theorem fS_next {m : OM} {k p : Nat} {b : Bk} (h : m.st[p]? = some b) : fS m k (p + 1) = fillStep m k (fS m k p) b := by
  unfold fS
  rw [List.take_add_one, h]
  simp
theorem fS_end {m : OM} {k p : Nat} (h : p = m.st.length) : ({ m with bk := m.bk.set k (fS m k p).1, st := (fS m k p).2 } : OM) = fill1 m k := by
  subst h
  unfold fS fill1 fillR
  rw [List.take_length]
theorem fS_len (m : OM) (k p : Nat) : (fS m k p).1.length + (fS m k p).2.length ≤ (m.bk.getD k []).length + m.st.length := by
  have h := (fillR_perm m k (m.st.take p) (m.bk.getD k [], [])).length_eq
  simp only [List.length_append, List.length_nil, List.length_take] at h
  unfold fS
  omega
theorem set_getD (l : List (List Bk)) (k : Nat) : l.set k (l.getD k []) = l := by
  apply List.ext_getElem?
  intro i
  rw [List.getElem?_set]
  split
  · rename_i e
    subst e
    rw [List.getD_eq_getElem?_getD]
    split
    · rename_i hlt
      rw [List.getElem?_eq_getElem hlt]; rfl
    · rename_i hlt
      rw [List.getElem?_eq_none (by omega)]
  · rfl
section
variable {lo g : Nat} {m : OM} {u0 u1 : Value} {A2 : Option Addr} {n2 c2' : Nat} {F0 F1 F2 : List Nat} {w : World}
theorem OS.posAt (h : OS lo g m u0 u1 (.slice A2 n2 c2') F0 F1 F2 w) {i : Nat} {z : Int} (hz : m.pos[i]? = some z) :
    ∃ g2, A2 = some ⟨g2, 0, none⟩ ∧ g2 ∈ F2 ∧ w.cell? ⟨g2, i, none⟩ = some (.int .i64 z) ∧ w.frozen? ⟨g2, i, none⟩ = false ∧
      ∀ v : Int, OS lo g { m with pos := m.pos.set i v } u0 u1 (.slice A2 n2 c2') F0 F1 F2 (w.setCell ⟨g2, i, none⟩ (.int .i64 v)) := by
  have hj := (List.getElem?_eq_some_iff.1 hz).1
  obtain ⟨A, c, e1, e2, e3⟩ := cints_row h.p
  injection e1 with x1 x2 x3
  subst x1 x2 x3
  have o := e3 lo (by intro x hx; exact h.l2 x hx)
  obtain ⟨g2, cc, hv, _⟩ := own_form2 o (by omega)
  injection hv with x1 x2 x3
  subst x1
  have hg2 : g2 ∈ F2 := by rw [e2]; simp [Value.ownBlock]
  have k0 := o.cellAt i (by omega)
  refine ⟨g2, rfl, hg2, k0.trans (by rw [List.getElem?_map, hz]; rfl), o.frozenAt _, fun v => ?_⟩
  have st := (o.stored i (.int .i64 v)).1
  rw [← List.map_set] at st
  have hs := cints_own st
  have hF : (Value.slice (some ⟨g2, 0, none⟩) m.pos.length c2').ownBlock.toList = F2 := e2.symm
  rw [hF] at hs
  refine ⟨h.blk.far (p := ⟨g2, i, none⟩) (fun e => h.n2 (by have e' : g = g2 := e; rw [e']; exact hg2)) _, own_setC _ h.b g2 _ (fun hx => h.d02 _ hx hg2) _, own_setC _ h.s g2 _ (fun hx => h.d12 _ hx hg2) _, hs, h.l0, h.l1, h.l2, h.lg, h.d01, h.d02, h.d12, h.n0, h.n1, h.n2⟩
end
/-- While a bucket is filled: what is left so far is a row of its own. -/
def LJ (lo g : Nat) (m : OM) (u0 u1 u2 : Value) (F1 F2 : List Nat) (l : List Bk) (L : Value) (w : World) : Prop :=
  ∃ F0 FL, OS lo g m u0 u1 u2 F0 F1 F2 w ∧ (cblocks l).own w FL L ∧ ∀ x ∈ FL, lo ≤ x ∧ x ∉ F0 ∧ x ∉ F1 ∧ x ∉ F2 ∧ x ≠ g
theorem LJ.grow {lo g : Nat} {m : OM} {u0 u1 u2 : Value} {F1 F2 : List Nat} {l : List Bk} {L : Value} {w w' : World} (h : LJ lo g m u0 u1 u2 F1 F2 l L w) (k : w.grownBy w' none) : LJ lo g m u0 u1 u2 F1 F2 l L w' := by
  obtain ⟨F0, FL, h1, h2, h3⟩ := h
  exact ⟨F0, FL, h1.grow k, own_growK _ h2 k, h3⟩
theorem cblocks_form {w : World} {l : List Bk} {v : Value} {F : List Nat} (h : (cblocks l).own w F v) : ∃ A c, v = .slice A l.length c ∧ F = v.ownBlock.toList ∧ w.ownsRow 0 90 2 v l.length (l.flatMap c2) := by
  obtain ⟨A, c, e1, e2, e3⟩ := plst_row (s := 2) (fun _ => rfl) (by omega) h
  exact ⟨A, c, e1, e2, e3 0 (by simp)⟩
theorem cblocks_push {w w' : World} {base : Nat} {l : List Bk} {b : Bk} {v : Value} (h : w'.ownsRow base 90 2 v (l.length + 1) (l.flatMap c2 ++ c2 b)) : (cblocks (l ++ [b])).own w' v.ownBlock.toList v := by
  refine plst_own (s := 2) (n := l.length + 1) (base := base) (fun _ => rfl) (by omega) c2_one ?_
  rw [List.flatMap_append]
  simpa using h
section
variable {m m1 : OM} {i : Nat} {value leaf : Int}
theorem acc2_rd (h : acc1 m (i : Int) = m1) (hp : m1.pos = m.pos) : ({ m1 with st := m1.st, pos := m1.pos.set i leaf } : OM) = acc2 m (i : Int) false value leaf := by
  unfold acc2
  rw [h, hp]
  simp
theorem acc2_has (h : acc1 m (i : Int) = m1) (hp : m1.pos = m.pos) (hf : bhas m1.st (i : Int) = true) : ({ m1 with st := m1.st.map (pv (i : Int) value), pos := m1.pos.set i leaf } : OM) = acc2 m (i : Int) true value leaf := by
  unfold acc2
  rw [h, hp, bput_has hf]
  simp
theorem acc2_not (h : acc1 m (i : Int) = m1) (hp : m1.pos = m.pos) (hf : bhas m1.st (i : Int) = false) : ({ m1 with st := m1.st ++ [((i : Int), value)], pos := m1.pos.set i leaf } : OM) = acc2 m (i : Int) true value leaf := by
  unfold acc2
  rw [h, hp, bput_not hf]
  simp
end
end Go.Proofs.Ythncoohkdmjcaaa
/-
  An access: the filling of a bucket, with no walk in sight.
-/
namespace Go.Proofs.Ythncoohkdmjcaaa
open Go.RowKit
set_option linter.unusedVariables false
set_option linter.unusedSimpArgs false
section
variable {m : OM} {k p : Nat} {b : Bk}
theorem fS_yes (hb : m.st[p]? = some b) (h1 : (fS m k p).1.length < 2) (h2 : k ∈ opath (m.leaf b.1)) : fS m k (p + 1) = ((fS m k p).1 ++ [b], (fS m k p).2) := by
  rw [fS_next hb]
  unfold fillStep
  rw [if_pos ⟨h1, h2⟩]
theorem fS_no (hb : m.st[p]? = some b) (h : ¬ ((fS m k p).1.length < 2 ∧ k ∈ opath (m.leaf b.1))) : fS m k (p + 1) = ((fS m k p).1, (fS m k p).2 ++ [b]) := by
  rw [fS_next hb]
  unfold fillStep
  rw [if_neg h]
end
theorem M3.fS_le {m : OM} (h : M3 m) (k p : Nat) : (fS m k p).1.length + (fS m k p).2.length ≤ 1048577 := Nat.le_trans (fS_len m k p) (h.bkk k)
theorem M3.leafAt {m : OM} (h : M3 m) {i : Nat} (hi : (i : Int) ≤ 11) : m.pos[i]? = some (m.leaf (i : Int)) := by
  have hlt : i < m.pos.length := by rw [h.np]; omega
  unfold OM.leaf
  rw [Int.toNat_natCast, List.getD_eq_getElem?_getD, List.getElem?_eq_getElem hlt]
  rfl
section
variable {lo g : Nat} {m : OM} {u0 u1 u2 : Value} {F1 F2 : List Nat} {l : List Bk} {L : Value} {w w' : World}
theorem LJ.os (h : LJ lo g m u0 u1 u2 F1 F2 l L w) : ∃ F0, OS lo g m u0 u1 u2 F0 F1 F2 w := by
  obtain ⟨F0, FL, h1, _, _⟩ := h
  exact ⟨F0, h1⟩
theorem LJ.row (h : LJ lo g m u0 u1 u2 F1 F2 l L w) : ∃ A c, L = .slice A l.length c ∧ w.ownsRow 0 90 2 L l.length (l.flatMap c2) := by
  obtain ⟨F0, FL, _, h2, _⟩ := h
  obtain ⟨A, c, e, _, o⟩ := cblocks_form h2
  exact ⟨A, c, e, o⟩
theorem LJ.lt (h : LJ lo g m u0 u1 u2 F1 F2 l L w) {y : Nat} (hy : L.ownBlock = some y) : lo ≤ y ∧ y < w.heap.size ∧ y ≠ g := by
  obtain ⟨F0, FL, _, h2, h3⟩ := h
  exact ⟨(h3 y (row_ob h2 hy)).1, CS.lt _ h2 y (row_ob h2 hy), (h3 y (row_ob h2 hy)).2.2.2.2⟩
theorem LJ.pathL {gp cp : Nat} {leaf : Int} (h : LJ lo g m u0 u1 u2 F1 F2 l L w) (hP : PathO gp cp leaf w) {y : Nat} (hy : L.ownBlock = some y) : y ≠ gp := by
  obtain ⟨F0, FL, _, h2, _⟩ := h
  exact hP.ne_blocks h2 (row_ob h2 hy)
theorem LJ.start {F0 : List Nat} {k : Nat} (h : OS lo g m u0 u1 u2 F0 F1 F2 w) : LJ lo g { m with bk := m.bk.set k (fS m k 0).1 } u0 u1 u2 F1 F2 (fS m k 0).2 (.slice (some ⟨w.heap.size, 0, none⟩) 0 0) (w.alloc (.cells #[] 90)) := by
  rw [fS_zero]
  simp only [set_getD]
  have h0 := CS.lt _ h.b
  have h1 := CS.lt _ h.s
  have h2 := CS.lt _ h.p
  have hg := h.blk.lt
  obtain ⟨gg, e, _, o⟩ := rowE_new (H := 0) w 90 2 (Nat.zero_le _)
  refine ⟨F0, [w.heap.size], h.grow (gbA (gbR _ _) _), ?_, fun x hx => ?_⟩
  · exact plst_own (f := c2) (xs := []) (n := 0) (base := 0) (fun _ => rfl) (by omega) c2_one o
  · simp at hx
    subst hx
    exact ⟨Nat.le_of_lt (Nat.lt_of_le_of_lt h.lg hg), fun e => by have := h0 _ e; omega, fun e => by have := h1 _ e; omega, fun e => by have := h2 _ e; omega, fun e => by omega⟩
theorem LJ.left (h : LJ lo g m u0 u1 u2 F1 F2 l L w) (hch : Chg (fun y => L.ownBlock = some y) w w') {l' : List Bk} {L' : Value} {FL' : List Nat} (ho : (cblocks l').own w' FL' L') (hsub : ∀ y ∈ FL', L.ownBlock = some y ∨ w.heap.size ≤ y) : LJ lo g m u0 u1 u2 F1 F2 l' L' w' := by
  obtain ⟨F0, FL, h1, h2, h3⟩ := h
  have hL : ∀ y, L.ownBlock = some y → y ∈ FL := fun y hy => row_ob h2 hy
  have k0 := CS.lt _ h1.b
  have k1 := CS.lt _ h1.s
  have k2 := CS.lt _ h1.p
  have kg := h1.blk.lt
  have lg := h1.lg
  refine ⟨F0, FL', h1.chg hch (fun x hx e => (h3 x (hL x e)).2.1 hx) (fun x hx e => (h3 x (hL x e)).2.2.1 hx) (fun x hx e => (h3 x (hL x e)).2.2.2.1 hx) (fun e => (h3 g (hL g e)).2.2.2.2 rfl), ho, fun x hx => ?_⟩
  rcases hsub x hx with e | e
  · exact h3 x (hL x e)
  · exact ⟨by omega, fun e' => by have := k0 x e'; omega, fun e' => by have := k1 x e'; omega, fun e' => by have := k2 x e'; omega, by omega⟩
theorem LJ.bucket {g0 n c : Nat} (h : LJ lo g m (.slice (some ⟨g0, 0, none⟩) n c) u1 u2 F1 F2 l L w) {i : Nat} {x : List Bk} (hi : m.bk[i]? = some x) :
    ∃ u Fi, w.cell? ⟨g0, i, none⟩ = some u ∧ w.frozen? ⟨g0, i, none⟩ = false ∧ (cblocks x).own w Fi u ∧ g0 ∉ Fi ∧ g0 < w.heap.size ∧ lo ≤ g0 ∧ g0 ≠ g ∧ (∀ y ∈ Fi, lo ≤ y ∧ y ≠ g) ∧ ∀ (w' : World) (l' : List Bk) (u' : Value) (Fc : List Nat), Chg (fun y => y ∈ Fi) w w' → (cblocks l').own w' Fc u' → (∀ y ∈ Fc, y ∈ Fi ∨ w.heap.size ≤ y) →
      LJ lo g { m with bk := m.bk.set i l' } (.slice (some ⟨g0, 0, none⟩) n c) u1 u2 F1 F2 l L (w'.setCell ⟨g0, i, none⟩ u') := by
  obtain ⟨F0, FL, h1, h2, h3⟩ := h
  obtain ⟨u, Fi, a1, a2, a3, a4, a5, a6, step⟩ := h1.bucket hi
  refine ⟨u, Fi, a1, a2, a3, a5, CS.lt _ h1.b g0 a6, h1.l0 g0 a6, fun e => h1.n0 (e ▸ a6), fun y hy => ⟨h1.l0 y (a4 y hy), fun e => h1.n0 (e ▸ a4 y hy)⟩, fun w' l' u' Fc hch ho hsub => ?_⟩
  obtain ⟨F', k1, k2⟩ := step w' l' u' Fc hch ho hsub
  refine ⟨F', FL, k1, own_setC _ (own_chgK _ h2 hch (fun y hy hy' => (h3 y hy).2.1 (a4 y hy'))) g0 i (fun hx => (h3 g0 hx).2.1 a6) u', fun x hx => ⟨(h3 x hx).1, fun e => ?_, (h3 x hx).2.2⟩⟩
  rcases k2 x e with e | e
  · exact (h3 x hx).2.1 e
  · have := CS.lt _ h2 x hx; omega
theorem LJ.done (h : LJ lo g m u0 u1 u2 F1 F2 l L w) : OSE lo g { m with st := l } (w.setCell ⟨g, 1, none⟩ L) := by
  obtain ⟨F0, FL, h1, h2, h3⟩ := h
  exact ⟨_, _, _, _, _, _, h1.stash (S := fun _ => False) (Chg.of (gbR w none) (by simp)) h2 (fun _ _ => id) (fun _ _ => id) id fun x hx => ⟨(h3 x hx).2.1, (h3 x hx).2.2.2.1, (h3 x hx).2.2.2.2, (h3 x hx).1⟩⟩
theorem LJ.path0 {gp cp g0 n c : Nat} {leaf : Int} (h : LJ lo g m (.slice (some ⟨g0, 0, none⟩) n c) u1 u2 F1 F2 l L w) (hP : PathO gp cp leaf w) : g0 ≠ gp := by
  obtain ⟨F0, FL, h1, _, _⟩ := h
  obtain ⟨nt, vt, ht⟩ := row_topo h1.b
  exact hP.ne_row ht (by decide) rfl
theorem LJ.pathG {gp cp : Nat} {leaf : Int} (h : LJ lo g m u0 u1 u2 F1 F2 l L w) (hP : PathO gp cp leaf w) : g ≠ gp := by
  obtain ⟨F0, FL, h1, _, _⟩ := h
  exact hP.ne_blk h1.blk (by decide)
end
end Go.Proofs.Ythncoohkdmjcaaa
/-
  An access: the program's loops, taken out of its code.
-/
namespace Go.Proofs.Ythncoohkdmjcaaa
open Go.RowKit
set_option linter.unusedVariables false
set_option linter.unusedSimpArgs false
/-- The loops of a code, the outer ones first. -/
def loopsOf : Code → List Code
  | .loop c => c :: loopsOf c
  | .seq a b => loopsOf a ++ loopsOf b
  | .block _ c => loopsOf c
  | .scope c => loopsOf c
  | .cond _ a b => loopsOf a ++ loopsOf b
  | _ => []
noncomputable def loopNo (f : Func) (k : Nat) : Code := ((loopsOf (f.body.getD .skip))[k]?).getD .skip
/-- A literal row of one element. -/
def lit1N (H : Nat) (e : TypeId) (cs : Array Value) (v : Value) (w : World) : Prop := ∃ g, v = .slice (some ⟨g, 0, none⟩) 1 1 ∧ H ≤ g ∧ Blk w g e cs
theorem lit1N_st {H : Nat} {e : TypeId} {cs : Array Value} : stable (lit1N H e cs) := fun v w w' ⟨g, h1, h2, h3⟩ hg => ⟨g, h1, h2, h3.grow hg⟩
end Go.Proofs.Ythncoohkdmjcaaa
