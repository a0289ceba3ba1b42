/-
  A right memory, block by block: plain law.
-/
import Derived.Test.YthncoohkdmjcaaaMgFnSharedBits38
namespace Go.Proofs.Ythncoohkdmjcaaa
set_option linter.unusedVariables false
set_option linter.unusedSimpArgs false
def lsO (o : OM) : List (List Bk) := o.bk ++ [o.st]
def preO (o : OM) (k j : Nat) : List Bk := ((lsO o).take k).flatten ++ ((lsO o).getD k []).take j
structure PreO (o : OM) (k j : Nat) : Prop where
  rng : ∀ b ∈ preO o k j, bkOk b
  nd : ((preO o k j).map (·.1)).Nodup
  room : ∀ i l, o.bk[i]? = some l → i < k → l.length ≤ 2
  path : ∀ i l q b, o.bk[i]? = some l → l[q]? = some b → (i < k ∨ (i = k ∧ q < j)) → i ∈ opath (o.leaf b.1)
section
variable {o : OM} {k j : Nat} {l : List Bk} {b : Bk}
theorem lsO_flat (o : OM) : (lsO o).flatten = o.all := by simp [lsO, OM.all]
theorem lsO_len (o : OM) : (lsO o).length = o.bk.length + 1 := by simp [lsO]
theorem lsO_bk (hl : (lsO o)[k]? = some l) (hk : k < o.bk.length) : o.bk[k]? = some l := by rw [lsO, List.getElem?_append_left hk] at hl; exact hl
theorem preO_next (hl : (lsO o)[k]? = some l) (hb : l[j]? = some b) : preO o k (j + 1) = preO o k j ++ [b] := by
  obtain ⟨hj, e⟩ := List.getElem?_eq_some_iff.1 hb
  unfold preO
  rw [List.getD_eq_getElem?_getD, hl, Option.getD_some, List.take_succ_eq_append_getElem hj, e, List.append_assoc]
theorem preO_line (hl : (lsO o)[k]? = some l) : preO o (k + 1) 0 = preO o k l.length := by
  obtain ⟨hk, e⟩ := List.getElem?_eq_some_iff.1 hl
  unfold preO
  rw [List.take_succ_eq_append_getElem hk, e, List.flatten_append, List.getD_eq_getElem?_getD (i := k), hl]
  simp
theorem preO_zero (o : OM) : preO o 0 0 = [] := by simp [preO]
theorem preO_all (o : OM) : preO o (o.bk.length + 1) 0 = o.all := by
  unfold preO
  rw [List.take_of_length_le (Nat.le_of_eq (lsO_len o)), lsO_flat]
  simp
theorem preO_split (hl : (lsO o)[k]? = some l) (hb : l[j]? = some b) : ∃ r, o.all = preO o k j ++ b :: r := by
  obtain ⟨hk, e⟩ := List.getElem?_eq_some_iff.1 hl
  obtain ⟨hj, e2⟩ := List.getElem?_eq_some_iff.1 hb
  refine ⟨l.drop (j + 1) ++ ((lsO o).drop (k + 1)).flatten, ?_⟩
  have h1 : l = l.take j ++ b :: l.drop (j + 1) := by
    rw [← e2, ← List.drop_eq_getElem_cons hj, List.take_append_drop]
  rw [← lsO_flat, flatten_split _ k hk, e]
  unfold preO
  rw [List.getD_eq_getElem?_getD, hl, Option.getD_some, List.append_assoc, List.append_assoc]
  congr 1
  conv => lhs; rw [h1]
  simp
theorem OOk.at_ (h : OOk o) (hl : (lsO o)[k]? = some l) (hb : l[j]? = some b) : bkOk b ∧ b.1 ∉ (preO o k j).map (·.1) ∧ (k < o.bk.length → k ∈ opath (o.leaf b.1)) := by
  obtain ⟨r, hr⟩ := preO_split hl hb
  have hnd := h.nd
  rw [hr, List.map_append, List.nodup_append] at hnd
  exact ⟨h.rng b (by rw [hr]; simp), fun hm => hnd.2.2 _ hm b.1 (by simp) rfl, fun hk => h.path k l (lsO_bk hl hk) b (List.mem_of_getElem? hb)⟩
theorem OOk.room_at (h : OOk o) (hl : (lsO o)[k]? = some l) (hk : k < o.bk.length) : l.length ≤ 2 := h.room l (List.mem_of_getElem? (lsO_bk hl hk))
theorem PreO.zero (o : OM) : PreO o 0 0 := ⟨by rw [preO_zero]; simp, by rw [preO_zero]; simp, fun i l _ h => absurd h (by omega), fun i l q b _ _ h => by omega⟩
theorem PreO.next (h : PreO o k j) (hl : (lsO o)[k]? = some l) (hb : l[j]? = some b) (g1 : bkOk b) (g2 : b.1 ∉ (preO o k j).map (·.1)) (g3 : k < o.bk.length → k ∈ opath (o.leaf b.1)) : PreO o k (j + 1) := by
  refine ⟨fun x hx => ?_, ?_, h.room, fun i l' q b' hl' hb' hi => ?_⟩
  · rw [preO_next hl hb] at hx
    rcases List.mem_append.1 hx with hx | hx
    · exact h.rng x hx
    · simp at hx; subst hx; exact g1
  · rw [preO_next hl hb, List.map_append, List.nodup_append]
    refine ⟨h.nd, by simp, fun x hx y hy e => ?_⟩
    simp at hy
    subst hy; subst e
    exact g2 hx
  · by_cases hq : i = k ∧ q = j
    · obtain ⟨rfl, rfl⟩ := hq
      have hk : i < o.bk.length := (List.getElem?_eq_some_iff.1 hl').1
      rw [lsO_bk hl hk] at hl'
      injection hl' with hl'
      subst hl'
      rw [hb] at hb'
      injection hb' with hb'
      subst hb'
      exact g3 hk
    · exact h.path i l' q b' hl' hb' (by omega)
theorem PreO.line (h : PreO o k l.length) (hl : (lsO o)[k]? = some l) (hr : k < o.bk.length → l.length ≤ 2) : PreO o (k + 1) 0 := by
  refine ⟨by rw [preO_line hl]; exact h.rng, by rw [preO_line hl]; exact h.nd, fun i l' hl' hi => ?_, fun i l' q b' hl' hb' hi => ?_⟩
  · by_cases e : i = k
    · subst e
      have hk : i < o.bk.length := (List.getElem?_eq_some_iff.1 hl').1
      rw [lsO_bk hl hk] at hl'
      injection hl' with hl'
      subst hl'
      exact hr hk
    · exact h.room i l' hl' (by omega)
  · refine h.path i l' q b' hl' hb' ?_
    by_cases e : i = k
    · subst e
      have hk : i < o.bk.length := (List.getElem?_eq_some_iff.1 hl').1
      rw [lsO_bk hl hk] at hl'
      injection hl' with hl'
      subst hl'
      exact .inr ⟨rfl, (List.getElem?_eq_some_iff.1 hb').1⟩
    · omega
theorem PreO.done (h : PreO o (o.bk.length + 1) 0) (nb : o.bk.length = 15) (np : o.pos.length = 12) (pr : ∀ p ∈ o.pos, 0 ≤ p ∧ p ≤ 7) : OOk o := by
  have h1 := h.rng
  have h2 := h.nd
  rw [preO_all] at h1 h2
  refine ⟨nb, np, pr, fun l hl => ?_, h1, h2, fun i l hl b hb => ?_⟩
  · obtain ⟨i, hi⟩ := List.mem_iff_getElem?.1 hl
    exact h.room i l hi (by have := (List.getElem?_eq_some_iff.1 hi).1; omega)
  · obtain ⟨q, hq⟩ := List.mem_iff_getElem?.1 hb
    exact h.path i l q b hl hq (by have := (List.getElem?_eq_some_iff.1 hl).1; omega)
end
open Classical in
noncomputable def oramB (o : OM) : Bool := decide (OOk o)
theorem oramB_yes {o : OM} (h : OOk o) : oramB o = true := by simp [oramB, h]
theorem oramB_no {o : OM} (h : ¬ OOk o) : oramB o = false := by simp [oramB, h]
theorem oramB_is {o : OM} (h : oramB o = true) : OOk o := by simpa [oramB] using h
end Go.Proofs.Ythncoohkdmjcaaa
