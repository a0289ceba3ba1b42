/-
  Opening a law's arguments: lists of lists of numbers.
-/
import Derived.Test.YthncoohkdmjcaaaOpenS
import Derived.Test.YthncoohkdmjcaaaMat
namespace Go.Proofs.Ythncoohkdmjcaaa
open Go.ChangeShapes Go.WideShapes Go.ChangeAt Go.RowKit Go.Joins Go.Deep
set_option linter.unusedVariables false
section
variable {H : Type} {enc : TypeId × Value → H} {P : Program} {w : World} {base : Nat} {spare : Nat → Bool} {held : Bool}
theorem tS2 {t e : TypeId} {k : IntKind} {m : Nat} {v : Value} {y : DataW H × List MemPlace} (ht : P.underlying t = some (.slice e)) (he : P.underlying e = some (.int k)) (hc : P.cellsOf e = 1)
    (h : DataW.trod enc P w base spare held m t [v] = some y) : ∃ A n c zs, v = .slice A n c ∧ IntsK k w A n zs ∧ n ≤ c ∧ c ≤ maxLen := by
  rcases open_ints ht he hc h with ⟨hcs, _⟩ | ⟨a, l, c, zs, hcs, _, hl, hm, hz, _, hcell, hwz⟩
  · simp at hcs
    exact ⟨none, 0, 0, [], hcs, ⟨⟨by simp, fun h => absurd h (by omega)⟩, by simp⟩, by simp, by simp⟩
  · simp at hcs
    have hlz : l ≤ zs.length := by rw [hz]; split <;> omega
    refine ⟨some a, l, c, zs.take l, hcs, ⟨⟨by simp; omega, fun hp => ?_⟩, fun z hz' => hwz z (List.mem_of_mem_take hz')⟩, by omega, by omega⟩
    obtain ⟨b, o, s⟩ := a
    have h0 := hcell 0 (by omega)
    have hs : s = none := by simpa [Addr.add] using World.cell?_spot h0
    subst hs
    refine ⟨b, o, rfl, World.block_lt_of_cell? w _ h0, fun j hj => ?_⟩
    have hj' := hcell j (by omega)
    rw [add_off] at hj'
    rw [hj', List.getElem?_map, List.getElem?_take, if_pos (by omega), List.getElem?_eq_getElem (show j < zs.length by omega)]
    simp [List.getD_eq_getElem?_getD, List.getElem?_eq_getElem (show j < zs.length by omega)]
theorem trod_len {t : TypeId} {m : Nat} {cs : List Value} {y : DataW H × List MemPlace} {e : TypeId} (ht : P.underlying t = some (.slice e)) (h : DataW.trod enc P w base spare held m t cs = some y) : ∃ v, cs = [v] := by
  rcases open_slice ht h with ⟨h0, _⟩ | ⟨a, len, cap, mm, n, D, Pl, hcs, _⟩
  · exact ⟨_, h0⟩
  · exact ⟨_, hcs⟩
theorem tSS {t e f : TypeId} {m : Nat} {v : Value} {y : DataW H × List MemPlace} (ht : P.underlying t = some (.slice e)) (he : P.underlying e = some (.slice f)) (hf : P.underlying f = some (.int .i64)) (hc : P.cellsOf f = 1) (hce : P.cellsOf e = 1)
    (h : DataW.trod enc P w base spare held m t [v] = some y) : ∃ A n c rows, v = .slice A n c ∧ Mat w A n rows ∧ n ≤ c ∧ c ≤ maxLen ∧ ∀ r ∈ rows, ∀ z ∈ r, (Lit.int .i64 z).wf = true := by
  rcases open_slice ht h with ⟨hcs, _⟩ | ⟨a, len, cap, mm, n, D, Pl, hcs, hb, hl, hm, hmm, hx, hi⟩
  · simp at hcs
    exact ⟨none, 0, 0, [], hcs, ⟨[], rfl, fun i cd u hcd => by simp at hcd, by simp, fun h => absurd h (by omega)⟩, by simp, by simp, by simp⟩
  · simp at hcs
    have hrow : ∀ i, i < len → ∃ vr : Value × List Int, w.cell? (a.add i) = some vr.1 ∧ (ir vr.2).rd w vr.1 ∧ ∀ z ∈ vr.2, (Lit.int .i64 z).wf = true := fun i hil => by
      obtain ⟨cs', hc', ht'⟩ := hi i (by rw [hmm]; split <;> omega)
      obtain ⟨u, rfl⟩ := trod_len he ht'
      obtain ⟨A, k, c, zs, rfl, hz, h1, h2⟩ := tS2 he hf hc ht'
      rw [hce, Nat.mul_one] at hc'
      obtain ⟨_, hcl, hat⟩ := World.cells?_some hc'
      have h0 := hat 0 (by omega)
      have hk : zs.length = k := Ints.len hz.ints
      refine ⟨(.slice A k c, zs), ?_, ?_, hz.2⟩
      · simpa [Addr.add] using h0
      · subst hk
        exact ⟨A, c, rfl, h1, h2, hz.1⟩
    obtain ⟨vrs, hvl, hv⟩ := list_of _ len hrow
    refine ⟨some a, len, cap, vrs.map (·.2), hcs, ⟨vrs.map (·.1), by simp, fun i cd u hcd hu => ?_, by simp [hvl], fun hp => ?_⟩, hl, hm, fun r hr z hz => ?_⟩
    · rw [List.getElem?_map] at hu
      cases hvi : vrs[i]? with
      | none => rw [hvi] at hu; cases hu
      | some vr =>
        rw [List.getElem?_map, List.getElem?_map, hvi] at hcd
        rw [hvi] at hu
        injection hu with hu
        injection hcd with hcd
        subst hu; subst hcd
        exact (hv i vr hvi).2.1
    · obtain ⟨b, o, s⟩ := a
      have hv0 : vrs[0]? = some (vrs[0]'(by omega)) := List.getElem?_eq_getElem (by omega)
      have h0 := (hv 0 _ hv0).1
      have hs : s = none := by simpa [Addr.add] using World.cell?_spot h0
      subst hs
      rw [add_off] at h0
      refine ⟨b, o, rfl, World.block_lt_of_cell? w _ h0, fun j hj => ?_⟩
      have hvj : vrs[j]? = some (vrs[j]'(by omega)) := List.getElem?_eq_getElem (by omega)
      have h1 := (hv j _ hvj).1
      rw [add_off] at h1
      rw [h1, List.getElem?_map, hvj]
      rfl
    · obtain ⟨vr, hvr, rfl⟩ := List.mem_map.1 hr
      obtain ⟨i, hi⟩ := List.mem_iff_getElem?.1 hvr
      exact (hv i vr hi).2.2 z hz
end
end Go.Proofs.Ythncoohkdmjcaaa
