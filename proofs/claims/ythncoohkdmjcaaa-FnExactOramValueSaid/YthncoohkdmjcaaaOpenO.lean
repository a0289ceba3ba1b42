/-
  Opening a law's arguments: slices of slices, by what they read as.
-/
import Derived.Test.YthncoohkdmjcaaaOpenK
import Derived.Test.YthncoohkdmjcaaaOpenM
import Derived.Test.YthncoohkdmjcaaaBlocks
namespace Go.Proofs.Ythncoohkdmjcaaa
open Go.ChangeShapes Go.WideShapes Go.ChangeAt Go.RowKit Go.Joins Go.Deep
set_option linter.unusedVariables false
section
variable {H : Type} {enc : TypeId × Value → H} {P : Program} {w : World} {base : Nat} {spare : Nat → Bool} {held : Bool}
theorem kRows {α : Type} {t e e' EE : TypeId} {m : Nat} {v : Value} {y : DataW H × List MemPlace} (f : α → CS) {Q : α → Prop} (ht : P.underlying t = some (.slice e)) (he : P.underlying e = some (.slice e')) (hce : P.cellsOf e = 1)
    (hin : ∀ (m : Nat) (u : Value) (y : DataW H × List MemPlace), DataW.trod enc P w base spare held m e [u] = some y → ∃ xs : α, (f xs).rd w u ∧ Q xs)
    (h : DataW.trod enc P w base spare held m t [v] = some y) : ∃ xss : List α, (lst EE 1 (fun l => [f l]) xss).rd w v ∧ ∀ x ∈ xss, Q x := by
  rcases open_slice ht h with ⟨hcs, _⟩ | ⟨a, len, cap, mm, n, D, Pl, hcs, hb, hl, hm, hmm, hx, hi⟩
  · simp at hcs
    refine ⟨[], ?_, by simp⟩
    rw [hcs]
    exact lst_mk (s := 1) (vs := []) (fun _ => rfl) rfl (Nat.le_refl _) (by simp) (RdAll.nil w) ⟨rfl, fun h => absurd h (by omega)⟩
  · simp at hcs
    have hrow : ∀ i, i < len → ∃ vr : Value × α, w.cell? (a.add i) = some vr.1 ∧ (f vr.2).rd w vr.1 ∧ Q vr.2 := fun i hil => by
      obtain ⟨cs', hc', ht'⟩ := hi i (by rw [hmm]; split <;> omega)
      obtain ⟨u, rfl⟩ := trod_len he ht'
      obtain ⟨xs, h1, h2⟩ := hin _ _ _ ht'
      rw [hce, Nat.mul_one] at hc'
      obtain ⟨_, hcl, hat⟩ := World.cells?_some hc'
      have h0 := hat 0 (by omega)
      exact ⟨(u, xs), by simpa [Addr.add] using h0, h1, h2⟩
    obtain ⟨vrs, hvl, hv⟩ := list_of _ len hrow
    refine ⟨vrs.map (·.2), ?_, fun r hr => ?_⟩
    · rw [hcs]
      refine lst_mk (s := 1) (vs := vrs.map (·.1)) (fun _ => rfl) (by simp [hvl]) hl hm ⟨by rw [flat_one]; simp, fun i c u hc hu => ?_⟩ ⟨by simp [hvl], fun hp => ?_⟩
      · rw [flat_one, List.getElem?_map, List.getElem?_map] at hc
        rw [List.getElem?_map] at hu
        cases hvi : vrs[i]? with
        | none => rw [hvi] at hu; cases hu
        | some vr =>
          rw [hvi] at hu hc
          injection hu with hu
          injection hc with hc
          subst hu; subst hc
          exact (hv i vr hvi).2.1
      · obtain ⟨b, o, s⟩ := a
        have hv0 : vrs[0]? = some (vrs[0]'(by omega)) := List.getElem?_eq_getElem (by omega)
        have h0 := (hv 0 _ hv0).1
        have hs : s = none := by simpa [Addr.add] using World.cell?_spot h0
        subst hs
        rw [add_off] at h0
        refine ⟨b, o, rfl, World.block_lt_of_cell? w _ h0, fun j hj => ?_⟩
        have hvj : vrs[j]? = some (vrs[j]'(by omega)) := List.getElem?_eq_getElem (by omega)
        have h1 := (hv j _ hvj).1
        rw [add_off] at h1
        rw [h1, List.getElem?_map, hvj]
        rfl
    · obtain ⟨vr, hvr, rfl⟩ := List.mem_map.1 hr
      obtain ⟨i, hi⟩ := List.mem_iff_getElem?.1 hvr
      exact (hv i vr hi).2.2
end
end Go.Proofs.Ythncoohkdmjcaaa
