/-
  Opening a law's arguments: fields of structs, by what they read as.
-/
import Derived.Test.YthaadgdeadbhkaaMgFnExactEngineOutputs44
import Derived.Test.YthaadgdeadbhkaaMgFnExactEngineOutputs12
import Derived.Test.YthaadgdeadbhkaaMgFnExactEngineOutputs24
import Derived.StillTailTactics
namespace Go.Proofs.Ythaadgdeadbhkaa
open Go.ChangeShapes Go.WideShapes Go.ChangeAt Go.RowKit Go.Joins Go.Deep
set_option linter.unusedVariables false
set_option linter.unusedSimpArgs false
section
variable {H : Type} {enc : TypeId × Value → H} {P : Program} {w : World} {base : Nat} {spare : Nat → Bool} {held : Bool}
theorem kInts {t e : TypeId} {m : Nat} {v : Value} {y : DataW H × List MemPlace} (ht : P.underlying t = some (.slice e)) (he : P.underlying e = some (.int .i64)) (hc : P.cellsOf e = 1)
    (h : DataW.trod enc P w base spare held m t [v] = some y) : ∃ xs, (cints xs).rd w v ∧ ∀ z ∈ xs, i64w z := by
  rcases open_ints ht he hc h with ⟨hcs, _⟩ | ⟨a, l, c, zs, hcs, _, hl, hm, hz, _, hcell, hwz⟩
  · simp at hcs
    exact ⟨[], by rw [hcs]; exact cints_mk (Ints.nil w none) (Nat.le_refl _) (by simp), by simp⟩
  · simp at hcs
    have hlz : l ≤ zs.length := by rw [hz]; split <;> omega
    refine ⟨zs.take l, ?_, fun z hz' => wf_i64 (hwz z (List.mem_of_mem_take hz'))⟩
    rw [hcs]
    refine cints_mk ⟨by simp; omega, fun hp => ?_⟩ hl hm
    obtain ⟨b, o, s⟩ := a
    have h0 := hcell 0 (by omega)
    have hs : s = none := by simpa [Addr.add] using World.cell?_spot h0
    subst hs
    refine ⟨b, o, rfl, World.block_lt_of_cell? w _ h0, fun j hj => ?_⟩
    have hj' := hcell j (by omega)
    rw [add_off] at hj'
    rw [hj', List.getElem?_map, List.getElem?_take, if_pos (by omega), List.getElem?_eq_getElem (show j < zs.length by omega)]
    simp [List.getD_eq_getElem?_getD, List.getElem?_eq_getElem (show j < zs.length by omega)]
theorem kSt3 {t e E : TypeId} {fs : Array Field} {m : Nat} {v : Value} {y : DataW H × List MemPlace} (ht : P.underlying t = some (.slice e)) (he : P.underlying e = some (.struct fs))
    (hone : oneCellFields P fs = true) (hC : P.cellsOf e = fs.size) (hint : ∀ (j : Nat) (f : Field), fs[j]? = some f → P.underlying f.type = some (.int .i64)) (hs : fs.size = 3)
    (h : DataW.trod enc P w base spare held m t [v] = some y) : ∃ xs, (plst E 3 c3 xs).rd w v ∧ ∀ x ∈ xs, w3 x := by
  obtain ⟨A, n, c, zss, rfl, h1, h2, h3, h4, h5⟩ := tSK ht he hone hC hint (by omega) h
  rw [hs] at h4 h5
  obtain ⟨xs, q1, q2⟩ := fl3 h3 h4 h5
  exact ⟨xs, plst_mk c3_len c3_one q1 h1 h2, q2⟩
end
end Go.Proofs.Ythaadgdeadbhkaa
/-
  Lists of lists of numbers: the laws' helpers toIntSS, eqIntSS, markIntSS, szIntSS.
-/
namespace Go.Proofs.Ythaadgdeadbhkaa
open Go.RowKit
set_option linter.unusedVariables false
set_option linter.unusedSimpArgs false
end Go.Proofs.Ythaadgdeadbhkaa
/-
  Opening a law's arguments: lists of lists of numbers.
-/
namespace Go.Proofs.Ythaadgdeadbhkaa
open Go.ChangeShapes Go.WideShapes Go.ChangeAt Go.RowKit Go.Joins Go.Deep
set_option linter.unusedVariables false
set_option linter.unusedSimpArgs false
section
variable {H : Type} {enc : TypeId × Value → H} {P : Program} {w : World} {base : Nat} {spare : Nat → Bool} {held : Bool}
end
end Go.Proofs.Ythaadgdeadbhkaa
/-
  The laws' helpers on slices of slices of blocks, by what they read as.
-/
namespace Go.Proofs.Ythaadgdeadbhkaa
open Go.RowKit
set_option linter.unusedVariables false
set_option linter.unusedSimpArgs false
end Go.Proofs.Ythaadgdeadbhkaa
/-
  Opening a law's arguments: slices of slices, by what they read as.
-/
namespace Go.Proofs.Ythaadgdeadbhkaa
open Go.ChangeShapes Go.WideShapes Go.ChangeAt Go.RowKit Go.Joins Go.Deep
set_option linter.unusedVariables false
set_option linter.unusedSimpArgs false
section
variable {H : Type} {enc : TypeId × Value → H} {P : Program} {w : World} {base : Nat} {spare : Nat → Bool} {held : Bool}
end
end Go.Proofs.Ythaadgdeadbhkaa
