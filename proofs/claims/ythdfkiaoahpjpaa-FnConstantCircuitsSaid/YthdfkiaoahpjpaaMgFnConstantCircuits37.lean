/-
  The program's circuits for words: products.
-/
import Derived.Test.YthdfkiaoahpjpaaMgFnConstantCircuits26
namespace Go.Proofs.Ythdfkiaoahpjpaa
open Go.RowKit
set_option linter.unusedVariables false
set_option linter.unusedSimpArgs false
theorem ownF.put {lo g n c i : Nat} {xs : List Int} {w : World} (h : ownF lo (cints xs) (.slice (some ⟨g, 0, none⟩) n c) w) (z : Int) : ownF lo (cints (xs.set i z)) (.slice (some ⟨g, 0, none⟩) n c) (w.setCell ⟨g, i, none⟩ (.int .i64 z)) := by
  obtain ⟨F, h1, h2⟩ := h
  obtain ⟨A, c', e, _, hr⟩ := cints_row h1
  injection e with e1 e2 e3
  have hr := hr lo h2
  rw [← e2] at hr
  have hs := hr.stored i (.int .i64 z)
  rw [← List.map_set] at hs
  exact ownF.ints hs.1
theorem ownF.blk {lo g n c : Nat} {xs : List Int} {w : World} (h : ownF lo (cints xs) (.slice (some ⟨g, 0, none⟩) n c) w) : lo ≤ g ∧ ∃ cur, Blk w g 3 cur := by
  obtain ⟨F, h1, h2⟩ := h
  obtain ⟨A, c', e, _, hr⟩ := cints_row h1
  obtain ⟨cur, hb, hl⟩ := own_blk9 (hr lo h2) (g := g) rfl
  exact ⟨hl, cur, hb⟩
end Go.Proofs.Ythdfkiaoahpjpaa
