/-
  Prune of the program, for a circuit of constants.
-/
import Derived.Test.YthdfkiaoahpjpaaMgFnConstantCircuits39
namespace Go.Proofs.Ythdfkiaoahpjpaa
open Go.RowKit
set_option linter.unusedVariables false
set_option linter.unusedSimpArgs false
theorem cbools_row {w : World} {F : List Nat} {v : Value} {xs : List Bool} (h : (cbools xs).own w F v) : ∃ A c, v = .slice A xs.length c ∧ F = v.ownBlock.toList ∧ ∀ lo, (∀ g ∈ F, lo ≤ g) → w.ownsRow lo 4 1 v xs.length (xs.map Value.bool) := by
  obtain ⟨A, c, h1, h2, h3⟩ := plst_row (s := 1) (fun _ => rfl) (by omega) h
  exact ⟨A, c, h1, h2, fun lo hlo => by have := h3 lo hlo; rw [flat_fbC] at this; exact this⟩
theorem ownF.bools {lo n : Nat} {xs : List Bool} {v : Value} {w : World} (h : w.ownsRow lo 4 1 v n (xs.map Value.bool)) : ownF lo (cbools xs) v w :=
  ⟨_, plst_own (s := 1) (fun _ => rfl) (by omega) fbC_one (by rw [flat_fbC]; exact h), fun x hx => (h.lt x (by simpa using hx)).1⟩
theorem ownF.putB {lo g n c i : Nat} {xs : List Bool} {w : World} (h : ownF lo (cbools xs) (.slice (some ⟨g, 0, none⟩) n c) w) (z : Bool) : ownF lo (cbools (xs.set i z)) (.slice (some ⟨g, 0, none⟩) n c) (w.setCell ⟨g, i, none⟩ (.bool z)) := by
  obtain ⟨F, h1, h2⟩ := h
  obtain ⟨A, c', e, _, hr⟩ := cbools_row h1
  injection e with e1 e2 e3
  have hr := hr lo h2
  rw [← e2] at hr
  have hs := hr.stored i (.bool z)
  rw [← List.map_set] at hs
  exact ownF.bools hs.1
theorem ownF.valB {lo g n c i : Nat} {xs : List Bool} {w : World} (h : ownF lo (cbools xs) (.slice (some ⟨g, 0, none⟩) n c) w) (hi : i < n) : w.cell? ⟨g, i, none⟩ = some (.bool (xs.getD i false)) ∧ w.frozen? ⟨g, i, none⟩ = false ∧ lo ≤ g ∧ g < w.heap.size := by
  obtain ⟨F, h1, h2⟩ := h
  obtain ⟨A', c', e, _, _, hB⟩ := cbools_rd ((cbools xs).toRd h1)
  injection e with e1 e2 e3
  rw [← e1, ← e2] at hB
  obtain ⟨b, o, e4, hb, hc⟩ := hB.at_ (by omega)
  injection e4 with e4
  injection e4 with e5 e6
  subst e5; subst e6
  have := hc i hi
  rw [Nat.zero_add] at this
  obtain ⟨A, c', e, _, hr⟩ := cbools_row h1
  obtain ⟨cur, hB9, hl⟩ := own_blk9 (hr lo h2) (g := g) rfl
  exact ⟨this, hB9.frozen i, hl, hb⟩
theorem ownF.valI {lo g n c i : Nat} {xs : List Int} {w : World} (h : ownF lo (cints xs) (.slice (some ⟨g, 0, none⟩) n c) w) (hi : i < n) : w.cell? ⟨g, i, none⟩ = some (.int .i64 (xs.getD i 0)) ∧ w.frozen? ⟨g, i, none⟩ = false ∧ lo ≤ g ∧ g < w.heap.size := by
  obtain ⟨F, h1, h2⟩ := h
  have hB := (cints_rd' ((cints xs).toRd h1)).2.2.2
  have hv := hB.val hi
  rw [Nat.zero_add] at hv
  obtain ⟨b, o, e4, hb, _⟩ := hB.at_ (by omega)
  injection e4 with e4
  injection e4 with e5 e6
  subst e5
  obtain ⟨l1, cur, hB9⟩ := ownF.blk ⟨F, h1, h2⟩
  exact ⟨hv, hB9.frozen i, l1, hb⟩
theorem ownF.chgS {lo : Nat} {S : Nat → Prop} {c : CS} {v : Value} {w w' : World} (h : ownF lo c v w) (k : Chg S w w') (hS : ∀ y, S y → y < lo ∨ w.heap.size ≤ y) : ownF lo c v w' := by
  obtain ⟨F, h1, h2⟩ := h
  exact ⟨F, own_chgK _ h1 k (fun x hx hs => by have h3 := h2 x hx; have h4 := CS.lt _ h1 x hx; rcases hS x hs with h5 | h5 <;> omega), h2⟩
section
variable {T : TypeId} {cs : List CS} {g lo n i : Nat} {w : World}
theorem sof_plst0 {α : Type} {e : TypeId} {s : Nat} {f : α → List Value} (hf : ∀ x, (f x).length = s) (hs0 : 0 < s) {xs : List α} (h : sofF lo T cs g w) (hlo : lo ≤ w.heap.size) (hi : cs[i]? = some (plst e s f xs)) (hl : xs.length = n) :
    ∃ A c F1, w.cell? ⟨g, i, none⟩ = some (.slice A n c) ∧ w.frozen? ⟨g, i, none⟩ = false ∧ (plst e s f xs).own w F1 (.slice A n c) ∧ ((∀ x ∈ F1, lo ≤ x ∧ x < w.heap.size) ∧ g ∉ F1 ∧ g < w.heap.size) ∧
      (∀ (w' : World) A' n' c' F' (ys : List α), (plst e s f ys).own w' F' (.slice A' n' c') → Chg (fun y => y ∈ F1) w w' → (∀ y ∈ F', y ∈ F1 ∨ w.heap.size ≤ y) →
        w'.cell? ⟨g, i, none⟩ = some (.slice A n c) ∧ w'.frozen? ⟨g, i, none⟩ = false ∧ sofF lo T (cs.set i (plst e s f ys)) g (w'.setCell ⟨g, i, none⟩ (.slice A' n' c'))) := by
  obtain ⟨F, h, hF⟩ := h
  obtain ⟨u, Fi, h1, h2, h3, h4, h5, h6, _⟩ := h.at_ (i := i) (c := plst e s f xs) hi
  obtain ⟨A, c, rfl, hFi, _⟩ := plst_row hf hs0 h3
  subst hl
  refine ⟨A, c, Fi, h1, h2, h3, ⟨fun x hx => ⟨hF x (h4 x hx), CS.lt _ h3 x hx⟩, h5, h.ltg⟩, fun w' A' n' c' F' ys ho hc hs => ?_⟩
  obtain ⟨F2, m1, m2⟩ := h6 w' (plst e s f ys) _ F' hc ho hs
  refine ⟨hc.cell h1 h.ltg h5, hc.frozen h2 h.ltg h5, ⟨F2, m1, fun y hy => ?_⟩⟩
  rcases m2 y hy with e | e
  · exact hF y e
  · omega
theorem sofF.chgS {S : Nat → Prop} {w' : World} (h : sofF lo T cs g w) (k : Chg S w w') (hS : ∀ y, S y → y < lo ∧ y ≠ g) : sofF lo T cs g w' := by
  obtain ⟨F, h1, h2⟩ := h
  exact ⟨F, h1.chg k (fun y hy hs => by have := (hS y hs).1; have := h2 y hy; omega) (fun hs => (hS g hs).2 rfl), h2⟩
end
end Go.Proofs.Ythdfkiaoahpjpaa
