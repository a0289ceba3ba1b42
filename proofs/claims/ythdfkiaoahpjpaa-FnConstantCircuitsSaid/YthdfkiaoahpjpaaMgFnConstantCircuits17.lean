/-
  EvalArith of the program.
-/
import Derived.Test.YthdfkiaoahpjpaaMgFnConstantCircuits16
namespace Go.Proofs.Ythdfkiaoahpjpaa
open Go.RowKit
set_option linter.unusedVariables false
set_option linter.unusedSimpArgs false
end Go.Proofs.Ythdfkiaoahpjpaa
/-
  l29Same, same, ints: comparing and copying lists of numbers.
-/
namespace Go.Proofs.Ythdfkiaoahpjpaa
open Go.RowKit
set_option linter.unusedVariables false
set_option linter.unusedSimpArgs false
theorem ints_one (zs : List Int) : ∀ u ∈ zs.map (Value.int .i64), u.oneCell' = true := by
  intro u hu
  obtain ⟨z, _, rfl⟩ := List.mem_map.1 hu
  rfl
end Go.Proofs.Ythdfkiaoahpjpaa
/-
  AddShares, ScaleShares, AddConstant: reference and program, on elements.
-/
namespace Go.Proofs.Ythdfkiaoahpjpaa
open Go.RowKit
set_option linter.unusedVariables false
set_option linter.unusedSimpArgs false
end Go.Proofs.Ythdfkiaoahpjpaa
/-
  AuthAdd, AuthScale: reference and program.
-/
namespace Go.Proofs.Ythdfkiaoahpjpaa
open Go.RowKit
set_option linter.unusedVariables false
set_option linter.unusedSimpArgs false
def row1 (lo n : Nat) (L : List Int) (v : Value) (w : World) : Prop := ∃ A c, v = .slice A n c ∧ w.ownsRow lo 3 1 v n (L.map (Value.int .i64))
def row2 (lo n m : Nat) (L M : List Int) (v u : Value) (w : World) : Prop := row1 lo n L v w ∧ row1 lo m M u w ∧ ∀ g, v.ownBlock = some g → u.ownBlock ≠ some g
theorem row1.grow {lo n : Nat} {L : List Int} {v : Value} {w w' : World} (h : row1 lo n L v w) (hg : w.grownBy w' none) : row1 lo n L v w' := by
  obtain ⟨A, c, h1, h2⟩ := h
  exact ⟨A, c, h1, own_grow h2 hg⟩
theorem row1.of {lo n : Nat} {L : List Int} {v : Value} {w : World} (h : w.ownsRow lo 3 1 v n (L.map (Value.int .i64))) : row1 lo n L v w := by
  obtain ⟨A, c, e, _⟩ := own_form h
  exact ⟨A, c, e, h⟩
theorem row2.of {lo n m : Nat} {L M : List Int} {v u : Value} {w w' : World} (h : row1 lo n L v w) (hg : w.grownBy w' none) (hl : lo ≤ w.heap.size) (k : w'.ownsRow w.heap.size 3 1 u m (M.map (Value.int .i64))) : row2 lo n m L M v u w' := by
  refine ⟨h.grow hg, row1.of (own_base k hl), fun g hg' hu => ?_⟩
  obtain ⟨A, c, _, h2⟩ := h
  have h3 := (h2.lt g hg').2
  have h4 := (k.lt g hu).1
  omega
theorem row2.agg {lo n m : Nat} {L M : List Int} {v u : Value} {w : World} (h : row2 lo n m L M v u w) : ∃ F, AggO w (cauth ⟨L, M⟩) F (.agg #[v, u]) ∧ ∀ g ∈ F, lo ≤ g := by
  obtain ⟨⟨A, c, h1, h2⟩, ⟨B, d, k1, k2⟩, h3⟩ := h
  have o1 := cints_own h2
  have o2 := cints_own k2
  refine ⟨_, cauth_omk (m := ⟨L, M⟩) o1 o2 (fun g hg hg' => h3 g (by simpa using hg) (by simpa using hg')), fun g hg => ?_⟩
  simp at hg
  rcases hg with hg | hg
  · exact (h2.lt g hg).1
  · exact (k2.lt g hg).1
def autF (lo : Nat) (m : AuM) (v : Value) (w : World) : Prop := ∃ F, AggO w (cauth m) F v ∧ ∀ g ∈ F, lo ≤ g
theorem autF.grow {lo : Nat} {m : AuM} {v : Value} {w w' : World} (h : autF lo m v w) (hg : w.grownBy w' none) : autF lo m v w' := by
  obtain ⟨F, h1, h2⟩ := h
  exact ⟨F, h1.grow hg, h2⟩
theorem autF.form {lo : Nat} {m : AuM} {v : Value} {w : World} (h : autF lo m v w) : ∃ A n c B k d, v = .agg #[.slice A n c, .slice B k d] := by
  obtain ⟨F, h1, _⟩ := h
  exact cauth_oform h1
theorem autF.chg {lo g : Nat} {m : AuM} {v : Value} {w w' : World} (h : autF lo m v w) (k : Chg (fun y => y = g) w w') (hg : g < lo) : autF lo m v w' := by
  obtain ⟨F, h1, h2⟩ := h
  exact ⟨F, h1.chg k (fun x hx (e : x = g) => by have := h2 x hx; omega), h2⟩
theorem autF.lo {lo lo' : Nat} {m : AuM} {v : Value} {w : World} (h : autF lo m v w) (hl : lo' ≤ lo) : autF lo' m v w := by
  obtain ⟨F, h1, h2⟩ := h
  exact ⟨F, h1, fun g hg => Nat.le_trans hl (h2 g hg)⟩
end Go.Proofs.Ythdfkiaoahpjpaa
/-
  AuthScale, AuthConst: reference and program.
-/
namespace Go.Proofs.Ythdfkiaoahpjpaa
open Go.RowKit
set_option linter.unusedVariables false
set_option linter.unusedSimpArgs false
end Go.Proofs.Ythdfkiaoahpjpaa
/-
  MacCheck: reference and program; the sum of keys.
-/
namespace Go.Proofs.Ythdfkiaoahpjpaa
open Go.RowKit
set_option linter.unusedVariables false
set_option linter.unusedSimpArgs false
end Go.Proofs.Ythdfkiaoahpjpaa
/-
  shared: shares of an element (the program's own helper).
-/
namespace Go.Proofs.Ythdfkiaoahpjpaa
open Go.RowKit
set_option linter.unusedVariables false
set_option linter.unusedSimpArgs false
end Go.Proofs.Ythdfkiaoahpjpaa
/-
  AuthNew of the program.
-/
namespace Go.Proofs.Ythdfkiaoahpjpaa
open Go.RowKit
set_option linter.unusedVariables false
set_option linter.unusedSimpArgs false
end Go.Proofs.Ythdfkiaoahpjpaa
/-
  minus, valueIn, copyAuth: the program's helpers.
-/
namespace Go.Proofs.Ythdfkiaoahpjpaa
open Go.RowKit
set_option linter.unusedVariables false
set_option linter.unusedSimpArgs false
theorem autF.rd {lo : Nat} {m : AuM} {v : Value} {w : World} (h : autF lo m v w) : AggR w (cauth m) v := by
  obtain ⟨F, h1, _⟩ := h
  exact AggO.rd h1
end Go.Proofs.Ythdfkiaoahpjpaa
/-
  Triples: what they read as; TripleUse of the program.
-/
namespace Go.Proofs.Ythdfkiaoahpjpaa
open Go.RowKit
set_option linter.unusedVariables false
set_option linter.unusedSimpArgs false
end Go.Proofs.Ythdfkiaoahpjpaa
