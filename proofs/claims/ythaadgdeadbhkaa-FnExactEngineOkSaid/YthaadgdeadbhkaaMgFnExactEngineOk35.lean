/-
  copyEngine of the program.
-/
import Derived.Test.YthaadgdeadbhkaaMgFnExactEngineOk34
namespace Go.Proofs.Ythaadgdeadbhkaa
open Go.RowKit
set_option linter.unusedVariables false
set_option linter.unusedSimpArgs false
def keyL (lo : Nat) (k : KM) (u : Value) (w : World) : Prop := ∃ A n c, u = .agg #[.int .i64 k.p, .slice A n c] ∧ ownL lo (ckeys k) [.int .i64 k.p, .slice A n c] w
def keyArL (lo : Nat) (k : KM) (m : AM) (u v : Value) (w : World) : Prop := ∃ A n c B q d C r e, u = .agg #[.int .i64 k.p, .slice A n c] ∧ v = .agg #[.int .i64 m.p, .slice B q d, .slice C r e] ∧ ownL lo (ckeys k ++ carith m) [.int .i64 k.p, .slice A n c, .int .i64 m.p, .slice B q d, .slice C r e] w
theorem keyL.of {lo : Nat} {k : KM} {u : Value} {w : World} (h : aggF lo (ckeys k) u w) : keyL lo k u w := by
  obtain ⟨F, h1, h2⟩ := h
  obtain ⟨A, n, c, rfl⟩ := ckeys_oform h1
  exact ⟨A, n, c, rfl, aggF.all ⟨F, h1, h2⟩⟩
theorem keyArL.of {lo : Nat} {k : KM} {m : AM} {u v : Value} {w w' : World} (h : keyL lo k u w) (hg : w.grownBy w' none) (k2 : aggF w.heap.size (carith m) v w') (hl : lo ≤ w.heap.size) : keyArL lo k m u v w' := by
  obtain ⟨A, n, c, rfl, h1⟩ := h
  obtain ⟨F, k3, k4⟩ := k2
  obtain ⟨B, q, d, C, r, e, rfl⟩ := carith_oform k3
  exact ⟨A, n, c, B, q, d, C, r, e, rfl, rfl, h1.app hg (aggF.all (vs := [_, _, _]) ⟨F, k3, k4⟩) hl⟩
theorem keyL.grow {lo : Nat} {k : KM} {u : Value} {w w' : World} (h : keyL lo k u w) (hg : w.grownBy w' none) : keyL lo k u w' := by
  obtain ⟨A, n, c, e, h1⟩ := h
  exact ⟨A, n, c, e, h1.grow hg⟩
theorem keyArL.grow {lo : Nat} {k : KM} {m : AM} {u v : Value} {w w' : World} (h : keyArL lo k m u v w) (hg : w.grownBy w' none) : keyArL lo k m u v w' := by
  obtain ⟨A, n, c, B, q, d, C, r, e, e1, e2, h1⟩ := h
  exact ⟨A, n, c, B, q, d, C, r, e, e1, e2, h1.grow hg⟩
def keyArO (lo : Nat) (m : EM) (u v x : Value) (w : World) : Prop := ∃ A n c B q d C r e E o i, u = .agg #[.int .i64 m.k.p, .slice A n c] ∧ v = .agg #[.int .i64 m.c.p, .slice B q d, .slice C r e] ∧ x = .slice E o i ∧ ownL lo (ckeys m.k ++ carith m.c ++ [cauths []] ++ [cints m.op]) [.int .i64 m.k.p, .slice A n c, .int .i64 m.c.p, .slice B q d, .slice C r e, .slice none 0 0, .slice E o i] w
theorem keyArO.grow {lo : Nat} {m : EM} {u v x : Value} {w w' : World} (h : keyArO lo m u v x w) (hg : w.grownBy w' none) : keyArO lo m u v x w' := by
  obtain ⟨A, n, c, B, q, d, C, r, e, E, o, i, e1, e2, e3, h1⟩ := h
  exact ⟨A, n, c, B, q, d, C, r, e, E, o, i, e1, e2, e3, h1.grow hg⟩
def EM.noV (m : EM) : EM := { m with vs := [] }
def eng0 (lo : Nat) (m : EM) (u : Value) (w : World) : Prop := ∃ A n c B q d C r e E o i, u = .agg #[.int .i64 m.k.p, .slice A n c, .int .i64 m.c.p, .slice B q d, .slice C r e, .slice none 0 0, .slice E o i, .int .i64 m.rd, .bool m.bad] ∧ aggF lo (cengine m.noV) (.agg #[.int .i64 m.k.p, .slice A n c, .int .i64 m.c.p, .slice B q d, .slice C r e, .slice none 0 0, .slice E o i, .int .i64 m.rd, .bool m.bad]) w
theorem eng0.grow {lo : Nat} {m : EM} {u : Value} {w w' : World} (h : eng0 lo m u w) (hg : w.grownBy w' none) : eng0 lo m u w' := by
  obtain ⟨A, n, c, B, q, d, C, r, e, E, o, i, e1, h1⟩ := h
  exact ⟨A, n, c, B, q, d, C, r, e, E, o, i, e1, h1.grow hg⟩
theorem keyArO.of {lo : Nat} {m : EM} {u v : Value} {w w' : World} {E : Option Addr} {i : Nat} (h : keyArL lo m.k m.c u v w) (hg : w.grownBy w' none) (o6 : w'.ownsRow w.heap.size 3 1 (.slice E m.op.length i) m.op.length (m.op.map (Value.int .i64))) (hl : lo ≤ w.heap.size) : keyArO lo m u v (.slice E m.op.length i) w' := by
  have hz : ownL w.heap.size [cauths []] [.slice none 0 0] w := ⟨[[]], OwnAll.cons (cauths_nil w) (OwnAll.nil _) (by simp), by simp⟩
  obtain ⟨A, n, c, B, q, d, C, r, e, e8, e11, h1⟩ := h
  exact ⟨A, n, c, B, q, d, C, r, e, _, _, _, e8, e11, rfl, ((h1.app (gbR _ _) hz hl).app hg (ownF.ints o6).one hl)⟩
theorem eng0.of {lo : Nat} {m : EM} {u v x : Value} {w : World} (h : keyArO lo m u v x w) (hl : lo ≤ w.heap.size) : ∃ A n c B q d C r e E o i, u = .agg #[.int .i64 m.k.p, .slice A n c] ∧ v = .agg #[.int .i64 m.c.p, .slice B q d, .slice C r e] ∧ x = .slice E o i ∧ eng0 lo m (.agg #[.int .i64 m.k.p, .slice A n c, .int .i64 m.c.p, .slice B q d, .slice C r e, .slice none 0 0, .slice E o i, .int .i64 m.rd, .bool m.bad]) w := by
  obtain ⟨A, n, c, B, q, d, C, r, e, E, o, i, e1, e2, e3, h1⟩ := h
  have hz : ownL w.heap.size [ci m.rd, cb m.bad] [.int .i64 m.rd, .bool m.bad] w := ((ownL.nil _ w).pl (x := .bool m.bad) rfl).pl (x := .int .i64 m.rd) rfl
  exact ⟨A, n, c, B, q, d, C, r, e, E, o, i, e1, e2, e3, A, n, c, B, q, d, C, r, e, E, o, i, rfl, (h1.app (gbR _ _) hz hl).agg⟩
end Go.Proofs.Ythaadgdeadbhkaa
