/-
  copyEngine of the program.
-/
import Derived.Test.YthaadgdeadbhkaaMgFnExactEngineOutputs31
namespace Go.Proofs.Ythaadgdeadbhkaa
open Go.RowKit
set_option linter.unusedVariables false
set_option linter.unusedSimpArgs false
def keyL (lo : Nat) (k : KM) (u : Value) (w : World) : Prop := ∃ A n c, u = .agg #[.int .i64 k.p, .slice A n c] ∧ ownL lo (ckeys k) [.int .i64 k.p, .slice A n c] w
def keyArL (lo : Nat) (k : KM) (m : AM) (u v : Value) (w : World) : Prop := ∃ A n c B q d C r e, u = .agg #[.int .i64 k.p, .slice A n c] ∧ v = .agg #[.int .i64 m.p, .slice B q d, .slice C r e] ∧ ownL lo (ckeys k ++ carith m) [.int .i64 k.p, .slice A n c, .int .i64 m.p, .slice B q d, .slice C r e] w
theorem keyL.of {lo : Nat} {k : KM} {u : Value} {w : World} (h : aggF lo (ckeys k) u w) : keyL lo k u w := by
  obtain ⟨F, h1, h2⟩ := h
  obtain ⟨A, n, c, rfl⟩ := ckeys_oform h1
  exact ⟨A, n, c, rfl, aggF.all ⟨F, h1, h2⟩⟩
theorem keyArL.of {lo : Nat} {k : KM} {m : AM} {u v : Value} {w w' : World} (h : keyL lo k u w) (hg : w.grownBy w' none) (k2 : aggF w.heap.size (carith m) v w') (hl : lo ≤ w.heap.size) : keyArL lo k m u v w' := by
  obtain ⟨A, n, c, rfl, h1⟩ := h
  obtain ⟨F, k3, k4⟩ := k2
  obtain ⟨B, q, d, C, r, e, rfl⟩ := carith_oform k3
  exact ⟨A, n, c, B, q, d, C, r, e, rfl, rfl, h1.app hg (aggF.all (vs := [_, _, _]) ⟨F, k3, k4⟩) hl⟩
theorem keyL.grow {lo : Nat} {k : KM} {u : Value} {w w' : World} (h : keyL lo k u w) (hg : w.grownBy w' none) : keyL lo k u w' := by
  obtain ⟨A, n, c, e, h1⟩ := h
  exact ⟨A, n, c, e, h1.grow hg⟩
theorem keyArL.grow {lo : Nat} {k : KM} {m : AM} {u v : Value} {w w' : World} (h : keyArL lo k m u v w) (hg : w.grownBy w' none) : keyArL lo k m u v w' := by
  obtain ⟨A, n, c, B, q, d, C, r, e, e1, e2, h1⟩ := h
  exact ⟨A, n, c, B, q, d, C, r, e, e1, e2, h1.grow hg⟩
def keyArO (lo : Nat) (m : EM) (u v x : Value) (w : World) : Prop := ∃ A n c B q d C r e E o i, u = .agg #[.int .i64 m.k.p, .slice A n c] ∧ v = .agg #[.int .i64 m.c.p, .slice B q d, .slice C r e] ∧ x = .slice E o i ∧ ownL lo (ckeys m.k ++ carith m.c ++ [cauths []] ++ [cints m.op]) [.int .i64 m.k.p, .slice A n c, .int .i64 m.c.p, .slice B q d, .slice C r e, .slice none 0 0, .slice E o i] w
theorem keyArO.grow {lo : Nat} {m : EM} {u v x : Value} {w w' : World} (h : keyArO lo m u v x w) (hg : w.grownBy w' none) : keyArO lo m u v x w' := by
  obtain ⟨A, n, c, B, q, d, C, r, e, E, o, i, e1, e2, e3, h1⟩ := h
  exact ⟨A, n, c, B, q, d, C, r, e, E, o, i, e1, e2, e3, h1.grow hg⟩
def EM.noV (m : EM) : EM := { m with vs := [] }
def eng0 (lo : Nat) (m : EM) (u : Value) (w : World) : Prop := ∃ A n c B q d C r e E o i, u = .agg #[.int .i64 m.k.p, .slice A n c, .int .i64 m.c.p, .slice B q d, .slice C r e, .slice none 0 0, .slice E o i, .int .i64 m.rd, .bool m.bad] ∧ aggF lo (cengine m.noV) (.agg #[.int .i64 m.k.p, .slice A n c, .int .i64 m.c.p, .slice B q d, .slice C r e, .slice none 0 0, .slice E o i, .int .i64 m.rd, .bool m.bad]) w
theorem eng0.grow {lo : Nat} {m : EM} {u : Value} {w w' : World} (h : eng0 lo m u w) (hg : w.grownBy w' none) : eng0 lo m u w' := by
  obtain ⟨A, n, c, B, q, d, C, r, e, E, o, i, e1, h1⟩ := h
  exact ⟨A, n, c, B, q, d, C, r, e, E, o, i, e1, h1.grow hg⟩
theorem keyArO.of {lo : Nat} {m : EM} {u v : Value} {w w' : World} {E : Option Addr} {i : Nat} (h : keyArL lo m.k m.c u v w) (hg : w.grownBy w' none) (o6 : w'.ownsRow w.heap.size 3 1 (.slice E m.op.length i) m.op.length (m.op.map (Value.int .i64))) (hl : lo ≤ w.heap.size) : keyArO lo m u v (.slice E m.op.length i) w' := by
  have hz : ownL w.heap.size [cauths []] [.slice none 0 0] w := ⟨[[]], OwnAll.cons (cauths_nil w) (OwnAll.nil _) (by simp), by simp⟩
  obtain ⟨A, n, c, B, q, d, C, r, e, e8, e11, h1⟩ := h
  exact ⟨A, n, c, B, q, d, C, r, e, _, _, _, e8, e11, rfl, ((h1.app (gbR _ _) hz hl).app hg (ownF.ints o6).one hl)⟩
theorem eng0.of {lo : Nat} {m : EM} {u v x : Value} {w : World} (h : keyArO lo m u v x w) (hl : lo ≤ w.heap.size) : ∃ A n c B q d C r e E o i, u = .agg #[.int .i64 m.k.p, .slice A n c] ∧ v = .agg #[.int .i64 m.c.p, .slice B q d, .slice C r e] ∧ x = .slice E o i ∧ eng0 lo m (.agg #[.int .i64 m.k.p, .slice A n c, .int .i64 m.c.p, .slice B q d, .slice C r e, .slice none 0 0, .slice E o i, .int .i64 m.rd, .bool m.bad]) w := by
  obtain ⟨A, n, c, B, q, d, C, r, e, E, o, i, e1, e2, e3, h1⟩ := h
  have hz : ownL w.heap.size [ci m.rd, cb m.bad] [.int .i64 m.rd, .bool m.bad] w := ((ownL.nil _ w).pl (x := .bool m.bad) rfl).pl (x := .int .i64 m.rd) rfl
  exact ⟨A, n, c, B, q, d, C, r, e, E, o, i, e1, e2, e3, A, n, c, B, q, d, C, r, e, E, o, i, rfl, (h1.app (gbR _ _) hz hl).agg⟩
end Go.Proofs.Ythaadgdeadbhkaa
/-
  The values that EngineNew fills in, place by place; a new list of Auths.
-/
namespace Go.Proofs.Ythaadgdeadbhkaa
open Go.RowKit
set_option linter.unusedVariables false
set_option linter.unusedSimpArgs false
theorem toList_made_two (z : Value) (n : Nat) : (madeCells #[z, z] (n * 2)).toList = List.replicate (n * 2) z := by
  apply List.ext_getElem?
  intro j
  by_cases hj : j < n * 2
  · have h2 : j % 2 = 0 ∨ j % 2 = 1 := by omega
    rcases h2 with h2 | h2 <;> simp [madeCells, hj, h2]
  · simp [madeCells, hj]
theorem flat_noA (n : Nat) : (List.replicate n noA).flatMap cauth = List.replicate (n * 2) (cints []) := by
  induction n with
  | zero => rfl
  | succ n ih =>
    rw [List.replicate_succ, List.flatMap_cons, ih, show (n + 1) * 2 = n * 2 + 1 + 1 by omega, List.replicate_succ, List.replicate_succ]
    rfl
theorem cints_nil (w : World) : (cints []).own w [] (.slice none 0 0) := cints_own (World.ownsRow_nil w 0 _ 1)
theorem ownAll_nils (w : World) : ∀ n : Nat, OwnAll w (List.replicate n (cints [])) (List.replicate n (.slice none 0 0)) (List.replicate n [])
  | 0 => OwnAll.nil w
  | n + 1 => by
    rw [List.replicate_succ, List.replicate_succ, List.replicate_succ]
    exact OwnAll.cons (cints_nil w) (ownAll_nils w n) (by simp)
theorem flat_rep_nil {α : Type} (n : Nat) : (List.replicate n ([] : List α)).flatten = [] := by
  induction n with
  | zero => rfl
  | succ n ih => rw [List.replicate_succ, List.flatten_cons, ih]; rfl
theorem cauths_made {w : World} {g n : Nat} {lo : Nat} (h : w.ownsRow lo 44 2 (.slice (some ⟨g, 0, none⟩) n n) n (List.replicate (n * 2) (.slice none 0 0))) : (cauths (List.replicate n noA)).own w [g] (.slice (some ⟨g, 0, none⟩) n n) := by
  refine ⟨n, _, List.replicate (n * 2) [], ?_, own_base h (Nat.zero_le _), ?_, ?_, by simp⟩
  · rw [flat_noA, List.length_replicate]
  · rw [flat_noA]; exact ownAll_nils w _
  · rw [flat_rep_nil]; rfl
def valF (lo n : Nat) (v : Value) (w : World) : Prop := ∃ g, v = .slice (some ⟨g, 0, none⟩) n n ∧ lo ≤ g ∧ (cauths (List.replicate n noA)).own w [g] v
def engN (k : KM) (c : AM) (n : Nat) : EM := ⟨k, c, List.replicate n noA, [], 0, false⟩
def engZ (lo : Nat) (m : EM) (u : Value) (w : World) : Prop := ∃ A n c B q d C r e D o i, u = .agg #[.int .i64 m.k.p, .slice A n c, .int .i64 m.c.p, .slice B q d, .slice C r e, .slice D o i, .slice none 0 0, .int .i64 m.rd, .bool m.bad] ∧ aggF lo (cengine m) (.agg #[.int .i64 m.k.p, .slice A n c, .int .i64 m.c.p, .slice B q d, .slice C r e, .slice D o i, .slice none 0 0, .int .i64 m.rd, .bool m.bad]) w
theorem engZ.grow {lo : Nat} {m : EM} {u : Value} {w w' : World} (h : engZ lo m u w) (hg : w.grownBy w' none) : engZ lo m u w' := by
  obtain ⟨A, n, c, B, q, d, C, r, e, E, o, i, e1, h1⟩ := h
  exact ⟨A, n, c, B, q, d, C, r, e, E, o, i, e1, h1.grow hg⟩
theorem ka_ty (k : KM) (m : AM) : ∀ c ∈ ckeys k ++ carith m, tyd [3, 95] c := by
  intro c hc
  simp only [List.mem_cons, List.mem_append, List.not_mem_nil, or_false] at hc
  rcases hc with (rfl | rfl) | rfl | rfl | rfl
  · exact tyd_pl
  · exact tyd_plst (by simp)
  · exact tyd_pl
  · exact tyd_plst (by simp)
  · exact tyd_plst (by simp)
theorem engZ.of {lo n : Nat} {k : KM} {c : AM} {u v x : Value} {w : World} (h : keyArL lo k c u v w) (hv : valF lo n x w) : ∃ A n1 c1 B q d C r e g, u = .agg #[.int .i64 k.p, .slice A n1 c1] ∧ v = .agg #[.int .i64 c.p, .slice B q d, .slice C r e] ∧ x = .slice (some ⟨g, 0, none⟩) n n ∧ engZ lo (engN k c n) (.agg #[.int .i64 k.p, .slice A n1 c1, .int .i64 c.p, .slice B q d, .slice C r e, .slice (some ⟨g, 0, none⟩) n n, .slice none 0 0, .int .i64 0, .bool false]) w := by
  obtain ⟨A, n1, c1, B, q, d, C, r, e, rfl, rfl, Fs, h1, h2⟩ := h
  obtain ⟨g, rfl, hg, hv⟩ := hv
  have hgT : ∃ cur z, w.heap[g]? = some (.cells cur 44 z) := by
    obtain ⟨n', vs, Gs, a1, a2, a3, a4, a5⟩ := hv
    rcases a2.2 with ⟨e, _⟩ | ⟨g', cap, cur, e, _, e1, _⟩
    · cases e
    · injection e with e
      injection e with e
      injection e with e
      subst e
      exact ⟨_, _, e1⟩
  have hdis : g ∉ Fs.flatten := by
    intro hx
    obtain ⟨cur, T, z, e1, e2⟩ := ownAll_ty h1 (ka_ty k c) g hx
    obtain ⟨cur', z', e3⟩ := hgT
    rw [e3] at e1
    injection e1 with e1
    injection e1 with _ e1 _
    rw [← e1] at e2
    revert e2
    decide
  have hz : OwnAll w [ci 0, cb false] [.int .i64 0, .bool false] [[], []] := OwnAll.cons (ci_own w 0) (OwnAll.cons (cb_own w false) (OwnAll.nil _) (by simp)) (by simp)
  have h5 : OwnAll w [cauths (List.replicate n noA), cints [], ci 0, cb false] [.slice (some ⟨g, 0, none⟩) n n, .slice none 0 0, .int .i64 0, .bool false] [[g], [], [], []] := OwnAll.cons hv (OwnAll.cons (cints_nil w) hz (by simp)) (by simp)
  have h6 := h1.append h5 (fun y hy hy' => by
    simp at hy'
    subst hy'
    exact hdis hy)
  refine ⟨A, n1, c1, B, q, d, C, r, e, g, rfl, rfl, rfl, A, n1, c1, B, q, d, C, r, e, _, _, _, rfl, _, ⟨_, _, rfl, h6, rfl⟩, fun y hy => ?_⟩
  rw [List.flatten_append] at hy
  rcases List.mem_append.1 hy with hy | hy
  · exact h2 y hy
  · simp at hy
    omega
end Go.Proofs.Ythaadgdeadbhkaa
