/-
  An engine's nine cells: what they read as, whose they are.
-/
import Derived.Test.YthaadgdeadbhkaaMgFnExactEngineOutputs29
import Derived.Test.YthaadgdeadbhkaaMgFnExactEngineOutputs30
namespace Go.Proofs.Ythaadgdeadbhkaa
open Go.RowKit
set_option linter.unusedVariables false
set_option linter.unusedSimpArgs false
abbrev cengine (m : EM) : List CS := [ci m.k.p, cints m.k.al, ci m.c.p, csteps m.c.st, cints m.c.outs, cauths m.vs, cints m.op, ci m.rd, cb m.bad]
theorem stEngine : St Try.prog 36 9 := ⟨⟨_, Try.underlying36, rfl⟩, by kernel_rfl⟩
theorem elAuth : El Try.prog 34 44 (.agg #[.slice none 0 0, .slice none 0 0]) 2 48 := ⟨Try.underlying34, by kernel_rfl, rfl, by decide⟩
structure ewf (m : EM) : Prop where
  k : kwf m.k
  c : amwf m.c
  vs : ∀ a ∈ m.vs, awf a
  n : m.vs.length ≤ 1048576
  op : m.op.length ≤ 1048576
  rd : i64w m.rd
structure EngR (m : EM) (w : World) (A B C D E : Option Addr) (a b c d e : Nat) : Prop where
  ky : AggR w (ckeys m.k) (.agg #[.int .i64 m.k.p, .slice A m.k.al.length a])
  ar : AggR w (carith m.c) (.agg #[.int .i64 m.c.p, .slice B m.c.st.length b, .slice C m.c.outs.length c])
  stp : FL c3 3 w B m.c.st.length m.c.st
  ou : Ints w C m.c.outs.length m.c.outs
  va : (cauths m.vs).rd w (.slice D m.vs.length d)
  opn : (cints m.op).rd w (.slice E m.op.length e)
  al9 : AggR w (cengine m) (.agg #[.int .i64 m.k.p, .slice A m.k.al.length a, .int .i64 m.c.p, .slice B m.c.st.length b, .slice C m.c.outs.length c, .slice D m.vs.length d, .slice E m.op.length e, .int .i64 m.rd, .bool m.bad])
theorem EngR.grow {m : EM} {w w' : World} {A B C D E : Option Addr} {a b c d e : Nat} (h : EngR m w A B C D E a b c d e) (g : w.grownBy w' none) : EngR m w' A B C D E a b c d e :=
  ⟨h.ky.grow g, h.ar.grow g, FL.grow h.stp g, h.ou.grow g, CS.grow _ h.va g, CS.grow _ h.opn g, h.al9.grow g⟩
theorem cauths_form {w : World} {xs : List AuM} {v : Value} (h : (cauths xs).rd w v) : ∃ A c, v = .slice A xs.length c := by
  obtain ⟨A, c, _, e, _⟩ := lst_rd (s := 2) (fun _ => rfl) (by omega) h
  exact ⟨A, c, e⟩
theorem cengine_open {w : World} {m : EM} {v : Value} (h : AggR w (cengine m) v) : ∃ A B C D E a b c d e, v = .agg #[.int .i64 m.k.p, .slice A m.k.al.length a, .int .i64 m.c.p, .slice B m.c.st.length b, .slice C m.c.outs.length c, .slice D m.vs.length d, .slice E m.op.length e, .int .i64 m.rd, .bool m.bad] ∧ EngR m w A B C D E a b c d e := by
  have hall := h
  obtain ⟨vs, rfl, h⟩ := h
  obtain ⟨u0, vs0, rfl, h0, h⟩ := RdAll.head h
  obtain ⟨u1, vs1, rfl, h1, h⟩ := RdAll.head h
  obtain ⟨u2, vs2, rfl, h2, h⟩ := RdAll.head h
  obtain ⟨u3, vs3, rfl, h3, h⟩ := RdAll.head h
  obtain ⟨u4, vs4, rfl, h4, h⟩ := RdAll.head h
  obtain ⟨u5, vs5, rfl, h5, h⟩ := RdAll.head h
  obtain ⟨u6, vs6, rfl, h6, h⟩ := RdAll.head h
  obtain ⟨u7, vs7, rfl, h7, h⟩ := RdAll.head h
  obtain ⟨u8, vs8, rfl, h8, h⟩ := RdAll.head h
  obtain rfl := RdAll.none h
  obtain rfl := ci_rd h0
  obtain rfl := ci_rd h2
  obtain rfl := ci_rd h7
  obtain rfl := cb_rd h8
  obtain ⟨A, a, rfl, _, _, _⟩ := cints_rd h1
  obtain ⟨B, b, rfl, _, _, f3⟩ := plst_rd (s := 3) (fun _ => rfl) (by omega) h3
  obtain ⟨C, c, rfl, _, _, f4⟩ := cints_rd h4
  obtain ⟨D, d, rfl⟩ := cauths_form h5
  obtain ⟨E, e, rfl, _, _, _⟩ := cints_rd h6
  exact ⟨A, B, C, D, E, a, b, c, d, e, rfl, ckeys_mk h1, carith_mk h3 h4, f3, f4, h5, h6, hall⟩
theorem cauths_nil (w : World) : (cauths []).own w [] (.slice none 0 0) := ⟨0, [], [], rfl, World.ownsRow_nil w 0 _ 2, OwnAll.nil w, rfl, by simp⟩
theorem SOF.is {T : TypeId} {cs : List CS} {g : Nat} {F : List Nat} {w : World} {us : List Value} (h : SOF T cs g F w) (B : Blk w g T us.toArray) : AggO w cs F (.agg us.toArray) := by
  obtain ⟨vs, h1, h2⟩ := h.agg
  unfold Blk at h1 B
  rw [h1] at B
  injection B with B
  injection B with B
  rw [← B]
  exact h2
theorem autF.own {lo : Nat} {m : AuM} {v : Value} {w : World} (h : autF lo m v w) : ∃ A n c B k d F, v = .agg #[.slice A n c, .slice B k d] ∧ AggO w (cauth m) F (.agg #[.slice A n c, .slice B k d]) ∧ ∀ g ∈ F, lo ≤ g := by
  obtain ⟨A, n, c, B, k, d, rfl⟩ := h.form
  obtain ⟨F, h1, h2⟩ := h
  exact ⟨A, n, c, B, k, d, F, rfl, h1, h2⟩
theorem SOF.opn {m : EM} {g : Nat} {F : List Nat} {w : World} (h : SOF 36 (cengine m) g F w) :
    ∃ E e F6, w.cell? ⟨g, 6, none⟩ = some (.slice E m.op.length e) ∧ w.frozen? ⟨g, 6, none⟩ = false ∧ (cints m.op).own w F6 (.slice E m.op.length e) ∧ (∀ x ∈ F6, x ∈ F) ∧ g ∉ F6 ∧ (∀ x ∈ F6, x < w.heap.size) ∧
      (∀ (w' : World) (l : List Int) (u' : Value) (F' : List Nat), Chg (fun x => x ∈ F6) w w' → (cints l).own w' F' u' → (∀ x ∈ F', x ∈ F6 ∨ w.heap.size ≤ x) → ∃ F'', SOF 36 (cengine { m with op := l }) g F'' (w'.setCell ⟨g, 6, none⟩ u') ∧ ∀ x ∈ F'', x ∈ F ∨ w.heap.size ≤ x) := by
  obtain ⟨u, F6, h1, h2, h3, h4, h5, h6, h7⟩ := h.at_ (i := 6) (c := cints m.op) rfl
  obtain ⟨E, e, rfl, _⟩ := cints_rd (CS.toRd _ h3)
  exact ⟨E, e, F6, h1, h2, h3, h4, h5, CS.lt _ h3, fun w' l u' F' a b c => h6 w' (cints l) u' F' a b c⟩
theorem getA_at {xs : List AuM} {i : Nat} (h : i < xs.length) : xs[i]? = some (getA xs i) := by
  unfold getA
  rw [List.getD_eq_getElem?_getD, List.getElem?_eq_getElem h]; rfl
theorem cauths_el {xs : List AuM} {w : World} {F : List Nat} {g n c : Nat} (h : (cauths xs).own w F (.slice (some ⟨g, 0, none⟩) n c)) {i : Nat} (hi : i < xs.length) :
    ∃ B d C f, w.cell? ⟨g, i * 2, none⟩ = some (.slice B (getA xs i).sh.length d) ∧ w.cell? ⟨g, i * 2 + 1, none⟩ = some (.slice C (getA xs i).mc.length f) ∧ w.frozen? ⟨g, i * 2, none⟩ = false ∧ w.frozen? ⟨g, i * 2 + 1, none⟩ = false ∧ AggR w (cauth (getA xs i)) (.agg #[.slice B (getA xs i).sh.length d, .slice C (getA xs i).mc.length f]) := by
  have hx := getA_at hi
  have h0 : (xs.flatMap cauth)[i * 2]? = some (cints (getA xs i).sh) := by
    have := flat_get (sz := 2) (F := cauth) (fun _ => rfl) xs i 0 (by omega)
    rw [hx] at this
    exact this
  have h1 : (xs.flatMap cauth)[i * 2 + 1]? = some (cints (getA xs i).mc) := by
    have := flat_get (sz := 2) (F := cauth) (fun _ => rfl) xs i 1 (by omega)
    rw [hx] at this
    exact this
  obtain ⟨u0, F0, a1, a2, a3, _⟩ := row_cell h h0
  obtain ⟨u1, F1, b1, b2, b3, _⟩ := row_cell h h1
  obtain ⟨B, d, rfl, _⟩ := cints_rd (CS.toRd _ a3)
  obtain ⟨C, f, rfl, _⟩ := cints_rd (CS.toRd _ b3)
  exact ⟨B, d, C, f, a1, b1, a2, b2, cauth_mk (CS.toRd _ a3) (CS.toRd _ b3)⟩
theorem cauths_ptr {xs : List AuM} {w : World} {F : List Nat} {D : Option Addr} {n c : Nat} (h : (cauths xs).own w F (.slice D n c)) (hi : 0 < xs.length) : ∃ gv, D = some ⟨gv, 0, none⟩ ∧ gv ∈ F := by
  obtain ⟨g, n', c', e, hg⟩ := row_own_slice (by omega) h (by rw [flat_len (sz := 2) (fun _ => rfl)]; omega)
  injection e with e
  exact ⟨g, e, hg⟩
theorem EngR.of {m : EM} {w : World} {A B C D E : Option Addr} {a b c d e n1 n2 n3 n4 n5 : Nat} (h : AggR w (cengine m) (.agg #[.int .i64 m.k.p, .slice A n1 a, .int .i64 m.c.p, .slice B n2 b, .slice C n3 c, .slice D n4 d, .slice E n5 e, .int .i64 m.rd, .bool m.bad])) :
    n1 = m.k.al.length ∧ n2 = m.c.st.length ∧ n3 = m.c.outs.length ∧ n4 = m.vs.length ∧ n5 = m.op.length ∧ EngR m w A B C D E a b c d e := by
  obtain ⟨A', B', C', D', E', a', b', c', d', e', hv, hR⟩ := cengine_open h
  injection hv with hv
  have hv := Array.toList_inj.2 hv
  simp only [List.cons.injEq, Value.slice.injEq, and_true, true_and] at hv
  obtain ⟨⟨rfl, rfl, rfl⟩, ⟨rfl, rfl, rfl⟩, ⟨rfl, rfl, rfl⟩, ⟨rfl, rfl, rfl⟩, ⟨rfl, rfl, rfl⟩⟩ := hv
  exact ⟨rfl, rfl, rfl, rfl, rfl, hR⟩
end Go.Proofs.Ythaadgdeadbhkaa
