/-
  copyEngine of the program.
-/
import Derived.Test.YthaadgdeadbhkaaMgFnCosts21
import Derived.Test.YthaadgdeadbhkaaMgFnCosts17
namespace Go.Proofs.Ythaadgdeadbhkaa
open Go.RowKit
set_option linter.unusedVariables false
set_option linter.unusedSimpArgs false
def keyL (lo : Nat) (k : KM) (u : Value) (w : World) : Prop := ∃ A n c, u = .agg #[.int .i64 k.p, .slice A n c] ∧ ownL lo (ckeys k) [.int .i64 k.p, .slice A n c] w
def keyArL (lo : Nat) (k : KM) (m : AM) (u v : Value) (w : World) : Prop := ∃ A n c B q d C r e, u = .agg #[.int .i64 k.p, .slice A n c] ∧ v = .agg #[.int .i64 m.p, .slice B q d, .slice C r e] ∧ ownL lo (ckeys k ++ carith m) [.int .i64 k.p, .slice A n c, .int .i64 m.p, .slice B q d, .slice C r e] w
theorem keyL.of {lo : Nat} {k : KM} {u : Value} {w : World} (h : aggF lo (ckeys k) u w) : keyL lo k u w := by
  obtain ⟨F, h1, h2⟩ := h
  obtain ⟨A, n, c, rfl⟩ := ckeys_oform h1
  exact ⟨A, n, c, rfl, aggF.all ⟨F, h1, h2⟩⟩
theorem keyArL.of {lo : Nat} {k : KM} {m : AM} {u v : Value} {w w' : World} (h : keyL lo k u w) (hg : w.grownBy w' none) (k2 : aggF w.heap.size (carith m) v w') (hl : lo ≤ w.heap.size) : keyArL lo k m u v w' := by
  obtain ⟨A, n, c, rfl, h1⟩ := h
  obtain ⟨F, k3, k4⟩ := k2
  obtain ⟨B, q, d, C, r, e, rfl⟩ := carith_oform k3
  exact ⟨A, n, c, B, q, d, C, r, e, rfl, rfl, h1.app hg (aggF.all (vs := [_, _, _]) ⟨F, k3, k4⟩) hl⟩
theorem keyL.grow {lo : Nat} {k : KM} {u : Value} {w w' : World} (h : keyL lo k u w) (hg : w.grownBy w' none) : keyL lo k u w' := by
  obtain ⟨A, n, c, e, h1⟩ := h
  exact ⟨A, n, c, e, h1.grow hg⟩
theorem keyArL.grow {lo : Nat} {k : KM} {m : AM} {u v : Value} {w w' : World} (h : keyArL lo k m u v w) (hg : w.grownBy w' none) : keyArL lo k m u v w' := by
  obtain ⟨A, n, c, B, q, d, C, r, e, e1, e2, h1⟩ := h
  exact ⟨A, n, c, B, q, d, C, r, e, e1, e2, h1.grow hg⟩
def keyArO (lo : Nat) (m : EM) (u v x : Value) (w : World) : Prop := ∃ A n c B q d C r e E o i, u = .agg #[.int .i64 m.k.p, .slice A n c] ∧ v = .agg #[.int .i64 m.c.p, .slice B q d, .slice C r e] ∧ x = .slice E o i ∧ ownL lo (ckeys m.k ++ carith m.c ++ [cauths []] ++ [cints m.op]) [.int .i64 m.k.p, .slice A n c, .int .i64 m.c.p, .slice B q d, .slice C r e, .slice none 0 0, .slice E o i] w
theorem keyArO.grow {lo : Nat} {m : EM} {u v x : Value} {w w' : World} (h : keyArO lo m u v x w) (hg : w.grownBy w' none) : keyArO lo m u v x w' := by
  obtain ⟨A, n, c, B, q, d, C, r, e, E, o, i, e1, e2, e3, h1⟩ := h
  exact ⟨A, n, c, B, q, d, C, r, e, E, o, i, e1, e2, e3, h1.grow hg⟩
def EM.noV (m : EM) : EM := { m with vs := [] }
def eng0 (lo : Nat) (m : EM) (u : Value) (w : World) : Prop := ∃ A n c B q d C r e E o i, u = .agg #[.int .i64 m.k.p, .slice A n c, .int .i64 m.c.p, .slice B q d, .slice C r e, .slice none 0 0, .slice E o i, .int .i64 m.rd, .bool m.bad] ∧ aggF lo (cengine m.noV) (.agg #[.int .i64 m.k.p, .slice A n c, .int .i64 m.c.p, .slice B q d, .slice C r e, .slice none 0 0, .slice E o i, .int .i64 m.rd, .bool m.bad]) w
theorem eng0.grow {lo : Nat} {m : EM} {u : Value} {w w' : World} (h : eng0 lo m u w) (hg : w.grownBy w' none) : eng0 lo m u w' := by
  obtain ⟨A, n, c, B, q, d, C, r, e, E, o, i, e1, h1⟩ := h
  exact ⟨A, n, c, B, q, d, C, r, e, E, o, i, e1, h1.grow hg⟩
theorem keyArO.of {lo : Nat} {m : EM} {u v : Value} {w w' : World} {E : Option Addr} {i : Nat} (h : keyArL lo m.k m.c u v w) (hg : w.grownBy w' none) (o6 : w'.ownsRow w.heap.size 3 1 (.slice E m.op.length i) m.op.length (m.op.map (Value.int .i64))) (hl : lo ≤ w.heap.size) : keyArO lo m u v (.slice E m.op.length i) w' := by
  have hz : ownL w.heap.size [cauths []] [.slice none 0 0] w := ⟨[[]], OwnAll.cons (cauths_nil w) (OwnAll.nil _) (by simp), by simp⟩
  obtain ⟨A, n, c, B, q, d, C, r, e, e8, e11, h1⟩ := h
  exact ⟨A, n, c, B, q, d, C, r, e, _, _, _, e8, e11, rfl, ((h1.app (gbR _ _) hz hl).app hg (ownF.ints o6).one hl)⟩
theorem eng0.of {lo : Nat} {m : EM} {u v x : Value} {w : World} (h : keyArO lo m u v x w) (hl : lo ≤ w.heap.size) : ∃ A n c B q d C r e E o i, u = .agg #[.int .i64 m.k.p, .slice A n c] ∧ v = .agg #[.int .i64 m.c.p, .slice B q d, .slice C r e] ∧ x = .slice E o i ∧ eng0 lo m (.agg #[.int .i64 m.k.p, .slice A n c, .int .i64 m.c.p, .slice B q d, .slice C r e, .slice none 0 0, .slice E o i, .int .i64 m.rd, .bool m.bad]) w := by
  obtain ⟨A, n, c, B, q, d, C, r, e, E, o, i, e1, e2, e3, h1⟩ := h
  have hz : ownL w.heap.size [ci m.rd, cb m.bad] [.int .i64 m.rd, .bool m.bad] w := ((ownL.nil _ w).pl (x := .bool m.bad) rfl).pl (x := .int .i64 m.rd) rfl
  exact ⟨A, n, c, B, q, d, C, r, e, E, o, i, e1, e2, e3, A, n, c, B, q, d, C, r, e, E, o, i, rfl, (h1.app (gbR _ _) hz hl).agg⟩
end Go.Proofs.Ythaadgdeadbhkaa
/-
  Lists of triples: what they read as.
-/
namespace Go.Proofs.Ythaadgdeadbhkaa
open Go.RowKit
set_option linter.unusedVariables false
set_option linter.unusedSimpArgs false
abbrev ctriples (xs : List TrM) : CS := lst 46 6 ctriple xs
theorem elTriple : El Try.prog 41 46 (.agg #[.slice none 0 0, .slice none 0 0, .slice none 0 0, .slice none 0 0, .slice none 0 0, .slice none 0 0]) 6 144 := ⟨Try.underlying41, by kernel_rfl, rfl, by decide⟩
structure TrC (w : World) (x : TrM) (A B C D E F : Option Addr) (a b c d e f : Nat) : Prop where
  tr : AggR w (ctriple x) (.agg #[.slice A x.a.sh.length a, .slice B x.a.mc.length b, .slice C x.b.sh.length c, .slice D x.b.mc.length d, .slice E x.c.sh.length e, .slice F x.c.mc.length f])
  xa : AggR w (cauth x.a) (.agg #[.slice A x.a.sh.length a, .slice B x.a.mc.length b])
  xb : AggR w (cauth x.b) (.agg #[.slice C x.b.sh.length c, .slice D x.b.mc.length d])
  xc : AggR w (cauth x.c) (.agg #[.slice E x.c.sh.length e, .slice F x.c.mc.length f])
theorem TrC.grow {w w' : World} {x : TrM} {A B C D E F : Option Addr} {a b c d e f : Nat} (h : TrC w x A B C D E F a b c d e f) (g : w.grownBy w' none) : TrC w' x A B C D E F a b c d e f := ⟨h.tr.grow g, h.xa.grow g, h.xb.grow g, h.xc.grow g⟩
theorem ctriples_at {w : World} {xs : List TrM} {A : Option Addr} {n c : Nat} (h : (ctriples xs).rd w (.slice A n c)) {k : Nat} (hk : k < n) :
    ∃ (b o : Nat) (B0 B1 B2 B3 B4 B5 : Option Addr) (d0 d1 d2 d3 d4 d5 : Nat), A = some ⟨b, o, none⟩ ∧ b < w.heap.size ∧
      w.cell? ⟨b, o + k * 6, none⟩ = some (.slice B0 (trAt xs k).a.sh.length d0) ∧ w.cell? ⟨b, o + k * 6 + 1, none⟩ = some (.slice B1 (trAt xs k).a.mc.length d1) ∧ w.cell? ⟨b, o + k * 6 + 2, none⟩ = some (.slice B2 (trAt xs k).b.sh.length d2) ∧
      w.cell? ⟨b, o + k * 6 + 3, none⟩ = some (.slice B3 (trAt xs k).b.mc.length d3) ∧ w.cell? ⟨b, o + k * 6 + 4, none⟩ = some (.slice B4 (trAt xs k).c.sh.length d4) ∧ w.cell? ⟨b, o + k * 6 + 5, none⟩ = some (.slice B5 (trAt xs k).c.mc.length d5) ∧
      TrC w (trAt xs k) B0 B1 B2 B3 B4 B5 d0 d1 d2 d3 d4 d5 := by
  obtain ⟨b, o, x, rfl, hb, hx, hc⟩ := lst_at (s := 6) (fun _ => rfl) (by omega) h hk
  have hxe : trAt xs k = x := by unfold trAt; rw [List.getD_eq_getElem?_getD, hx]; rfl
  rw [hxe]
  obtain ⟨u0, q0, r0⟩ := hc 0 (cints x.a.sh) rfl
  obtain ⟨u1, q1, r1⟩ := hc 1 (cints x.a.mc) rfl
  obtain ⟨u2, q2, r2⟩ := hc 2 (cints x.b.sh) rfl
  obtain ⟨u3, q3, r3⟩ := hc 3 (cints x.b.mc) rfl
  obtain ⟨u4, q4, r4⟩ := hc 4 (cints x.c.sh) rfl
  obtain ⟨u5, q5, r5⟩ := hc 5 (cints x.c.mc) rfl
  obtain ⟨B0, d0, rfl, _⟩ := cints_rd r0
  obtain ⟨B1, d1, rfl, _⟩ := cints_rd r1
  obtain ⟨B2, d2, rfl, _⟩ := cints_rd r2
  obtain ⟨B3, d3, rfl, _⟩ := cints_rd r3
  obtain ⟨B4, d4, rfl, _⟩ := cints_rd r4
  obtain ⟨B5, d5, rfl, _⟩ := cints_rd r5
  simp only [Nat.add_zero, ← Nat.add_assoc] at q0 q1 q2 q3 q4 q5
  exact ⟨b, o, B0, B1, B2, B3, B4, B5, d0, d1, d2, d3, d4, d5, rfl, hb, q0, q1, q2, q3, q4, q5, ⟨⟨_, rfl, RdAll.cons r0 (RdAll.cons r1 (RdAll.cons r2 (RdAll.cons r3 (RdAll.cons r4 (RdAll.cons r5 (RdAll.nil _))))))⟩, cauth_mk r0 r1, cauth_mk r2 r3, cauth_mk r4 r5⟩⟩
theorem ctriples_len {w : World} {xs : List TrM} {A : Option Addr} {n c : Nat} (h : (ctriples xs).rd w (.slice A n c)) : xs.length = n := (lst_len (s := 6) (fun _ => rfl) (by omega) h).1
theorem trAt_mem {ts : List TrM} {Q : TrM → Prop} (h : ∀ x ∈ ts, Q x) {k : Nat} (hk : k < ts.length) : Q (trAt ts k) := by
  unfold trAt
  rw [List.getD_eq_getElem?_getD, List.getElem?_eq_getElem hk]
  exact h _ (List.getElem_mem hk)
end Go.Proofs.Ythaadgdeadbhkaa
/-
  Lists of triples of the call's own: one more behind; what stands in other blocks of other types.
-/
namespace Go.Proofs.Ythaadgdeadbhkaa
open Go.RowKit
set_option linter.unusedVariables false
set_option linter.unusedSimpArgs false
theorem OwnE.nil (w : World) : OwnE w [] [] := ⟨rfl, fun i c v h => by simp at h⟩
theorem OwnE.typ {Ts : List TypeId} {w w' : World} {cs : List CS} {vs : List Value} {S : Nat → Prop} (h : OwnE w cs vs) (hc : ∀ c ∈ cs, tyd Ts c) (k : Chg S w w') (hS : ∀ g, S g → g < w.heap.size → ∃ T us, Blk w g T us ∧ T ∉ Ts) : OwnE w' cs vs :=
  ⟨h.1, fun i c v h1 h2 => by
    obtain ⟨F, ho⟩ := h.2 i c v h1 h2
    refine ⟨F, c.kept ho fun g hg => k.block g (c.lt ho g hg) fun hs => ?_⟩
    obtain ⟨T, us, hB, hT⟩ := hS g hs (c.lt ho g hg)
    exact own_ty (hc c (List.mem_of_getElem? h1)) ho hB hT hg⟩
theorem OwnE.grow {w w' : World} {cs : List CS} {vs : List Value} (h : OwnE w cs vs) (k : w.grownBy w' none) : OwnE w' cs vs :=
  ⟨h.1, fun i c v h1 h2 => by
    obtain ⟨F, ho⟩ := h.2 i c v h1 h2
    exact ⟨F, c.kept ho fun g hg => k.block g (c.lt ho g hg) (by simp)⟩⟩
theorem ctriple_ty (x : TrM) : ∀ c ∈ ctriple x, tyd [3] c := by
  intro c hc
  simp only [List.mem_append, List.mem_cons, List.not_mem_nil, or_false] at hc
  rcases hc with (rfl | rfl) | (rfl | rfl) | rfl | rfl <;> exact tyd_plst (by simp)
theorem ctriples_ty (xs : List TrM) : ∀ c ∈ xs.flatMap ctriple, tyd [3] c := by
  intro c hc
  obtain ⟨x, _, hx⟩ := List.mem_flatMap.1 hc
  exact ctriple_ty x c hx
theorem AggE.open {w : World} {m : TrM} {v : Value} (h : AggE w (ctriple m) v) : ∃ A a B b C c D d E e F f, v = .agg #[.slice A m.a.sh.length a, .slice B m.a.mc.length b, .slice C m.b.sh.length c, .slice D m.b.mc.length d, .slice E m.c.sh.length e, .slice F m.c.mc.length f] ∧
    OwnE w (ctriple m) [.slice A m.a.sh.length a, .slice B m.a.mc.length b, .slice C m.b.sh.length c, .slice D m.b.mc.length d, .slice E m.c.sh.length e, .slice F m.c.mc.length f] := by
  obtain ⟨A, a, B, b, C, c, D, d, E, e, F, f, hv, _⟩ := ctriple_sl h.rd
  obtain ⟨us, hv', hus⟩ := h
  refine ⟨A, a, B, b, C, c, D, d, E, e, F, f, hv, ?_⟩
  rw [hv] at hv'
  injection hv' with hv'
  have hv' : us = [.slice A m.a.sh.length a, .slice B m.a.mc.length b, .slice C m.b.sh.length c, .slice D m.b.mc.length d, .slice E m.c.sh.length e, .slice F m.c.mc.length f] := by have := congrArg Array.toList hv'; simpa using this.symm
  rw [← hv']
  exact hus
def TL (lo : Nat) (ts : List TrM) (v : Value) (w : World) : Prop := ∃ vs, w.ownsRow lo 46 6 v ts.length vs ∧ OwnE w (ts.flatMap ctriple) vs
theorem TL.rd {lo : Nat} {ts : List TrM} {v : Value} {w : World} (h : TL lo ts v w) : (ctriples ts).rd w v := by
  obtain ⟨vs, h1, h2⟩ := h
  obtain ⟨A, c, rfl, hc, hm, hr⟩ := own_rd2 h1
  exact lst_mk (s := 6) (fun _ => rfl) rfl hc hm h2.rd hr
theorem own_typ {w w' : World} {b s n : Nat} {e : TypeId} {v : Value} {vs : List Value} {S : Nat → Prop} (h : w.ownsRow b e s v n vs) (k : Chg S w w') (hS : ∀ g, S g → g < w.heap.size → ∃ T us, Blk w g T us ∧ T ≠ e) : w'.ownsRow b e s v n vs := by
  refine Chg.own h k fun y hy hs => ?_
  rcases h.2 with ⟨h1, _⟩ | ⟨g1, cap, cur, hv, _, hg, _⟩
  · rw [h1] at hy; cases hy
  · rw [hv] at hy
    have : g1 = y := by simpa [Value.ownBlock] using hy
    subst this
    obtain ⟨T, us, B, hT⟩ := hS g1 hs (Array.getElem?_eq_some_iff.1 hg).1
    unfold Blk at B
    rw [B] at hg
    injection hg with hg
    injection hg with _ h2 _
    exact hT h2
theorem TL.typ {lo : Nat} {ts : List TrM} {v : Value} {w w' : World} {S : Nat → Prop} (h : TL lo ts v w) (k : Chg S w w') (hS : ∀ g, S g → g < w.heap.size → ∃ T us, Blk w g T us ∧ T ≠ 46 ∧ T ≠ 3) : TL lo ts v w' := by
  obtain ⟨vs, h1, h2⟩ := h
  refine ⟨vs, own_typ h1 k fun g hg hl => ?_, h2.typ (ctriples_ty ts) k fun g hg hl => ?_⟩
  · obtain ⟨T, us, B, e, _⟩ := hS g hg hl; exact ⟨T, us, B, e⟩
  · obtain ⟨T, us, B, _, e⟩ := hS g hg hl; exact ⟨T, us, B, by simpa using e⟩
theorem TL.grow {lo : Nat} {ts : List TrM} {v : Value} {w w' : World} (h : TL lo ts v w) (k : w.grownBy w' none) : TL lo ts v w' := by
  obtain ⟨vs, h1, h2⟩ := h
  exact ⟨vs, own_grow h1 k, h2.grow k⟩
theorem own_blk {w : World} {b s n : Nat} {e : TypeId} {v : Value} {vs : List Value} (h : w.ownsRow b e s v n vs) {g : Nat} (hg : v.ownBlock = some g) : ∃ cur, Blk w g e cur ∧ b ≤ g := by
  rcases h.2 with ⟨e1, _⟩ | ⟨g1, cap, cur, hv, hb, hg1, _⟩
  · rw [e1] at hg; cases hg
  · rw [hv] at hg
    have : g1 = g := by simpa [Value.ownBlock] using hg
    subst this
    exact ⟨_, hg1, hb⟩
theorem TL.push {lo : Nat} {ts : List TrM} {x : TrM} {v v' : Value} {w w' : World} {vs us : List Value} (h1 : w.ownsRow lo 46 6 v ts.length vs) (h2 : OwnE w (ts.flatMap ctriple) vs) (h3 : OwnE w (ctriple x) us) (k1 : w'.ownsRow lo 46 6 v' (ts.length + 1) (vs ++ us)) (k2 : Chg (fun g => v.ownBlock = some g) w w') : TL lo (ts ++ [x]) v' w' := by
  refine ⟨vs ++ us, by rw [List.length_append]; exact k1, ?_⟩
  rw [List.flatMap_append]
  refine OwnE.append (OwnE.typ h2 (ctriples_ty ts) k2 ?_) (OwnE.typ (by simpa using h3) (by intro c hc; exact ctriple_ty x c (by simpa using hc)) k2 ?_)
  all_goals
    intro g hg hl
    obtain ⟨cur, hb, _⟩ := own_blk h1 hg
    exact ⟨_, _, hb, by decide⟩
end Go.Proofs.Ythaadgdeadbhkaa
