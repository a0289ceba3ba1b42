/-
  PublicOf of the reference.
-/
import Derived.Test.YthdfkiaoahpjpaaMgFnCaught34
namespace Go.Proofs.Ythdfkiaoahpjpaa
open Go.RowKit
set_option linter.unusedVariables false
set_option linter.unusedSimpArgs false
end Go.Proofs.Ythdfkiaoahpjpaa
/-
  The laws' helpers on Public, by what it reads as (printed by wip/gen_sk.py).
-/
namespace Go.Proofs.Ythdfkiaoahpjpaa
open Go.RowKit
set_option linter.unusedVariables false
set_option linter.unusedSimpArgs false
structure PbM where
  ts : List Int
  cs : List Int
  ds : List Int
def PbM.sz (m : PbM) : Nat := m.ts.length + m.cs.length + m.ds.length
def PbM.wf (m : PbM) : Prop := (∀ z ∈ m.ts, i64w z) ∧ (∀ z ∈ m.cs, i64w z) ∧ (∀ z ∈ m.ds, i64w z)
end Go.Proofs.Ythdfkiaoahpjpaa
/-
  Lists of Publics: what they read as, one more behind; what CopiesNew makes, in plain numbers.
-/
namespace Go.Proofs.Ythdfkiaoahpjpaa
open Go.RowKit
set_option linter.unusedVariables false
set_option linter.unusedSimpArgs false
def cpb (p : PbM) : List CS := cpub p.ts p.cs p.ds
abbrev cpubs (xs : List PbM) : CS := lst 70 3 cpb xs
theorem elPublic : El Try.prog 46 70 (.agg #[.slice none 0 0, .slice none 0 0, .slice none 0 0]) 3 72 := ⟨Try.underlying46, by kernel_rfl, rfl, by decide⟩
def pbAt (xs : List PbM) (k : Nat) : PbM := xs.getD k ⟨[], [], []⟩
theorem cpb_open {w : World} {p : PbM} {v : Value} (h : AggR w (cpb p) v) :
    ∃ A a B b C c, v = .agg #[.slice A p.ts.length a, .slice B p.cs.length b, .slice C p.ds.length c] ∧ (cints p.ts).rd w (.slice A p.ts.length a) ∧ (cints p.cs).rd w (.slice B p.cs.length b) ∧ (cints p.ds).rd w (.slice C p.ds.length c) := by
  obtain ⟨vs, rfl, h⟩ := h
  obtain ⟨u0, us, rfl, h0, h⟩ := RdAll.head h
  obtain ⟨u1, us, rfl, h1, h⟩ := RdAll.head h
  obtain ⟨u2, us, rfl, h2, h⟩ := RdAll.head h
  obtain rfl := RdAll.none h
  obtain ⟨A, a, rfl, _⟩ := cints_rd h0
  obtain ⟨B, b, rfl, _⟩ := cints_rd h1
  obtain ⟨C, c, rfl, _⟩ := cints_rd h2
  exact ⟨A, a, B, b, C, c, rfl, h0, h1, h2⟩
theorem cpb_mk {w : World} {p : PbM} {u0 u1 u2 : Value} (h0 : (cints p.ts).rd w u0) (h1 : (cints p.cs).rd w u1) (h2 : (cints p.ds).rd w u2) : AggR w (cpb p) (.agg #[u0, u1, u2]) :=
  ⟨_, rfl, RdAll.cons h0 (RdAll.cons h1 (RdAll.cons h2 (RdAll.nil _)))⟩
theorem cpubs_at {w : World} {xs : List PbM} {A : Option Addr} {n c : Nat} (h : (cpubs xs).rd w (.slice A n c)) {k : Nat} (hk : k < n) :
    ∃ (b o : Nat) (B0 B1 B2 : Option Addr) (d0 d1 d2 : Nat), A = some ⟨b, o, none⟩ ∧ b < w.heap.size ∧
      w.cell? ⟨b, o + k * 3, none⟩ = some (.slice B0 (pbAt xs k).ts.length d0) ∧ w.cell? ⟨b, o + k * 3 + 1, none⟩ = some (.slice B1 (pbAt xs k).cs.length d1) ∧ w.cell? ⟨b, o + k * 3 + 2, none⟩ = some (.slice B2 (pbAt xs k).ds.length d2) ∧
      AggR w (cpb (pbAt xs k)) (.agg #[.slice B0 (pbAt xs k).ts.length d0, .slice B1 (pbAt xs k).cs.length d1, .slice B2 (pbAt xs k).ds.length d2]) := by
  obtain ⟨b, o, x, rfl, hb, hx, hc⟩ := lst_at (s := 3) (fun _ => rfl) (by omega) h hk
  have hxe : pbAt xs k = x := by unfold pbAt; rw [List.getD_eq_getElem?_getD, hx]; rfl
  rw [hxe]
  obtain ⟨u0, q0, r0⟩ := hc 0 (cints x.ts) rfl
  obtain ⟨u1, q1, r1⟩ := hc 1 (cints x.cs) rfl
  obtain ⟨u2, q2, r2⟩ := hc 2 (cints x.ds) rfl
  obtain ⟨B0, d0, rfl, _⟩ := cints_rd r0
  obtain ⟨B1, d1, rfl, _⟩ := cints_rd r1
  obtain ⟨B2, d2, rfl, _⟩ := cints_rd r2
  simp only [Nat.add_zero, ← Nat.add_assoc] at q0 q1 q2
  exact ⟨b, o, B0, B1, B2, d0, d1, d2, rfl, hb, q0, q1, q2, cpb_mk r0 r1 r2⟩
theorem cps_rd {w : World} {xs : List PbM} {v : Value} (h : (cpubs xs).rd w v) : ∃ A c, v = .slice A xs.length c ∧ xs.length ≤ c ∧ c ≤ maxLen := by
  obtain ⟨A, c, vs, h1, h2, h3, _⟩ := lst_rd (s := 3) (fun _ => rfl) (by omega) h
  exact ⟨A, c, h1, h2, h3⟩
theorem pbAt_at {xs : List PbM} {k : Nat} (h : k < xs.length) : xs[k]? = some (pbAt xs k) := by
  unfold pbAt
  rw [List.getD_eq_getElem?_getD, List.getElem?_eq_getElem h]
  rfl
theorem cpubs_nil (w : World) : (cpubs []).own w [] (.slice none 0 0) := ⟨0, [], [], rfl, World.ownsRow_nil w 0 _ 3, OwnAll.nil w, rfl, by simp⟩
theorem cpubs_new {w : World} {g : Nat} (h : w.ownsRow 0 70 3 (.slice (some ⟨g, 0, none⟩) 0 0) 0 []) : (cpubs []).own w [g] (.slice (some ⟨g, 0, none⟩) 0 0) := ⟨0, [], [], rfl, h, OwnAll.nil w, rfl, by simp⟩
theorem cpubs_push {xs : List PbM} {w : World} {F : List Nat} {v : Value} (h : (cpubs xs).own w F v) :
    ∃ vs, w.ownsRow 0 70 3 v xs.length vs ∧ (∀ g, v.ownBlock = some g → g ∈ F) ∧ ∀ (w' : World) (v' u0 u1 u2 : Value) (x : PbM) (Fx : List Nat), w'.ownsRow 0 70 3 v' (xs.length + 1) (vs ++ [u0, u1, u2]) → w.grownBy w' v.ownBlock → (∀ g, v'.ownBlock = some g → some g = v.ownBlock ∨ w.heap.size ≤ g) → AggO w' (cpb x) Fx (.agg #[u0, u1, u2]) → (∀ y ∈ Fx, y ∉ F) → (∀ g, v'.ownBlock = some g → g ∉ Fx) →
      ∃ F', (cpubs (xs ++ [x])).own w' F' v' ∧ ∀ y ∈ F', y ∈ F ∨ w.heap.size ≤ y ∨ y ∈ Fx := by
  obtain ⟨n, vs, h1, h2, h3, h4⟩ := row_push h
  rw [flat_len (sz := 3) (fun _ => rfl)] at h1
  have hn := div_of (by omega) h1
  subst hn
  refine ⟨vs, h2, h3, fun w' v' u0 u1 u2 x Fx ho hg hv hx hd hd2 => ?_⟩
  obtain ⟨us, Ds, e, h5, rfl⟩ := hx
  injection e with e
  have e : us = [u0, u1, u2] := by have := congrArg Array.toList e; simpa using this.symm
  subst e
  obtain ⟨F', k1, k2⟩ := h4 w' v' 1 [u0, u1, u2] (cpb x) Ds rfl ho hg hv h5 hd hd2
  exact ⟨F', by rw [cpubs, lst, List.flatMap_append]; simpa using k1, k2⟩
section
variable {ops : Array Oper} {rest : List Oper} {o : Oper} {a : Act} {Q : Exit → Act → World → Prop}
theorem wp_pushP (wr : World) (g : Nat) (hgs : wr.heap.size = g) (hgd : o.guard = none) (s x : Operand)
    (ho : o.op = .call { callee := .builtin .append, args := #[s, x], argTypes := #[46, 46] }) (p : PbM) (u0 u1 u2 : Value) (lo hi : Nat) (hx : aggF hi (cpb p) (.agg #[u0, u1, u2]) wr) (h1 : ∀ u ∈ [u0, u1, u2], u.oneCell' = true) (v : Value) (n : Nat) (xs : List PbM) (F : List Nat) (hown : (cpubs xs).own wr F v) (hF : ∀ y ∈ F, lo ≤ y ∧ y < hi) (hlo : lo ≤ hi) (hh : hi ≤ wr.heap.size) (hl : xs.length = n)
    (hs : a.eval s = v) (hxx : a.eval x = .slice (some ⟨g, 0, none⟩) 1 1) (hn : n ≤ 1000000)
    (h : ∀ A' c' w', Hid (ownF lo (cpubs (xs ++ [p])) (.slice A' (n + 1) c') w') → Hid (Chg (fun y => y ∈ F) (wr.alloc (.cells #[u0, u1, u2] 70)) w') → wpList Try.prog ops Q rest (a.put o.dst (.slice A' (n + 1) c')) w') :
    wpList Try.prog ops Q (o :: rest) a (wr.alloc (.cells #[u0, u1, u2] 70)) := by
  obtain ⟨vs, k1, k2, k3⟩ := cpubs_push hown
  obtain ⟨Fx, hx, lx⟩ := hx
  rw [hl] at k1 k3
  refine wp_appendG wr g hgs elPublic hgd s x ho #[u0, u1, u2] rfl (by simpa using h1) 0 v n vs k1 hs hxx (by unfold maxLen; omega) (by omega) (Nat.zero_le _) fun v' w9 o9 g9 k9 => ?_
  have gw : wr.grownBy w9 v.ownBlock := gbT (gbA (gbR wr _) _) g9
  have hx9 : AggO w9 (cpb p) Fx (.agg #[u0, u1, u2]) := hx.chg (Chg.of (S := fun y => v.ownBlock = some y) gw (fun y hy => hy)) (fun y hy hy' => by have := lx y hy; have := (hF y (k2 y hy')).2; omega)
  obtain ⟨F', m1, m2⟩ := k3 w9 v' u0 u1 u2 p Fx (by simpa using o9) gw (fun y hy => (k9 y hy).imp id (fun h => Nat.le_of_lt h)) hx9 (fun y hy hy' => by have := lx y hy; have := (hF y hy').2; omega) (fun y hy hy' => by
    rcases k9 y hy with h3 | h3
    · have := lx y hy'; have := (hF y (k2 y h3.symm)).2; omega
    · have := hx.lt y hy'; omega)
  obtain ⟨A', c', hv', _⟩ := cps_rd (CS.toRd _ m1)
  rw [List.length_append, hl, List.length_singleton] at hv'
  subst hv'
  refine h A' c' w9 (Lib.hid ⟨F', m1, fun y hy => ?_⟩) (Lib.hid (Chg.of g9 fun y hy => k2 y hy))
  rcases m2 y hy with h4 | h4 | h4
  · exact (hF y h4).1
  · omega
  · have := lx y h4; omega
end
def pubN (m : CM) (s : Nat) : PbM := ⟨garT s m.gt m.gt.length, conTo s m.gt (garZ s m.gt m.gt.length) m.gt.length, decTo m (garZ s m.gt m.gt.length) m.outs.length⟩
def copN (m : CM) (ss : List Int) : List PbM := ss.map fun s => pubN m s.toNat
def wordQ (s : Int) : Bool := inQ s 0 4294967295
def askB (m : CM) (ss : List Int) : Prop := COk m ∧ ss.length ≤ 8 ∧ ∀ s ∈ ss, wordQ s = true
open Classical in
noncomputable def cpsR (m : CM) (ss : List Int) : List PbM := if askB m ss then copN m ss else []
theorem cpsR_yes {m : CM} {ss : List Int} (h : askB m ss) : cpsR m ss = copN m ss := by rw [cpsR, if_pos h]
theorem cpsR_no {m : CM} {ss : List Int} (h : ¬ askB m ss) : cpsR m ss = [] := by rw [cpsR, if_neg h]
theorem copN_len (m : CM) (ss : List Int) : (copN m ss).length = ss.length := by simp [copN]
theorem copN_step {m : CM} {ss : List Int} {k s : Nat} (h : ss[k]? = some (s : Int)) : copN m (ss.take k) ++ [pubN m s] = copN m (ss.take (k + 1)) := by
  unfold copN
  rw [List.take_add_one, h, List.map_append]
  simp
theorem word_nat {s : Int} (h : wordQ s = true) : ∃ n : Nat, s = (n : Int) ∧ n < 4294967296 := by
  have := inQ_is h
  exact ⟨s.toNat, by omega, by omega⟩
end Go.Proofs.Ythdfkiaoahpjpaa
