/-
  The laws' helpers on Circuit, by what it reads as (printed by wip/gen_sk.py).
-/
import Derived.Test.YthdfkiaoahpjpaaMgFnCaught15
namespace Go.Proofs.Ythdfkiaoahpjpaa
open Go.RowKit
set_option linter.unusedVariables false
set_option linter.unusedSimpArgs false
structure CM where
  gt : List (Int × Int × Int)
  outs : List Int
abbrev ccircuit (m : CM) : List CS := [cgates m.gt, cints m.outs]
def CM.sz (m : CM) : Nat := m.gt.length + m.outs.length
def CM.wf (m : CM) : Prop := (∀ z ∈ m.gt, w3 z) ∧ (∀ z ∈ m.outs, i64w z)
theorem stCircuit : St Try.prog 28 2 := ⟨⟨_, Try.underlying28, rfl⟩, by kernel_rfl⟩
theorem ccircuit_open {w : World} {m : CM} {v : Value} (h : AggR w (ccircuit m) v) : ∃ u0 u1, v = .agg #[u0, u1] ∧ (cgates m.gt).rd w u0 ∧ (cints m.outs).rd w u1 := by
  obtain ⟨vs, rfl, h⟩ := h
  obtain ⟨u0, vs0, rfl, h0, h⟩ := RdAll.head h
  obtain ⟨u1, vs1, rfl, h1, h⟩ := RdAll.head h
  obtain rfl := RdAll.none h
  exact ⟨u0, u1, rfl, h0, h1⟩
theorem ccircuit_oform {w : World} {m : CM} {F : List Nat} {v : Value} (h : AggO w (ccircuit m) F v) : ∃ (A0 : Option Addr) (n0 s0 : Nat) (A1 : Option Addr) (n1 s1 : Nat), v = .agg #[(.slice A0 n0 s0), (.slice A1 n1 s1)] := by
  obtain ⟨vs, Fs, rfl, h, rfl⟩ := h
  obtain ⟨u0, vs0, F0, Fs0, rfl, rfl, h0, h, d0⟩ := OwnAll.head h
  obtain ⟨u1, vs1, F1, Fs1, rfl, rfl, h1, h, d1⟩ := OwnAll.head h
  obtain ⟨rfl, rfl⟩ := OwnAll.none h
  obtain ⟨A0, n0, s0, rfl⟩ := row_form h0
  obtain ⟨A1, n1, s1, rfl⟩ := row_form h1
  exact ⟨A0, n0, s0, A1, n1, s1, rfl⟩
theorem ccircuit_oopen {w : World} {m : CM} {F : List Nat} {v : Value} (h : AggO w (ccircuit m) F v) : ∃ u0 u1 F0 F1, v = .agg #[u0, u1] ∧ F = [F0, F1].flatten ∧ (cgates m.gt).own w F0 u0 ∧ (cints m.outs).own w F1 u1 ∧ (∀ g ∈ F0, g ∉ F1) := by
  obtain ⟨vs, Fs, rfl, h, rfl⟩ := h
  obtain ⟨u0, vs0, F0, Fs0, rfl, rfl, h0, h, d0⟩ := OwnAll.head h
  obtain ⟨u1, vs1, F1, Fs1, rfl, rfl, h1, h, d1⟩ := OwnAll.head h
  obtain ⟨rfl, rfl⟩ := OwnAll.none h
  exact ⟨u0, u1, F0, F1, rfl, rfl, h0, h1, fun g hg hg' => d0 g hg (by simp [hg'])⟩
theorem ccircuit_omk {w : World} {m : CM} {u0 u1 : Value} {F0 F1 : List Nat} (h0 : (cgates m.gt).own w F0 u0) (h1 : (cints m.outs).own w F1 u1) (d01 : ∀ g ∈ F0, g ∉ F1) : AggO w (ccircuit m) [F0, F1].flatten (.agg #[u0, u1]) := ⟨_, _, rfl, (OwnAll.cons h0 (OwnAll.cons h1 (OwnAll.nil _) (fun g hg => by simp)) (fun g hg => by simp [d01 g hg])), rfl⟩
end Go.Proofs.Ythdfkiaoahpjpaa
/-
  The laws' helpers on Keys, by what it reads as (printed by wip/gen_sk.py).
-/
namespace Go.Proofs.Ythdfkiaoahpjpaa
open Go.RowKit
set_option linter.unusedVariables false
set_option linter.unusedSimpArgs false
structure KM where
  p : Int
  al : List Int
def KM.sz (m : KM) : Nat := m.al.length
def KM.wf (m : KM) : Prop := i64w m.p ∧ (∀ z ∈ m.al, i64w z)
end Go.Proofs.Ythdfkiaoahpjpaa
/-
  The laws' helpers on Auth, by what it reads as (printed by wip/gen_sk.py).
-/
namespace Go.Proofs.Ythdfkiaoahpjpaa
open Go.RowKit
set_option linter.unusedVariables false
set_option linter.unusedSimpArgs false
structure AuM where
  sh : List Int
  mc : List Int
abbrev cauth (m : AuM) : List CS := [cints m.sh, cints m.mc]
def AuM.sz (m : AuM) : Nat := m.sh.length + m.mc.length
def AuM.wf (m : AuM) : Prop := (∀ z ∈ m.sh, i64w z) ∧ (∀ z ∈ m.mc, i64w z)
theorem cauth_omk {w : World} {m : AuM} {u0 u1 : Value} {F0 F1 : List Nat} (h0 : (cints m.sh).own w F0 u0) (h1 : (cints m.mc).own w F1 u1) (d01 : ∀ g ∈ F0, g ∉ F1) : AggO w (cauth m) [F0, F1].flatten (.agg #[u0, u1]) := ⟨_, _, rfl, (OwnAll.cons h0 (OwnAll.cons h1 (OwnAll.nil _) (fun g hg => by simp)) (fun g hg => by simp [d01 g hg])), rfl⟩
end Go.Proofs.Ythdfkiaoahpjpaa
/-
  Keys and authenticated values: their form, by what they read xs.
-/
namespace Go.Proofs.Ythdfkiaoahpjpaa
open Go.RowKit
set_option linter.unusedVariables false
set_option linter.unusedSimpArgs false
end Go.Proofs.Ythdfkiaoahpjpaa
/-
  The laws' helpers on Arith, by what it reads as (printed by wip/gen_sk.py).
-/
namespace Go.Proofs.Ythdfkiaoahpjpaa
open Go.RowKit
set_option linter.unusedVariables false
set_option linter.unusedSimpArgs false
structure AM where
  p : Int
  st : List (Int × Int × Int)
  outs : List Int
def AM.sz (m : AM) : Nat := m.st.length + m.outs.length
def AM.wf (m : AM) : Prop := i64w m.p ∧ (∀ z ∈ m.st, w3 z) ∧ (∀ z ∈ m.outs, i64w z)
end Go.Proofs.Ythdfkiaoahpjpaa
/-
  CountMuls: reference and program; its exact law.
-/
namespace Go.Proofs.Ythdfkiaoahpjpaa
open Go.RowKit
set_option linter.unusedVariables false
set_option linter.unusedSimpArgs false
abbrev Stp := Int × Int × Int
end Go.Proofs.Ythdfkiaoahpjpaa
/-
  ArithOk: reference and program.
-/
namespace Go.Proofs.Ythdfkiaoahpjpaa
open Go.RowKit
set_option linter.unusedVariables false
set_option linter.unusedSimpArgs false
def inB (x lo hi : Int) : Bool := decide (lo ≤ x) && decide (x ≤ hi)
theorem impl.within_q (x lo hi : Int) (w : World) :
    Calls Try.prog 54 #[.int .i64 x, .int .i64 lo, .int .i64 hi] w fun e w' => e = .returned (.bool (inB x lo hi)) ∧ w = w' := by
  by_cases h1 : lo ≤ x
  all_goals by_cases h2 : x ≤ hi
  all_goals
    have H1 := Lib.hid h1
    have H2 := Lib.hid h2
    go_enter Try.func54, Try.ntmps54
    go_wp2
    go_ret
    have h1' := H1.out
    have h2' := H2.out
    exact ⟨retB (by simp [inB, h1', h2'] <;> omega), rfl⟩
def stepB (p : Int) (k : Int) (s : Stp) : Bool :=
  if s.1 = 1 then inB s.2.1 0 59 && s.2.2 == 0
  else if s.1 = 2 then elemB p s.2.1 && s.2.2 == 0
  else if s.1 = 3 ∨ s.1 = 4 then inB s.2.1 0 (k - 1) && inB s.2.2 0 (k - 1)
  else false
def stAt (m : AM) (j : Nat) : Stp := m.st.getD j (0, 0, 0)
structure AOk (m : AM) : Prop where
  fld : fieldB m.p = true
  few : m.st.length ≤ 60
  steps : ∀ j, j < m.st.length → stepB m.p j (stAt m j) = true
  outs : ∀ z ∈ m.outs, inB z 0 (m.st.length - 1) = true
end Go.Proofs.Ythdfkiaoahpjpaa
/-
  MulDepth: reference and program.
-/
namespace Go.Proofs.Ythdfkiaoahpjpaa
open Go.RowKit
set_option linter.unusedVariables false
set_option linter.unusedSimpArgs false
def RowI (r : List Int) (w : World) (e : Ending) (w' : World) : Prop := ∃ V, e = .returned V ∧ w'.ownsRow w.heap.size 3 1 V r.length (r.map (Value.int .i64)) ∧ w.grownBy w' none
theorem RowI.own {r : List Int} {w w' : World} {e : Ending} (h : RowI r w e w') : ∃ V F, e = .returned V ∧ (cints r).own w' F V ∧ (∀ g ∈ F, w.heap.size ≤ g) ∧ w.grownBy w' none := by
  obtain ⟨V, h1, h2, h3⟩ := h
  exact ⟨V, _, h1, cints_own h2, fun g hg => (h2.lt g (by simpa using hg)).1, h3⟩
end Go.Proofs.Ythdfkiaoahpjpaa
/-
  append on a row of one's own, once more: the old value reads behind it as it did.
-/
namespace Go.Proofs.Ythdfkiaoahpjpaa
open Go.RowKit
set_option linter.unusedVariables false
set_option linter.unusedSimpArgs false
section
variable {P : Program}
variable {ops : Array Oper} {rest : List Oper} {o : Oper} {a : Act} {Q : Exit → Act → World → Prop}
end
end Go.Proofs.Ythdfkiaoahpjpaa
