/-
  A draw out of a list.
-/
import Derived.Test.YthdfkiaoahpjpaaMgFnConstantCircuits15
import Derived.Test.YthdfkiaoahpjpaaMgFnConstantCircuits14
import Derived.Deep.DeepCutAuto
import Derived.Test.YthdfkiaoahpjpaaMgFnConstantCircuits8
namespace Go.Proofs.Ythdfkiaoahpjpaa
open Go.RowKit
set_option linter.unusedVariables false
set_option linter.unusedSimpArgs false
end Go.Proofs.Ythdfkiaoahpjpaa
/-
  FnSubsets' walk.
-/
namespace Go.Proofs.Ythdfkiaoahpjpaa
open Go.RowKit
set_option linter.unusedVariables false
set_option linter.unusedSimpArgs false
theorem bytesIn {w : World} {A : Option Addr} {n : Nat} {zs : List Int} (h : IntsK .u8 w A n zs) (hn : n ≤ 1048576) : BytesIn w A n zs := ⟨h.1, fun b hb => wf_u8 (h.2 b hb), hn⟩
theorem Places.at_ {qs : List Int} (h : Places qs) (k : Nat) (hk : k < 12) : 0 ≤ qs.getD k 0 ∧ qs.getD k 0 < 10000 := by
  obtain ⟨hl, hq⟩ := h
  rw [getI qs k (by omega)]
  exact hq _ (List.getElem_mem _)
theorem big_c (w : World) (A : Option Addr) (n c : Nat) (hn : n ≤ 9223372036854775807) :
    Calls Try.prog 9 #[.slice A n c] w fun e w' => e = .returned (.bool (decide (1048576 < n))) ∧ w = w' := by
  by_cases h : 1048576 < n
  · have h1 : (1048576 : Int) < (n : Int) := by omega
    go_enter Try.func9, Try.ntmps9
    go_wp2_with fail
    go_ret
    exact ⟨retB (by first | (simp; done) | (simp; omega)), rfl⟩
  · have h1 : ¬ (1048576 : Int) < (n : Int) := by omega
    go_enter Try.func9, Try.ntmps9
    go_wp2_with fail
    go_ret
    exact ⟨retB (by first | (simp; done) | (simp; omega)), rfl⟩
end Go.Proofs.Ythdfkiaoahpjpaa
/-
  A drawn prime; FnConverted's walk.
-/
namespace Go.Proofs.Ythdfkiaoahpjpaa
open Go.RowKit
set_option linter.unusedVariables false
set_option linter.unusedSimpArgs false
end Go.Proofs.Ythdfkiaoahpjpaa
/-
  FnXorField's walk.
-/
namespace Go.Proofs.Ythdfkiaoahpjpaa
open Go.RowKit
set_option linter.unusedVariables false
set_option linter.unusedSimpArgs false
end Go.Proofs.Ythdfkiaoahpjpaa
/-
  FAdd, FSub, FMul, FSum: reference and program, on elements.
-/
namespace Go.Proofs.Ythdfkiaoahpjpaa
open Go.RowKit
set_option linter.unusedVariables false
set_option linter.unusedSimpArgs false
end Go.Proofs.Ythdfkiaoahpjpaa
/-
  Shares of an element: 'append(list, FSub(p, x, FSum(p, list))), next' and who calls it.
-/
namespace Go.Proofs.Ythdfkiaoahpjpaa
open Go.RowKit
set_option linter.unusedVariables false
set_option linter.unusedSimpArgs false
theorem chgDr {S : Nat → Prop} {w w' : World} (h : Chg S w.drew w') : Chg S w w' := ⟨h.os, h.tape, h.output, h.size, h.block⟩
end Go.Proofs.Ythdfkiaoahpjpaa
/-
  The laws' helpers on Keys, by what it reads as (printed by wip/gen_sk.py).
-/
namespace Go.Proofs.Ythdfkiaoahpjpaa
open Go.RowKit
set_option linter.unusedVariables false
set_option linter.unusedSimpArgs false
structure KM where
  p : Int
  al : List Int
def KM.sz (m : KM) : Nat := m.al.length
def KM.wf (m : KM) : Prop := i64w m.p ∧ (∀ z ∈ m.al, i64w z)
end Go.Proofs.Ythdfkiaoahpjpaa
/-
  The laws' helpers on Auth, by what it reads as (printed by wip/gen_sk.py).
-/
namespace Go.Proofs.Ythdfkiaoahpjpaa
open Go.RowKit
set_option linter.unusedVariables false
set_option linter.unusedSimpArgs false
structure AuM where
  sh : List Int
  mc : List Int
abbrev cauth (m : AuM) : List CS := [cints m.sh, cints m.mc]
def AuM.sz (m : AuM) : Nat := m.sh.length + m.mc.length
def AuM.wf (m : AuM) : Prop := (∀ z ∈ m.sh, i64w z) ∧ (∀ z ∈ m.mc, i64w z)
theorem cauth_oform {w : World} {m : AuM} {F : List Nat} {v : Value} (h : AggO w (cauth m) F v) : ∃ (A0 : Option Addr) (n0 s0 : Nat) (A1 : Option Addr) (n1 s1 : Nat), v = .agg #[(.slice A0 n0 s0), (.slice A1 n1 s1)] := by
  obtain ⟨vs, Fs, rfl, h, rfl⟩ := h
  obtain ⟨u0, vs0, F0, Fs0, rfl, rfl, h0, h, d0⟩ := OwnAll.head h
  obtain ⟨u1, vs1, F1, Fs1, rfl, rfl, h1, h, d1⟩ := OwnAll.head h
  obtain ⟨rfl, rfl⟩ := OwnAll.none h
  obtain ⟨A0, n0, s0, rfl⟩ := row_form h0
  obtain ⟨A1, n1, s1, rfl⟩ := row_form h1
  exact ⟨A0, n0, s0, A1, n1, s1, rfl⟩
theorem cauth_omk {w : World} {m : AuM} {u0 u1 : Value} {F0 F1 : List Nat} (h0 : (cints m.sh).own w F0 u0) (h1 : (cints m.mc).own w F1 u1) (d01 : ∀ g ∈ F0, g ∉ F1) : AggO w (cauth m) [F0, F1].flatten (.agg #[u0, u1]) := ⟨_, _, rfl, (OwnAll.cons h0 (OwnAll.cons h1 (OwnAll.nil _) (fun g hg => by simp)) (fun g hg => by simp [d01 g hg])), rfl⟩
end Go.Proofs.Ythdfkiaoahpjpaa
/-
  Keys and authenticated values: their form, by what they read xs.
-/
namespace Go.Proofs.Ythdfkiaoahpjpaa
open Go.RowKit
set_option linter.unusedVariables false
set_option linter.unusedSimpArgs false
end Go.Proofs.Ythdfkiaoahpjpaa
/-
  The laws' helpers on Arith, by what it reads as (printed by wip/gen_sk.py).
-/
namespace Go.Proofs.Ythdfkiaoahpjpaa
open Go.RowKit
set_option linter.unusedVariables false
set_option linter.unusedSimpArgs false
structure AM where
  p : Int
  st : List (Int × Int × Int)
  outs : List Int
def AM.sz (m : AM) : Nat := m.st.length + m.outs.length
def AM.wf (m : AM) : Prop := i64w m.p ∧ (∀ z ∈ m.st, w3 z) ∧ (∀ z ∈ m.outs, i64w z)
end Go.Proofs.Ythdfkiaoahpjpaa
/-
  CountMuls: reference and program; its exact law.
-/
namespace Go.Proofs.Ythdfkiaoahpjpaa
open Go.RowKit
set_option linter.unusedVariables false
set_option linter.unusedSimpArgs false
abbrev Stp := Int × Int × Int
end Go.Proofs.Ythdfkiaoahpjpaa
/-
  ArithOk: reference and program.
-/
namespace Go.Proofs.Ythdfkiaoahpjpaa
open Go.RowKit
set_option linter.unusedVariables false
set_option linter.unusedSimpArgs false
def inB (x lo hi : Int) : Bool := decide (lo ≤ x) && decide (x ≤ hi)
theorem spec.l01In_q (x lo hi : Int) (w : World) :
    Calls Try.prog 62 #[.int .i64 x, .int .i64 lo, .int .i64 hi] w fun e w' => e = .returned (.bool (inB x lo hi)) ∧ w = w' := by
  by_cases h1 : lo ≤ x
  all_goals by_cases h2 : x ≤ hi
  all_goals
    have H1 := Lib.hid h1
    have H2 := Lib.hid h2
    go_enter Try.func62, Try.ntmps62
    go_wp2
    go_ret
    have h1' := H1.out
    have h2' := H2.out
    exact ⟨retB (by simp [inB, h1', h2'] <;> omega), rfl⟩
theorem impl.within_q (x lo hi : Int) (w : World) :
    Calls Try.prog 54 #[.int .i64 x, .int .i64 lo, .int .i64 hi] w fun e w' => e = .returned (.bool (inB x lo hi)) ∧ w = w' := by
  by_cases h1 : lo ≤ x
  all_goals by_cases h2 : x ≤ hi
  all_goals
    have H1 := Lib.hid h1
    have H2 := Lib.hid h2
    go_enter Try.func54, Try.ntmps54
    go_wp2
    go_ret
    have h1' := H1.out
    have h2' := H2.out
    exact ⟨retB (by simp [inB, h1', h2'] <;> omega), rfl⟩
def stepB (p : Int) (k : Int) (s : Stp) : Bool :=
  if s.1 = 1 then inB s.2.1 0 59 && s.2.2 == 0
  else if s.1 = 2 then elemB p s.2.1 && s.2.2 == 0
  else if s.1 = 3 ∨ s.1 = 4 then inB s.2.1 0 (k - 1) && inB s.2.2 0 (k - 1)
  else false
def stAt (m : AM) (j : Nat) : Stp := m.st.getD j (0, 0, 0)
structure AOk (m : AM) : Prop where
  fld : fieldB m.p = true
  few : m.st.length ≤ 60
  steps : ∀ j, j < m.st.length → stepB m.p j (stAt m j) = true
  outs : ∀ z ∈ m.outs, inB z 0 (m.st.length - 1) = true
end Go.Proofs.Ythdfkiaoahpjpaa
/-
  MulDepth: reference and program.
-/
namespace Go.Proofs.Ythdfkiaoahpjpaa
open Go.RowKit
set_option linter.unusedVariables false
set_option linter.unusedSimpArgs false
def RowI (r : List Int) (w : World) (e : Ending) (w' : World) : Prop := ∃ V, e = .returned V ∧ w'.ownsRow w.heap.size 3 1 V r.length (r.map (Value.int .i64)) ∧ w.grownBy w' none
theorem RowI.own {r : List Int} {w w' : World} {e : Ending} (h : RowI r w e w') : ∃ V F, e = .returned V ∧ (cints r).own w' F V ∧ (∀ g ∈ F, w.heap.size ≤ g) ∧ w.grownBy w' none := by
  obtain ⟨V, h1, h2, h3⟩ := h
  exact ⟨V, _, h1, cints_own h2, fun g hg => (h2.lt g (by simpa using hg)).1, h3⟩
end Go.Proofs.Ythdfkiaoahpjpaa
/-
  append on a row of one's own, once more: the old value reads behind it as it did.
-/
namespace Go.Proofs.Ythdfkiaoahpjpaa
open Go.RowKit
set_option linter.unusedVariables false
set_option linter.unusedSimpArgs false
section
variable {P : Program}
variable {ops : Array Oper} {rest : List Oper} {o : Oper} {a : Act} {Q : Exit → Act → World → Prop}
end
end Go.Proofs.Ythdfkiaoahpjpaa
/-
  EvalArith: reference and program.
-/
namespace Go.Proofs.Ythdfkiaoahpjpaa
open Go.RowKit
set_option linter.unusedVariables false
set_option linter.unusedSimpArgs false
def evD (p : Int) (ins l : List Int) (s : Stp) : Int :=
  if s.1 = 1 then ins.getD s.2.1.toNat 0 else if s.1 = 3 then (l.getD s.2.1.toNat 0 + l.getD s.2.2.toNat 0) % p else if s.1 = 4 then (l.getD s.2.1.toNat 0 * l.getD s.2.2.toNat 0) % p else s.2.1
def evS (m : AM) (ins : List Int) : Nat → List Int
  | 0 => []
  | k + 1 => evS m ins k ++ [evD m.p ins (evS m ins k) (stAt m k)]
structure EvOk (m : AM) (ins : List Int) : Prop where
  ok : AOk m
  len : ins.length = 60
  el : elemsB m.p ins = true
open Classical in
noncomputable def evB (m : AM) (ins : List Int) : Bool := decide (EvOk m ins)
theorem evB_yes {m : AM} {ins : List Int} (h : EvOk m ins) : evB m ins = true := by simp [evB, h]
theorem evB_no {m : AM} {ins : List Int} (h : ¬ EvOk m ins) : evB m ins = false := by simp [evB, h]
def evOut (m : AM) (ins : List Int) (k : Nat) : List Int := (m.outs.take k).map fun o => (evS m ins m.st.length).getD o.toNat 0
theorem evOut_len (m : AM) (ins : List Int) (k : Nat) (h : k ≤ m.outs.length) : (evOut m ins k).length = k := by simp [evOut]; omega
open Classical in
noncomputable def evR (m : AM) (ins : List Int) : List Int := if EvOk m ins then evOut m ins m.outs.length else []
theorem evR_yes {m : AM} {ins : List Int} (h : EvOk m ins) : evR m ins = evOut m ins m.outs.length := by simp [evR, h]
theorem evR_no {m : AM} {ins : List Int} (h : ¬ EvOk m ins) : evR m ins = [] := by simp [evR, h]
def EvJ (m : AM) (ins : List Int) (w : World) (e : Ending) (w' : World) : Prop := ∃ V, e = .returned (.tuple #[V, .bool (evB m ins)]) ∧ w'.ownsRow w.heap.size 3 1 V (evR m ins).length ((evR m ins).map (Value.int .i64)) ∧ w.grownBy w' none
theorem EvJ.no {m : AM} {ins : List Int} {w w' : World} {V : Value} (h : ¬ EvOk m ins) (ho : w'.ownsRow w.heap.size 3 1 V 0 []) (hg : w.grownBy w' none) : EvJ m ins w (.returned (.tuple #[V, .bool false])) w' := ⟨V, by rw [evB_no h], by rw [evR_no h]; exact ho, hg⟩
theorem EvJ.yes {m : AM} {ins : List Int} {w w' : World} {V : Value} (h : EvOk m ins) {q : Nat} (hq : q = m.outs.length) (ho : w'.ownsRow w.heap.size 3 1 V q ((evOut m ins q).map (Value.int .i64))) (hg : w.grownBy w' none) : EvJ m ins w (.returned (.tuple #[V, .bool true])) w' := by
  subst hq
  refine ⟨V, by rw [evB_yes h], ?_, hg⟩
  rw [evR_yes h, evOut_len _ _ _ (Nat.le_refl _)]
  exact ho
theorem EvJ.own {m : AM} {ins : List Int} {w w' : World} {e : Ending} (h : EvJ m ins w e w') : ∃ V F, e = .returned (.tuple #[V, .bool (evB m ins)]) ∧ (cints (evR m ins)).own w' F V ∧ (∀ g ∈ F, w.heap.size ≤ g) ∧ w.grownBy w' none := by
  obtain ⟨V, h1, h2, h3⟩ := h
  exact ⟨V, _, h1, cints_own h2, fun g hg => (h2.lt g (by simpa using hg)).1, h3⟩
end Go.Proofs.Ythdfkiaoahpjpaa
