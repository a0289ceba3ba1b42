/-
  append on a row of one's own, once more: the old value reads behind it as it did.
-/
import Derived.Test.YthaadgdeadbhkaaMgFnExactEngineOutputs10
import Derived.Test.YthaadgdeadbhkaaMgFnExactEngineOutputs23
import Derived.Test.YthaadgdeadbhkaaMgFnExactEngineOutputs15
import Derived.Test.YthaadgdeadbhkaaMgFnExactEngineOutputs6
import Derived.Test.YthaadgdeadbhkaaMgFnExactEngineOutputs16
import Derived.Test.YthaadgdeadbhkaaMgFnExactEngineOutputs19
import Derived.Test.YthaadgdeadbhkaaMgFnExactEngineOutputs13
namespace Go.Proofs.Ythaadgdeadbhkaa
open Go.RowKit
set_option linter.unusedVariables false
set_option linter.unusedSimpArgs false
section
variable {P : Program}
variable {ops : Array Oper} {rest : List Oper} {o : Oper} {a : Act} {Q : Exit → Act → World → Prop}
end
end Go.Proofs.Ythaadgdeadbhkaa
/-
  EvalArith: reference and program.
-/
namespace Go.Proofs.Ythaadgdeadbhkaa
open Go.RowKit
set_option linter.unusedVariables false
set_option linter.unusedSimpArgs false
def evD (p : Int) (ins l : List Int) (s : Stp) : Int :=
  if s.1 = 1 then ins.getD s.2.1.toNat 0 else if s.1 = 3 then (l.getD s.2.1.toNat 0 + l.getD s.2.2.toNat 0) % p else if s.1 = 4 then (l.getD s.2.1.toNat 0 * l.getD s.2.2.toNat 0) % p else s.2.1
def evS (m : AM) (ins : List Int) : Nat → List Int
  | 0 => []
  | k + 1 => evS m ins k ++ [evD m.p ins (evS m ins k) (stAt m k)]
structure EvOk (m : AM) (ins : List Int) : Prop where
  ok : AOk m
  len : ins.length = 60
  el : elemsB m.p ins = true
open Classical in
noncomputable def evB (m : AM) (ins : List Int) : Bool := decide (EvOk m ins)
theorem evB_no {m : AM} {ins : List Int} (h : ¬ EvOk m ins) : evB m ins = false := by simp [evB, h]
def evOut (m : AM) (ins : List Int) (k : Nat) : List Int := (m.outs.take k).map fun o => (evS m ins m.st.length).getD o.toNat 0
open Classical in
noncomputable def evR (m : AM) (ins : List Int) : List Int := if EvOk m ins then evOut m ins m.outs.length else []
theorem evR_no {m : AM} {ins : List Int} (h : ¬ EvOk m ins) : evR m ins = [] := by simp [evR, h]
def EvJ (m : AM) (ins : List Int) (w : World) (e : Ending) (w' : World) : Prop := ∃ V, e = .returned (.tuple #[V, .bool (evB m ins)]) ∧ w'.ownsRow w.heap.size 3 1 V (evR m ins).length ((evR m ins).map (Value.int .i64)) ∧ w.grownBy w' none
theorem EvJ.no {m : AM} {ins : List Int} {w w' : World} {V : Value} (h : ¬ EvOk m ins) (ho : w'.ownsRow w.heap.size 3 1 V 0 []) (hg : w.grownBy w' none) : EvJ m ins w (.returned (.tuple #[V, .bool false])) w' := ⟨V, by rw [evB_no h], by rw [evR_no h]; exact ho, hg⟩
theorem EvJ.own {m : AM} {ins : List Int} {w w' : World} {e : Ending} (h : EvJ m ins w e w') : ∃ V F, e = .returned (.tuple #[V, .bool (evB m ins)]) ∧ (cints (evR m ins)).own w' F V ∧ (∀ g ∈ F, w.heap.size ≤ g) ∧ w.grownBy w' none := by
  obtain ⟨V, h1, h2, h3⟩ := h
  exact ⟨V, _, h1, cints_own h2, fun g hg => (h2.lt g (by simpa using hg)).1, h3⟩
end Go.Proofs.Ythaadgdeadbhkaa
/-
  EvalArith of the program.
-/
namespace Go.Proofs.Ythaadgdeadbhkaa
open Go.RowKit
set_option linter.unusedVariables false
set_option linter.unusedSimpArgs false
end Go.Proofs.Ythaadgdeadbhkaa
/-
  l29Same, same, ints: comparing and copying lists of numbers.
-/
namespace Go.Proofs.Ythaadgdeadbhkaa
open Go.RowKit
set_option linter.unusedVariables false
set_option linter.unusedSimpArgs false
end Go.Proofs.Ythaadgdeadbhkaa
/-
  AddShares, ScaleShares, AddConstant: reference and program, on elements.
-/
namespace Go.Proofs.Ythaadgdeadbhkaa
open Go.RowKit
set_option linter.unusedVariables false
set_option linter.unusedSimpArgs false
def addS (p : Int) (xs ys : List Int) : List Int := List.zipWith (fun x y => (x + y) % p) xs ys
def sclS (p : Int) (xs : List Int) (k : Int) : List Int := xs.map fun x => (x * k) % p
def cstS (p : Int) (xs : List Int) (k : Int) : List Int := xs.set 0 ((xs.getD 0 0 + k) % p)
theorem addS_len {p : Int} {xs ys : List Int} (h : xs.length = ys.length) : (addS p xs ys).length = xs.length := by simp [addS, h]
theorem implIsElement_q (p a : Int) (w : World) (hp : p ≤ 9223372036854775807) (hp0 : -9223372036854775808 ≤ p) :
    Calls Try.prog 113 #[.int .i64 p, .int .i64 a] w fun e w' => e = .returned (.bool (elemB p a)) ∧ w = w' := by
  have HE : Hid (elemB p a = (fieldB p && inQ a 0 (p - 1))) := by
    unfold Hid elemB inQ
    rw [Bool.and_assoc]
  cases h1 : fieldB p
  · rw [h1] at HE
    go_enter Try.func113, Try.ntmps113
    go_wp2_with fail
    refine (implFieldOk_c p _ hp).mono ?_
    rintro e w1 ⟨rfl, rfl⟩
    rw [h1]
    go_wp2_with fail
    go_ret
    exact ⟨retB (by rw [HE.out]; rfl), rfl⟩
  · rw [h1] at HE
    obtain ⟨p2, p101⟩ := field_range h1
    go_enter Try.func113, Try.ntmps113
    go_wp2_with fail
    refine (implFieldOk_c p _ hp).mono ?_
    rintro e w1 ⟨rfl, rfl⟩
    rw [h1]
    go_wp2_with fail
    refine (implInq_c a 0 (p - 1) _).mono ?_
    rintro e w1 ⟨rfl, rfl⟩
    go_wp2_with fail
    go_ret
    exact ⟨retB (by rw [HE.out]; rfl), rfl⟩
end Go.Proofs.Ythaadgdeadbhkaa
/-
  AuthAdd, AuthScale: reference and program.
-/
namespace Go.Proofs.Ythaadgdeadbhkaa
open Go.RowKit
set_option linter.unusedVariables false
set_option linter.unusedSimpArgs false
def noA : AuM := ⟨[], []⟩
def authAdd (k : KM) (a b : AuM) : AuM := if formB k a && formB k b then ⟨addS k.p a.sh b.sh, addS k.p a.mc b.mc⟩ else noA
def authScale (k : KM) (a : AuM) (c : Int) : AuM := if formB k a && elemB k.p c then ⟨sclS k.p a.sh c, sclS k.p a.mc c⟩ else noA
theorem form_is {k : KM} {a : AuM} (h : formB k a = true) : keysB k = true ∧ a.sh.length = k.al.length ∧ a.mc.length = k.al.length ∧ elemsB k.p a.sh = true ∧ elemsB k.p a.mc = true ∧ elemsB k.p k.al = true ∧ 1 ≤ k.al.length ∧ k.al.length ≤ 5 := by
  unfold formB formA keysB at h
  simp only [Bool.and_eq_true, beq_iff_eq] at h
  obtain ⟨⟨h1, h2⟩, ⟨⟨h3, h4⟩, h5⟩, h6⟩ := h
  have h7 := inQ_is h2
  refine ⟨by unfold keysB; rw [h1, h2]; rfl, by omega, by omega, h5, h6, h1, by omega, by omega⟩
def row1 (lo n : Nat) (L : List Int) (v : Value) (w : World) : Prop := ∃ A c, v = .slice A n c ∧ w.ownsRow lo 3 1 v n (L.map (Value.int .i64))
def row2 (lo n m : Nat) (L M : List Int) (v u : Value) (w : World) : Prop := row1 lo n L v w ∧ row1 lo m M u w ∧ ∀ g, v.ownBlock = some g → u.ownBlock ≠ some g
theorem row1.grow {lo n : Nat} {L : List Int} {v : Value} {w w' : World} (h : row1 lo n L v w) (hg : w.grownBy w' none) : row1 lo n L v w' := by
  obtain ⟨A, c, h1, h2⟩ := h
  exact ⟨A, c, h1, own_grow h2 hg⟩
theorem row1.of {lo n : Nat} {L : List Int} {v : Value} {w : World} (h : w.ownsRow lo 3 1 v n (L.map (Value.int .i64))) : row1 lo n L v w := by
  obtain ⟨A, c, e, _⟩ := own_form h
  exact ⟨A, c, e, h⟩
theorem row2.of {lo n m : Nat} {L M : List Int} {v u : Value} {w w' : World} (h : row1 lo n L v w) (hg : w.grownBy w' none) (hl : lo ≤ w.heap.size) (k : w'.ownsRow w.heap.size 3 1 u m (M.map (Value.int .i64))) : row2 lo n m L M v u w' := by
  refine ⟨h.grow hg, row1.of (own_base k hl), fun g hg' hu => ?_⟩
  obtain ⟨A, c, _, h2⟩ := h
  have h3 := (h2.lt g hg').2
  have h4 := (k.lt g hu).1
  omega
theorem row2.agg {lo n m : Nat} {L M : List Int} {v u : Value} {w : World} (h : row2 lo n m L M v u w) : ∃ F, AggO w (cauth ⟨L, M⟩) F (.agg #[v, u]) ∧ ∀ g ∈ F, lo ≤ g := by
  obtain ⟨⟨A, c, h1, h2⟩, ⟨B, d, k1, k2⟩, h3⟩ := h
  have o1 := cints_own h2
  have o2 := cints_own k2
  refine ⟨_, cauth_omk (m := ⟨L, M⟩) o1 o2 (fun g hg hg' => h3 g (by simpa using hg) (by simpa using hg')), fun g hg => ?_⟩
  simp at hg
  rcases hg with hg | hg
  · exact (h2.lt g hg).1
  · exact (k2.lt g hg).1
def autF (lo : Nat) (m : AuM) (v : Value) (w : World) : Prop := ∃ F, AggO w (cauth m) F v ∧ ∀ g ∈ F, lo ≤ g
theorem autF.grow {lo : Nat} {m : AuM} {v : Value} {w w' : World} (h : autF lo m v w) (hg : w.grownBy w' none) : autF lo m v w' := by
  obtain ⟨F, h1, h2⟩ := h
  exact ⟨F, h1.grow hg, h2⟩
theorem autF.form {lo : Nat} {m : AuM} {v : Value} {w : World} (h : autF lo m v w) : ∃ A n c B k d, v = .agg #[.slice A n c, .slice B k d] := by
  obtain ⟨F, h1, _⟩ := h
  exact cauth_oform h1
theorem autF.chg {lo g : Nat} {m : AuM} {v : Value} {w w' : World} (h : autF lo m v w) (k : Chg (fun y => y = g) w w') (hg : g < lo) : autF lo m v w' := by
  obtain ⟨F, h1, h2⟩ := h
  exact ⟨F, h1.chg k (fun x hx (e : x = g) => by have := h2 x hx; omega), h2⟩
theorem autF.lo {lo lo' : Nat} {m : AuM} {v : Value} {w : World} (h : autF lo m v w) (hl : lo' ≤ lo) : autF lo' m v w := by
  obtain ⟨F, h1, h2⟩ := h
  exact ⟨F, h1, fun g hg => Nat.le_trans hl (h2 g hg)⟩
theorem cauths_lit1 {w : World} {a : AuM} {u0 u1 : Value} (h : AggR w (cauth a) (.agg #[u0, u1])) :
    (cauths [a]).rd (w.alloc (.cells #[u0, u1] 44)) (.slice (some ⟨w.heap.size, 0, none⟩) 1 1) := by
  have hg := gbA (gbR w none) (.cells #[u0, u1] 44)
  obtain ⟨vs, e1, h1⟩ := h
  injection e1 with e1
  have e1 : vs = [u0, u1] := by have := congrArg Array.toList e1; simpa using this.symm
  subst e1
  refine lst_mk (s := 2) (vs := [u0, u1]) (fun _ => rfl) rfl (Nat.le_refl _) (by unfold maxLen; omega) ?_ ⟨rfl, fun _ => ⟨w.heap.size, 0, rfl, by simp, fun j hj => ?_⟩⟩
  · exact h1.grow hg
  · rw [Nat.zero_add, cell_of_row _ _ j _ _ (0, 0) (heap_alloc_new w _)]
    simp
end Go.Proofs.Ythaadgdeadbhkaa
/-
  AuthScale, AuthConst: reference and program.
-/
namespace Go.Proofs.Ythaadgdeadbhkaa
open Go.RowKit
set_option linter.unusedVariables false
set_option linter.unusedSimpArgs false
def authConst (k : KM) (a : AuM) (x : Int) : AuM := if formB k a && elemB k.p x then ⟨cstS k.p a.sh x, addS k.p a.mc (sclS k.p k.al x)⟩ else noA
theorem emod_elems {p : Int} (hf : fieldB p = true) {zs : List Int} (h : ∀ z ∈ zs, ∃ y, z = y % p) : elemsB p zs = true := by
  obtain ⟨p2, _⟩ := field_range hf
  refine elemsB_mk hf fun z hz => ?_
  obtain ⟨y, rfl⟩ := h z hz
  exact ⟨Int.emod_nonneg _ (by omega), Int.emod_lt_of_pos _ (by omega)⟩
theorem addS_elems {p : Int} {xs ys : List Int} (hf : fieldB p = true) : elemsB p (addS p xs ys) = true := by
  refine emod_elems hf fun z hz => ?_
  unfold addS at hz
  obtain ⟨i, hi, rfl⟩ := List.mem_iff_getElem.1 hz
  rw [List.getElem_zipWith]
  exact ⟨_, rfl⟩
end Go.Proofs.Ythaadgdeadbhkaa
