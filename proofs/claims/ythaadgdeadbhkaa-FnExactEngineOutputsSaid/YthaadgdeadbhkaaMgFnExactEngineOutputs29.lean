/-
  A drawn arithmetic circuit: the struct that is made, and the regions that append to it.
-/
import Derived.Test.YthaadgdeadbhkaaMgFnExactEngineOutputs20
import Derived.Test.YthaadgdeadbhkaaMgFnExactEngineOutputs22
import Derived.Test.YthaadgdeadbhkaaMgFnExactEngineOutputs28
import Derived.Test.YthaadgdeadbhkaaMgFnExactEngineOutputs8
import Derived.Test.YthaadgdeadbhkaaMgFnExactEngineOutputs13
import Derived.Test.YthaadgdeadbhkaaMgFnExactEngineOutputs10
import Derived.Test.YthaadgdeadbhkaaMgFnExactEngineOutputs24
import Derived.Test.YthaadgdeadbhkaaMgFnExactEngineOutputs27
namespace Go.Proofs.Ythaadgdeadbhkaa
open Go.RowKit
set_option linter.unusedVariables false
set_option linter.unusedSimpArgs false
structure AS (lo g : Nat) (m : AM) (u1 u2 : Value) (F1 F2 : List Nat) (w : World) : Prop where
  blk : Blk w g 29 #[.int .i64 m.p, u1, u2]
  s : (csteps m.st).own w F1 u1
  o : (cints m.outs).own w F2 u2
  l1 : ∀ y ∈ F1, lo ≤ y ∧ y ≠ g ∧ y ∉ F2
  l2 : ∀ y ∈ F2, lo ≤ y ∧ y ≠ g
  lg : lo ≤ g
def ASE (lo g : Nat) (m : AM) (w : World) : Prop := ∃ u1 u2 F1 F2, AS lo g m u1 u2 F1 F2 w
section
variable {lo g : Nat} {m : AM} {u1 u2 : Value} {F1 F2 : List Nat} {w w' : World}
theorem AS.grow (h : AS lo g m u1 u2 F1 F2 w) (k : w.grownBy w' none) : AS lo g m u1 u2 F1 F2 w' := ⟨h.blk.grow k, own_growK _ h.s k, own_growK _ h.o k, h.l1, h.l2, h.lg⟩
theorem ASE.grow (h : ASE lo g m w) (k : w.grownBy w' none) : ASE lo g m w' := by
  obtain ⟨u1, u2, F1, F2, h⟩ := h
  exact ⟨u1, u2, F1, F2, h.grow k⟩
theorem AS.chg {S : Nat → Prop} (h : AS lo g m u1 u2 F1 F2 w) (k : Chg S w w') (hs : ∀ y, S y → y < lo) : AS lo g m u1 u2 F1 F2 w' :=
  ⟨h.blk.chg k (fun e => by have := hs _ e; have := h.lg; omega), own_chgK _ h.s k (fun y hy e => by have := hs _ e; have := (h.l1 y hy).1; omega), own_chgK _ h.o k (fun y hy e => by have := hs _ e; have := (h.l2 y hy).1; omega), h.l1, h.l2, h.lg⟩
theorem ASE.chg {S : Nat → Prop} (h : ASE lo g m w) (k : Chg S w w') (hs : ∀ y, S y → y < lo) : ASE lo g m w' := by
  obtain ⟨u1, u2, F1, F2, h⟩ := h
  exact ⟨u1, u2, F1, F2, h.chg k hs⟩
theorem AS.steps {S : Nat → Prop} {l : List (Int × Int × Int)} {v : Value} {F : List Nat} (h : AS lo g m u1 u2 F1 F2 w) (k : Chg S w w') (hs : ∀ y, S y → y < lo ∨ y ∈ F1) (hv : (csteps l).own w' F v) (hF : ∀ y ∈ F, y ∈ F1 ∨ w.heap.size ≤ y) :
    AS lo g { m with st := l } v u2 F F2 (w'.setCell ⟨g, 1, none⟩ v) := by
  have hb := (h.blk.chg k (fun e => by
    rcases hs _ e with e | e
    · have := h.lg; omega
    · exact (h.l1 g e).2.1 rfl)).set_ 1 v
  have ho := own_chgK _ h.o k (fun y hy e => by
    rcases hs _ e with e | e
    · have := (h.l2 y hy).1; omega
    · exact (h.l1 y e).2.2 hy)
  have hl : ∀ y ∈ F, lo ≤ y ∧ y ≠ g ∧ y ∉ F2 := fun y hy => by
    rcases hF y hy with e | e
    · exact h.l1 y e
    · exact ⟨by have := h.blk.lt; have := h.lg; omega, fun e' => by have := h.blk.lt; omega, fun e' => by have := CS.lt _ h.o y e'; omega⟩
  exact ⟨by simpa using hb, own_setC _ hv g 1 (fun hx => (hl g hx).2.1 rfl) v, own_setC _ ho g 1 (fun hx => (h.l2 g hx).2 rfl) v, hl, h.l2, h.lg⟩
theorem AS.outs {S : Nat → Prop} {l : List Int} {v : Value} {F : List Nat} (h : AS lo g m u1 u2 F1 F2 w) (k : Chg S w w') (hs : ∀ y, S y → y < lo ∨ y ∈ F2) (hv : (cints l).own w' F v) (hF : ∀ y ∈ F, y ∈ F2 ∨ w.heap.size ≤ y) :
    AS lo g { m with outs := l } u1 v F1 F (w'.setCell ⟨g, 2, none⟩ v) := by
  have hb := (h.blk.chg k (fun e => by
    rcases hs _ e with e | e
    · have := h.lg; omega
    · exact (h.l2 g e).2 rfl)).set_ 2 v
  have ho := own_chgK _ h.s k (fun y hy e => by
    rcases hs _ e with e | e
    · have := (h.l1 y hy).1; omega
    · exact (h.l1 y hy).2.2 e)
  have hl : ∀ y ∈ F, lo ≤ y ∧ y ≠ g ∧ y ∉ F1 := fun y hy => by
    rcases hF y hy with e | e
    · exact ⟨(h.l2 y e).1, (h.l2 y e).2, fun e' => (h.l1 y e').2.2 e⟩
    · exact ⟨by have := h.blk.lt; have := h.lg; omega, fun e' => by have := h.blk.lt; omega, fun e' => by have := CS.lt _ h.s y e'; omega⟩
  exact ⟨by simpa using hb, own_setC _ ho g 2 (fun hx => (h.l1 g hx).2.1 rfl) v, own_setC _ hv g 2 (fun hx => (hl g hx).2.1 rfl) v, fun y hy => ⟨(h.l1 y hy).1, (h.l1 y hy).2.1, fun e => (hl y e).2.2 hy⟩, fun y hy => ⟨(hl y hy).1, (hl y hy).2.1⟩, h.lg⟩
end
end Go.Proofs.Ythaadgdeadbhkaa
/-
  A drawn arithmetic circuit: it is well-formed; its inputs fit.
-/
namespace Go.Proofs.Ythaadgdeadbhkaa
open Go.RowKit
set_option linter.unusedVariables false
set_option linter.unusedSimpArgs false
end Go.Proofs.Ythaadgdeadbhkaa
/-
  copyKeys, copyArith of the program.
-/
namespace Go.Proofs.Ythaadgdeadbhkaa
open Go.RowKit
set_option linter.unusedVariables false
set_option linter.unusedSimpArgs false
end Go.Proofs.Ythaadgdeadbhkaa
/-
  copyArith of the program.
-/
namespace Go.Proofs.Ythaadgdeadbhkaa
open Go.RowKit
set_option linter.unusedVariables false
set_option linter.unusedSimpArgs false
structure amwf (m : AM) : Prop where
  wf : m.wf
  st : m.st.length ≤ 1048576
  outs : m.outs.length ≤ 1048576
end Go.Proofs.Ythaadgdeadbhkaa
/-
  Authenticated values that are shares of a value: sums, products by constants, triples, openings. No program.
-/
namespace Go.Proofs.Ythaadgdeadbhkaa
set_option linter.unusedVariables false
set_option linter.unusedSimpArgs false
theorem em1 (p a : Int) : a % p % p = a % p := Int.emod_emod_of_dvd _ (Int.dvd_refl p)
theorem mm1 (p a b : Int) : (a % p * b) % p = (a * b) % p := by rw [Int.mul_emod, em1, ← Int.mul_emod]
theorem addS_sum (p : Int) : ∀ xs ys : List Int, xs.length = ys.length → fsum p (addS p xs ys) = (fsum p xs + fsum p ys) % p
  | [], [], _ => by simp [addS, fsum]
  | [], _ :: _, h => by simp at h
  | _ :: _, [], h => by simp at h
  | x :: xs, y :: ys, h => by
    have ih := addS_sum p xs ys (by simpa using h)
    unfold fsum addS at *
    simp only [List.zipWith_cons_cons, List.sum_cons]
    rw [Int.emod_add_emod, ← Int.add_emod_emod, ih, Int.add_emod_emod, Int.emod_add_emod, Int.add_emod_emod, ← Int.add_assoc, Int.add_emod_emod, ← Int.add_assoc]
    rw [show x + y + xs.sum % p + ys.sum = xs.sum % p + (x + y + ys.sum) by omega, Int.emod_add_emod]
    congr 1; omega
theorem mac_add (p u v x : Int) : ((u * x) % p + (v * x) % p) % p = ((u + v) % p * x) % p := by
  rw [mm1, Int.emod_add_emod, Int.add_emod_emod, Int.add_mul]
structure Good (k : KM) (a : AuM) (v : Int) : Prop where
  form : formB k a = true
  sh : fsum k.p a.sh = v
  mc : fsum k.p a.mc = (v * fsum k.p k.al) % k.p
theorem form_mk {k : KM} {a : AuM} (h : keysB k = true) (h1 : a.sh.length = k.al.length) (h2 : a.mc.length = k.al.length) (h3 : elemsB k.p a.sh = true) (h4 : elemsB k.p a.mc = true) : formB k a = true := by
  unfold formB formA
  rw [h, h1, h2, h3, h4]
  simp
theorem Good.rng {k : KM} {a : AuM} {v : Int} (h : Good k a v) : 0 ≤ v ∧ v < k.p := by
  obtain ⟨hk, _⟩ := form_is h.form
  obtain ⟨hf, _⟩ := keys_is hk
  have := fsum_rng (field_range hf).1 a.sh
  rw [h.sh] at this
  exact this
theorem form_add {k : KM} {a b : AuM} (ha : formB k a = true) (hb : formB k b = true) : authAdd k a b = ⟨addS k.p a.sh b.sh, addS k.p a.mc b.mc⟩ ∧ formB k (authAdd k a b) = true := by
  obtain ⟨hk, a1, a2, a3, a4, a5, a6, a7⟩ := form_is ha
  obtain ⟨_, b1, b2, b3, b4, _⟩ := form_is hb
  obtain ⟨hf, _⟩ := keys_is hk
  have e : authAdd k a b = ⟨addS k.p a.sh b.sh, addS k.p a.mc b.mc⟩ := by unfold authAdd; rw [ha, hb]; rfl
  refine ⟨e, ?_⟩
  rw [e]
  exact form_mk hk (by rw [addS_len (by omega)]; exact a1) (by rw [addS_len (by omega)]; exact a2) (addS_elems hf) (addS_elems hf)
theorem Good.add {k : KM} {a b : AuM} {u v : Int} (ha : Good k a u) (hb : Good k b v) : Good k (authAdd k a b) ((u + v) % k.p) := by
  obtain ⟨hk, a1, a2, a3, a4, a5, a6, a7⟩ := form_is ha.form
  obtain ⟨_, b1, b2, b3, b4, _⟩ := form_is hb.form
  obtain ⟨e, f⟩ := form_add ha.form hb.form
  refine ⟨f, ?_, ?_⟩
  · rw [e, addS_sum _ _ _ (by omega), ha.sh, hb.sh]
  · rw [e, addS_sum _ _ _ (by omega), ha.mc, hb.mc, mac_add]
theorem Good.new {k : KM} {P s a : Nat} {x : Int} (hk : keysB k = true) (hP : k.p = P) (hx : elemB k.p x = true) : Good k (authNew k P s a x) x := by
  obtain ⟨hf, he, n1, n5⟩ := keys_is hk
  obtain ⟨_, p2, p101, x0, x1⟩ := elemB_is hx
  have hT : ∀ a k', elemsB k.p (tapeL s a P k') = true := fun a k' => by rw [hP] at hf ⊢; exact elems_tape hf (by omega)
  have hl : ∀ (y : Int) (a : Nat), (shareL k.p y (tapeL s a P (k.al.length - 1))).length = k.al.length := fun y a => by rw [shareL_len, tapeL_len]; omega
  have hy : 0 ≤ (x * fsum k.p k.al) % k.p ∧ (x * fsum k.p k.al) % k.p < k.p := ⟨Int.emod_nonneg _ (by omega), Int.emod_lt_of_pos _ (by omega)⟩
  unfold authNew
  exact ⟨form_mk hk (hl _ _) (hl _ _) (shareL_elems (hT _ _)) (shareL_elems (hT _ _)), shareL_sum x0 x1, shareL_sum hy.1 hy.2⟩
structure GoodT (k : KM) (x : TrM) (u v : Int) : Prop where
  a : Good k x.a u
  b : Good k x.b v
  c : Good k x.c ((u * v) % k.p)
theorem GoodT.new {k : KM} {P s a : Nat} (hk : keysB k = true) (hP : k.p = P) : GoodT k (tripleNew k P s a) (tnA s a P) (tnB s a P) := by
  obtain ⟨hf, _⟩ := keys_is hk
  obtain ⟨p2, p101⟩ := field_range hf
  have h1 : ∀ a, elemB k.p ((belN s a P : Nat) : Int) = true := fun a => elemB_mk hf (by omega) (by have := belN_lt (s := s) (a := a) (n := P) (by omega); omega)
  unfold tripleNew
  exact ⟨Good.new hk hP (h1 _), Good.new hk hP (h1 _), Good.new hk hP (femod_elem hf _)⟩
end Go.Proofs.Ythaadgdeadbhkaa
