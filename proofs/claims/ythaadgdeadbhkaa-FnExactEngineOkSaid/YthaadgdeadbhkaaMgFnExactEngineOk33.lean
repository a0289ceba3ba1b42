/-
  Authenticated values that are shares of a value: sums, products by constants, triples, openings. No program.
-/
import Derived.Test.YthaadgdeadbhkaaMgFnExactEngineOk31
import Derived.Test.YthaadgdeadbhkaaMgFnExactEngineOk25
import Derived.Test.YthaadgdeadbhkaaMgFnExactEngineOk26
import Derived.Test.YthaadgdeadbhkaaMgFnExactEngineOk12
import Derived.Test.YthaadgdeadbhkaaMgFnExactEngineOk23
namespace Go.Proofs.Ythaadgdeadbhkaa
set_option linter.unusedVariables false
set_option linter.unusedSimpArgs false
theorem em1 (p a : Int) : a % p % p = a % p := Int.emod_emod_of_dvd _ (Int.dvd_refl p)
theorem mm1 (p a b : Int) : (a % p * b) % p = (a * b) % p := by rw [Int.mul_emod, em1, ← Int.mul_emod]
theorem addS_sum (p : Int) : ∀ xs ys : List Int, xs.length = ys.length → fsum p (addS p xs ys) = (fsum p xs + fsum p ys) % p
  | [], [], _ => by simp [addS, fsum]
  | [], _ :: _, h => by simp at h
  | _ :: _, [], h => by simp at h
  | x :: xs, y :: ys, h => by
    have ih := addS_sum p xs ys (by simpa using h)
    unfold fsum addS at *
    simp only [List.zipWith_cons_cons, List.sum_cons]
    rw [Int.emod_add_emod, ← Int.add_emod_emod, ih, Int.add_emod_emod, Int.emod_add_emod, Int.add_emod_emod, ← Int.add_assoc, Int.add_emod_emod, ← Int.add_assoc]
    rw [show x + y + xs.sum % p + ys.sum = xs.sum % p + (x + y + ys.sum) by omega, Int.emod_add_emod]
    congr 1; omega
theorem mac_add (p u v x : Int) : ((u * x) % p + (v * x) % p) % p = ((u + v) % p * x) % p := by
  rw [mm1, Int.emod_add_emod, Int.add_emod_emod, Int.add_mul]
structure Good (k : KM) (a : AuM) (v : Int) : Prop where
  form : formB k a = true
  sh : fsum k.p a.sh = v
  mc : fsum k.p a.mc = (v * fsum k.p k.al) % k.p
theorem form_mk {k : KM} {a : AuM} (h : keysB k = true) (h1 : a.sh.length = k.al.length) (h2 : a.mc.length = k.al.length) (h3 : elemsB k.p a.sh = true) (h4 : elemsB k.p a.mc = true) : formB k a = true := by
  unfold formB formA
  rw [h, h1, h2, h3, h4]
  simp
theorem Good.rng {k : KM} {a : AuM} {v : Int} (h : Good k a v) : 0 ≤ v ∧ v < k.p := by
  obtain ⟨hk, _⟩ := form_is h.form
  obtain ⟨hf, _⟩ := keys_is hk
  have := fsum_rng (field_range hf).1 a.sh
  rw [h.sh] at this
  exact this
theorem form_add {k : KM} {a b : AuM} (ha : formB k a = true) (hb : formB k b = true) : authAdd k a b = ⟨addS k.p a.sh b.sh, addS k.p a.mc b.mc⟩ ∧ formB k (authAdd k a b) = true := by
  obtain ⟨hk, a1, a2, a3, a4, a5, a6, a7⟩ := form_is ha
  obtain ⟨_, b1, b2, b3, b4, _⟩ := form_is hb
  obtain ⟨hf, _⟩ := keys_is hk
  have e : authAdd k a b = ⟨addS k.p a.sh b.sh, addS k.p a.mc b.mc⟩ := by unfold authAdd; rw [ha, hb]; rfl
  refine ⟨e, ?_⟩
  rw [e]
  exact form_mk hk (by rw [addS_len (by omega)]; exact a1) (by rw [addS_len (by omega)]; exact a2) (addS_elems hf) (addS_elems hf)
theorem Good.add {k : KM} {a b : AuM} {u v : Int} (ha : Good k a u) (hb : Good k b v) : Good k (authAdd k a b) ((u + v) % k.p) := by
  obtain ⟨hk, a1, a2, a3, a4, a5, a6, a7⟩ := form_is ha.form
  obtain ⟨_, b1, b2, b3, b4, _⟩ := form_is hb.form
  obtain ⟨e, f⟩ := form_add ha.form hb.form
  refine ⟨f, ?_, ?_⟩
  · rw [e, addS_sum _ _ _ (by omega), ha.sh, hb.sh]
  · rw [e, addS_sum _ _ _ (by omega), ha.mc, hb.mc, mac_add]
theorem Good.new {k : KM} {P s a : Nat} {x : Int} (hk : keysB k = true) (hP : k.p = P) (hx : elemB k.p x = true) : Good k (authNew k P s a x) x := by
  obtain ⟨hf, he, n1, n5⟩ := keys_is hk
  obtain ⟨_, p2, p101, x0, x1⟩ := elemB_is hx
  have hT : ∀ a k', elemsB k.p (tapeL s a P k') = true := fun a k' => by rw [hP] at hf ⊢; exact elems_tape hf (by omega)
  have hl : ∀ (y : Int) (a : Nat), (shareL k.p y (tapeL s a P (k.al.length - 1))).length = k.al.length := fun y a => by rw [shareL_len, tapeL_len]; omega
  have hy : 0 ≤ (x * fsum k.p k.al) % k.p ∧ (x * fsum k.p k.al) % k.p < k.p := ⟨Int.emod_nonneg _ (by omega), Int.emod_lt_of_pos _ (by omega)⟩
  unfold authNew
  exact ⟨form_mk hk (hl _ _) (hl _ _) (shareL_elems (hT _ _)) (shareL_elems (hT _ _)), shareL_sum x0 x1, shareL_sum hy.1 hy.2⟩
structure GoodT (k : KM) (x : TrM) (u v : Int) : Prop where
  a : Good k x.a u
  b : Good k x.b v
  c : Good k x.c ((u * v) % k.p)
theorem GoodT.new {k : KM} {P s a : Nat} (hk : keysB k = true) (hP : k.p = P) : GoodT k (tripleNew k P s a) (tnA s a P) (tnB s a P) := by
  obtain ⟨hf, _⟩ := keys_is hk
  obtain ⟨p2, p101⟩ := field_range hf
  have h1 : ∀ a, elemB k.p ((belN s a P : Nat) : Int) = true := fun a => elemB_mk hf (by omega) (by have := belN_lt (s := s) (a := a) (n := P) (by omega); omega)
  unfold tripleNew
  exact ⟨Good.new hk hP (h1 _), Good.new hk hP (h1 _), Good.new hk hP (femod_elem hf _)⟩
end Go.Proofs.Ythaadgdeadbhkaa
/-
  RoundsOf, MulsAt, ArithCost, UsedErrors: reference and program.
-/
namespace Go.Proofs.Ythaadgdeadbhkaa
open Go.RowKit
set_option linter.unusedVariables false
set_option linter.unusedSimpArgs false
def maxTo (l : List Int) : Nat → Int
  | 0 => 0
  | k + 1 => max (maxTo l k) (l.getD k 0)
noncomputable def rounds (m : AM) : Int := maxTo (mdepth m) (mdepth m).length
end Go.Proofs.Ythaadgdeadbhkaa
/-
  Depth and number of multiplications: plain law.
-/
namespace Go.Proofs.Ythaadgdeadbhkaa
open Go.RowKit
set_option linter.unusedVariables false
set_option linter.unusedSimpArgs false
end Go.Proofs.Ythaadgdeadbhkaa
/-
  The engine in rounds: a model by what it reads. No program.
-/
namespace Go.Proofs.Ythaadgdeadbhkaa
set_option linter.unusedVariables false
set_option linter.unusedSimpArgs false
structure EM where
  k : KM
  c : AM
  vs : List AuM
  op : List Int
  rd : Int
  bad : Bool
def getA (vs : List AuM) (i : Nat) : AuM := vs.getD i noA
def okV (k : KM) (v : AuM) : Bool := zeroA v || formB k v
noncomputable def engOkB (e : EM) : Bool := keysB e.k && arithB e.c && (e.k.p == e.c.p) && decide (e.vs.length = e.c.st.length) && inQ e.rd 0 60 && e.vs.all (okV e.k)
end Go.Proofs.Ythaadgdeadbhkaa
