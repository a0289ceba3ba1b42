/-
  RoundsOf, MulsAt, ArithCost, UsedErrors: reference and program.
-/
import Derived.Test.YthaadgdeadbhkaaMgFnExactEngineOutputs23
import Derived.Test.YthaadgdeadbhkaaMgFnExactEngineOutputs24
import Derived.Test.YthaadgdeadbhkaaMgFnExactEngineOutputs10
import Derived.Test.YthaadgdeadbhkaaMgFnExactEngineOutputs21
import Derived.Test.YthaadgdeadbhkaaMgFnExactEngineOutputs29
namespace Go.Proofs.Ythaadgdeadbhkaa
open Go.RowKit
set_option linter.unusedVariables false
set_option linter.unusedSimpArgs false
def maxTo (l : List Int) : Nat → Int
  | 0 => 0
  | k + 1 => max (maxTo l k) (l.getD k 0)
noncomputable def rounds (m : AM) : Int := maxTo (mdepth m) (mdepth m).length
noncomputable def mulsTo (m : AM) (d : Int) : Nat → List Int
  | 0 => []
  | k + 1 => mulsTo m d k ++ if (stAt m k).1 = 4 ∧ (mdepth m).getD k 0 = d then [(k : Int)] else []
noncomputable def mulsAt (m : AM) (d : Int) : List Int := mulsTo m d (mdepth m).length
theorem mdepth_len {m : AM} (h : AOk m) : (mdepth m).length = m.st.length := by rw [mdepth_yes h, depsS_len]
end Go.Proofs.Ythaadgdeadbhkaa
/-
  Depth and number of multiplications: plain law.
-/
namespace Go.Proofs.Ythaadgdeadbhkaa
open Go.RowKit
set_option linter.unusedVariables false
set_option linter.unusedSimpArgs false
theorem depsS_get (m : AM) : ∀ (k j : Nat), j < k → (depsS m k).getD j 0 = depD (depsS m j) (stAt m j)
  | 0, j, h => by omega
  | k + 1, j, h => by
    rw [depsS, List.getD_eq_getElem?_getD]
    by_cases e : j < k
    · rw [List.getElem?_append_left (by rw [depsS_len]; omega), ← List.getD_eq_getElem?_getD]
      exact depsS_get m k j e
    · obtain rfl : j = k := by omega
      rw [List.getElem?_append_right (by rw [depsS_len]; omega), depsS_len]
      simp
theorem depsS_pre (m : AM) {k j i : Nat} (h1 : i < j) (h2 : j ≤ k) : (depsS m j).getD i 0 = (depsS m k).getD i 0 := by
  rw [depsS_get m j i h1, depsS_get m k i (by omega)]
def depAt (m : AM) (j : Nat) : Int := (depsS m m.st.length).getD j 0
theorem depAt_md {m : AM} (h : AOk m) (j : Nat) : (mdepth m).getD j 0 = depAt m j := by rw [mdepth_yes h]; rfl
end Go.Proofs.Ythaadgdeadbhkaa
/-
  The engine in rounds: a model by what it reads. No program.
-/
namespace Go.Proofs.Ythaadgdeadbhkaa
set_option linter.unusedVariables false
set_option linter.unusedSimpArgs false
structure EM where
  k : KM
  c : AM
  vs : List AuM
  op : List Int
  rd : Int
  bad : Bool
def getA (vs : List AuM) (i : Nat) : AuM := vs.getD i noA
theorem getA_set (vs : List AuM) (i j : Nat) (x : AuM) : getA (vs.set i x) j = if i = j ∧ i < vs.length then x else getA vs j := by
  unfold getA
  rw [List.getD_eq_getElem?_getD, List.getD_eq_getElem?_getD, List.getElem?_set]
  by_cases e : i = j
  · subst e
    by_cases h : i < vs.length
    · simp [h]
    · simp [h]
  · simp [e]
theorem getA_out {vs : List AuM} {i : Nat} (h : vs.length ≤ i) : getA vs i = noA := by
  unfold getA
  rw [List.getD_eq_getElem?_getD, List.getElem?_eq_none h]; rfl
def okV (k : KM) (v : AuM) : Bool := zeroA v || formB k v
theorem form_nz {k : KM} {v : AuM} (h : formB k v = true) : zeroA v = false := by
  obtain ⟨_, h1, _, _, _, _, h2, _⟩ := form_is h
  unfold zeroA
  have : ¬ v.sh.length = 0 := by omega
  simp [this]
def addOk (c : AM) (vs : List AuM) (i : Nat) : Bool := ((stAt c i).1 == 3) && zeroA (getA vs i) && !zeroA (getA vs (stAt c i).2.1.toNat) && !zeroA (getA vs (stAt c i).2.2.toNat)
def addStep (k : KM) (c : AM) (vs : List AuM) (i : Nat) : List AuM :=
  if addOk c vs i then vs.set i (authAdd k (getA vs (stAt c i).2.1.toNat) (getA vs (stAt c i).2.2.toNat)) else vs
def addsTo (k : KM) (c : AM) (vs : List AuM) : Nat → List AuM
  | 0 => vs
  | i + 1 => addStep k c (addsTo k c vs i) i
noncomputable def engOkB (e : EM) : Bool := keysB e.k && arithB e.c && (e.k.p == e.c.p) && decide (e.vs.length = e.c.st.length) && inQ e.rd 0 60 && e.vs.all (okV e.k)
def errAt (es : List Int) (i : Nat) : Int := es.getD i 0
def tr0 : TrM := ⟨noA, noA, noA⟩
def trAt (ts : List TrM) (j : Nat) : TrM := ts.getD j tr0
def opA (e : EM) (i : Nat) : AuM := getA e.vs (stAt e.c i).2.1.toNat
def opB (e : EM) (i : Nat) : AuM := getA e.vs (stAt e.c i).2.2.toNat
def rD (e : EM) (x : TrM) (er : Int) (i : Nat) : Int := (openD e.k (opA e i) (opB e i) x + er) % e.k.p
def rE (e : EM) (x : TrM) (er : Int) (i : Nat) : Int := (openE e.k (opA e i) (opB e i) x + er) % e.k.p
def rBad (e : EM) (x : TrM) (D E : Int) (i : Nat) : Bool := !macCheck e.k D (minusA e.k (opA e i) x.a) || !macCheck e.k E (minusA e.k (opB e i) x.b)
def mulStep (e : EM) (x : TrM) (D E : Int) (i : Nat) (f : EM) : EM :=
  { f with vs := f.vs.set i (tripleUse e.k x D E), op := f.op ++ [D, E], bad := f.bad || rBad e x D E i }
def roundTo (e : EM) (ts : List TrM) (es : List Int) (ss : List Int) : Nat → EM
  | 0 => e
  | j + 1 => mulStep e (trAt ts j) (rD e (trAt ts j) (errAt es (2 * j)) (ss.getD j 0).toNat) (rE e (trAt ts j) (errAt es (2 * j + 1)) (ss.getD j 0).toNat) (ss.getD j 0).toNat (roundTo e ts es ss j)
def roundEnd (e f : EM) : EM := { f with vs := addsTo e.k e.c f.vs e.c.st.length, rd := e.rd + 1 }
noncomputable def mulsOf (e : EM) : List Int := mulsAt e.c (e.rd + 1)
theorem roundTo_fix (e : EM) (ts : List TrM) (es ss : List Int) : ∀ j, (roundTo e ts es ss j).k = e.k ∧ (roundTo e ts es ss j).c = e.c ∧ (roundTo e ts es ss j).rd = e.rd ∧ (roundTo e ts es ss j).vs.length = e.vs.length ∧ (roundTo e ts es ss j).op.length = e.op.length + 2 * j
  | 0 => ⟨rfl, rfl, rfl, rfl, rfl⟩
  | j + 1 => by
    obtain ⟨h1, h2, h3, h4, h5⟩ := roundTo_fix e ts es ss j
    refine ⟨h1, h2, h3, ?_, ?_⟩
    · show (List.set _ _ _).length = _
      rw [List.length_set]; exact h4
    · show (_ ++ [_, _]).length = _
      rw [List.length_append, h5]; simp; omega
def out1 (e : EM) (i : Nat) : Bool := !zeroA (getA e.vs i) && macCheck e.k (fsum e.k.p (getA e.vs i).sh) (getA e.vs i)
noncomputable def outB (e : EM) : Bool := engOkB e && !e.bad && e.c.outs.all fun z => out1 e z.toNat
noncomputable def outR (e : EM) : List Int := if outB e then e.c.outs.map fun z => fsum e.k.p (getA e.vs z.toNat).sh else []
end Go.Proofs.Ythaadgdeadbhkaa
