/-
  Authenticated values that are shares of a value: sums, products by constants, triples, openings. No program.
-/
import Derived.Test.YthaadgdeadbhkaaMgFnExactEngineNew27
import Derived.Test.YthaadgdeadbhkaaMgFnExactEngineNew19
import Derived.Test.YthaadgdeadbhkaaMgFnExactEngineNew8
import Derived.Test.YthaadgdeadbhkaaMgFnExactEngineNew17
import Derived.Test.YthaadgdeadbhkaaMgFnExactEngineNew28
namespace Go.Proofs.Ythaadgdeadbhkaa
set_option linter.unusedVariables false
set_option linter.unusedSimpArgs false
theorem em1 (p a : Int) : a % p % p = a % p := Int.emod_emod_of_dvd _ (Int.dvd_refl p)
theorem mm1 (p a b : Int) : (a % p * b) % p = (a * b) % p := by rw [Int.mul_emod, em1, ← Int.mul_emod]
theorem addS_sum (p : Int) : ∀ xs ys : List Int, xs.length = ys.length → fsum p (addS p xs ys) = (fsum p xs + fsum p ys) % p
  | [], [], _ => by simp [addS, fsum]
  | [], _ :: _, h => by simp at h
  | _ :: _, [], h => by simp at h
  | x :: xs, y :: ys, h => by
    have ih := addS_sum p xs ys (by simpa using h)
    unfold fsum addS at *
    simp only [List.zipWith_cons_cons, List.sum_cons]
    rw [Int.emod_add_emod, ← Int.add_emod_emod, ih, Int.add_emod_emod, Int.emod_add_emod, Int.add_emod_emod, ← Int.add_assoc, Int.add_emod_emod, ← Int.add_assoc]
    rw [show x + y + xs.sum % p + ys.sum = xs.sum % p + (x + y + ys.sum) by omega, Int.emod_add_emod]
    congr 1; omega
theorem mac_add (p u v x : Int) : ((u * x) % p + (v * x) % p) % p = ((u + v) % p * x) % p := by
  rw [mm1, Int.emod_add_emod, Int.add_emod_emod, Int.add_mul]
structure Good (k : KM) (a : AuM) (v : Int) : Prop where
  form : formB k a = true
  sh : fsum k.p a.sh = v
  mc : fsum k.p a.mc = (v * fsum k.p k.al) % k.p
theorem form_mk {k : KM} {a : AuM} (h : keysB k = true) (h1 : a.sh.length = k.al.length) (h2 : a.mc.length = k.al.length) (h3 : elemsB k.p a.sh = true) (h4 : elemsB k.p a.mc = true) : formB k a = true := by
  unfold formB formA
  rw [h, h1, h2, h3, h4]
  simp
theorem Good.rng {k : KM} {a : AuM} {v : Int} (h : Good k a v) : 0 ≤ v ∧ v < k.p := by
  obtain ⟨hk, _⟩ := form_is h.form
  obtain ⟨hf, _⟩ := keys_is hk
  have := fsum_rng (field_range hf).1 a.sh
  rw [h.sh] at this
  exact this
theorem form_add {k : KM} {a b : AuM} (ha : formB k a = true) (hb : formB k b = true) : authAdd k a b = ⟨addS k.p a.sh b.sh, addS k.p a.mc b.mc⟩ ∧ formB k (authAdd k a b) = true := by
  obtain ⟨hk, a1, a2, a3, a4, a5, a6, a7⟩ := form_is ha
  obtain ⟨_, b1, b2, b3, b4, _⟩ := form_is hb
  obtain ⟨hf, _⟩ := keys_is hk
  have e : authAdd k a b = ⟨addS k.p a.sh b.sh, addS k.p a.mc b.mc⟩ := by unfold authAdd; rw [ha, hb]; rfl
  refine ⟨e, ?_⟩
  rw [e]
  exact form_mk hk (by rw [addS_len (by omega)]; exact a1) (by rw [addS_len (by omega)]; exact a2) (addS_elems hf) (addS_elems hf)
theorem Good.add {k : KM} {a b : AuM} {u v : Int} (ha : Good k a u) (hb : Good k b v) : Good k (authAdd k a b) ((u + v) % k.p) := by
  obtain ⟨hk, a1, a2, a3, a4, a5, a6, a7⟩ := form_is ha.form
  obtain ⟨_, b1, b2, b3, b4, _⟩ := form_is hb.form
  obtain ⟨e, f⟩ := form_add ha.form hb.form
  refine ⟨f, ?_, ?_⟩
  · rw [e, addS_sum _ _ _ (by omega), ha.sh, hb.sh]
  · rw [e, addS_sum _ _ _ (by omega), ha.mc, hb.mc, mac_add]
theorem form_const {k : KM} {a : AuM} {c : Int} (ha : formB k a = true) (hc : elemB k.p c = true) : authConst k a c = ⟨cstS k.p a.sh c, addS k.p a.mc (sclS k.p k.al c)⟩ ∧ formB k (authConst k a c) = true := by
  obtain ⟨hk, a1, a2, a3, a4, a5, a6, a7⟩ := form_is ha
  obtain ⟨hf, _⟩ := keys_is hk
  have e : authConst k a c = ⟨cstS k.p a.sh c, addS k.p a.mc (sclS k.p k.al c)⟩ := by unfold authConst; rw [ha, hc]; rfl
  refine ⟨e, ?_⟩
  rw [e]
  exact form_mk hk (by rw [cstS_len]; exact a1) (by rw [addS_len (by rw [sclS_len]; omega)]; exact a2) (cstS_elems a3) (addS_elems hf)
theorem Good.new {k : KM} {P s a : Nat} {x : Int} (hk : keysB k = true) (hP : k.p = P) (hx : elemB k.p x = true) : Good k (authNew k P s a x) x := by
  obtain ⟨hf, he, n1, n5⟩ := keys_is hk
  obtain ⟨_, p2, p101, x0, x1⟩ := elemB_is hx
  have hT : ∀ a k', elemsB k.p (tapeL s a P k') = true := fun a k' => by rw [hP] at hf ⊢; exact elems_tape hf (by omega)
  have hl : ∀ (y : Int) (a : Nat), (shareL k.p y (tapeL s a P (k.al.length - 1))).length = k.al.length := fun y a => by rw [shareL_len, tapeL_len]; omega
  have hy : 0 ≤ (x * fsum k.p k.al) % k.p ∧ (x * fsum k.p k.al) % k.p < k.p := ⟨Int.emod_nonneg _ (by omega), Int.emod_lt_of_pos _ (by omega)⟩
  unfold authNew
  exact ⟨form_mk hk (hl _ _) (hl _ _) (shareL_elems (hT _ _)) (shareL_elems (hT _ _)), shareL_sum x0 x1, shareL_sum hy.1 hy.2⟩
theorem zero_sum (p : Int) (n : Nat) : fsum p (List.replicate n 0) = 0 := by
  have : (List.replicate n (0 : Int)).sum = 0 := by
    induction n with
    | zero => rfl
    | succ n ih => rw [List.replicate_succ, List.sum_cons, ih]; rfl
  unfold fsum
  rw [this, Int.zero_emod]
def zerosA (n : Nat) : AuM := ⟨List.replicate n 0, List.replicate n 0⟩
theorem Good.zeros {k : KM} (hk : keysB k = true) : Good k (zerosA k.al.length) 0 := by
  obtain ⟨hf, he, n1, n5⟩ := keys_is hk
  obtain ⟨p2, p101⟩ := field_range hf
  have hz : elemsB k.p (List.replicate k.al.length 0) = true := elemsB_mk hf fun z hz => by rw [List.eq_of_mem_replicate hz]; omega
  exact ⟨form_mk hk (by simp [zerosA]) (by simp [zerosA]) hz hz, zero_sum _ _, by rw [Int.zero_mul, Int.zero_emod]; exact zero_sum _ _⟩
structure GoodT (k : KM) (x : TrM) (u v : Int) : Prop where
  a : Good k x.a u
  b : Good k x.b v
  c : Good k x.c ((u * v) % k.p)
theorem GoodT.new {k : KM} {P s a : Nat} (hk : keysB k = true) (hP : k.p = P) : GoodT k (tripleNew k P s a) (tnA s a P) (tnB s a P) := by
  obtain ⟨hf, _⟩ := keys_is hk
  obtain ⟨p2, p101⟩ := field_range hf
  have h1 : ∀ a, elemB k.p ((belN s a P : Nat) : Int) = true := fun a => elemB_mk hf (by omega) (by have := belN_lt (s := s) (a := a) (n := P) (by omega); omega)
  unfold tripleNew
  exact ⟨Good.new hk hP (h1 _), Good.new hk hP (h1 _), Good.new hk hP (femod_elem hf _)⟩
end Go.Proofs.Ythaadgdeadbhkaa
/-
  RoundsOf, MulsAt, ArithCost, UsedErrors: reference and program.
-/
namespace Go.Proofs.Ythaadgdeadbhkaa
open Go.RowKit
set_option linter.unusedVariables false
set_option linter.unusedSimpArgs false
def maxTo (l : List Int) : Nat → Int
  | 0 => 0
  | k + 1 => max (maxTo l k) (l.getD k 0)
noncomputable def rounds (m : AM) : Int := maxTo (mdepth m) (mdepth m).length
noncomputable def mulsTo (m : AM) (d : Int) : Nat → List Int
  | 0 => []
  | k + 1 => mulsTo m d k ++ if (stAt m k).1 = 4 ∧ (mdepth m).getD k 0 = d then [(k : Int)] else []
noncomputable def mulsAt (m : AM) (d : Int) : List Int := mulsTo m d (mdepth m).length
theorem mdepth_len {m : AM} (h : AOk m) : (mdepth m).length = m.st.length := by rw [mdepth_yes h, depsS_len]
end Go.Proofs.Ythaadgdeadbhkaa
/-
  Depth and number of multiplications: plain law.
-/
namespace Go.Proofs.Ythaadgdeadbhkaa
open Go.RowKit
set_option linter.unusedVariables false
set_option linter.unusedSimpArgs false
theorem depsS_get (m : AM) : ∀ (k j : Nat), j < k → (depsS m k).getD j 0 = depD (depsS m j) (stAt m j)
  | 0, j, h => by omega
  | k + 1, j, h => by
    rw [depsS, List.getD_eq_getElem?_getD]
    by_cases e : j < k
    · rw [List.getElem?_append_left (by rw [depsS_len]; omega), ← List.getD_eq_getElem?_getD]
      exact depsS_get m k j e
    · obtain rfl : j = k := by omega
      rw [List.getElem?_append_right (by rw [depsS_len]; omega), depsS_len]
      simp
theorem depsS_pre (m : AM) {k j i : Nat} (h1 : i < j) (h2 : j ≤ k) : (depsS m j).getD i 0 = (depsS m k).getD i 0 := by
  rw [depsS_get m j i h1, depsS_get m k i (by omega)]
def depAt (m : AM) (j : Nat) : Int := (depsS m m.st.length).getD j 0
theorem depAt_md {m : AM} (h : AOk m) (j : Nat) : (mdepth m).getD j 0 = depAt m j := by rw [mdepth_yes h]; rfl
end Go.Proofs.Ythaadgdeadbhkaa
/-
  The engine in rounds: a model by what it reads. No program.
-/
namespace Go.Proofs.Ythaadgdeadbhkaa
set_option linter.unusedVariables false
set_option linter.unusedSimpArgs false
structure EM where
  k : KM
  c : AM
  vs : List AuM
  op : List Int
  rd : Int
  bad : Bool
def getA (vs : List AuM) (i : Nat) : AuM := vs.getD i noA
theorem getA_set (vs : List AuM) (i j : Nat) (x : AuM) : getA (vs.set i x) j = if i = j ∧ i < vs.length then x else getA vs j := by
  unfold getA
  rw [List.getD_eq_getElem?_getD, List.getD_eq_getElem?_getD, List.getElem?_set]
  by_cases e : i = j
  · subst e
    by_cases h : i < vs.length
    · simp [h]
    · simp [h]
  · simp [e]
theorem getA_out {vs : List AuM} {i : Nat} (h : vs.length ≤ i) : getA vs i = noA := by
  unfold getA
  rw [List.getD_eq_getElem?_getD, List.getElem?_eq_none h]; rfl
theorem zero_no : zeroA noA = true := rfl
def okV (k : KM) (v : AuM) : Bool := zeroA v || formB k v
theorem form_nz {k : KM} {v : AuM} (h : formB k v = true) : zeroA v = false := by
  obtain ⟨_, h1, _, _, _, _, h2, _⟩ := form_is h
  unfold zeroA
  have : ¬ v.sh.length = 0 := by omega
  simp [this]
theorem okV_sh {k : KM} {v : AuM} (h : okV k v = true) : decide (v.sh.length = 0) = zeroA v := by
  unfold okV at h
  cases hz : zeroA v
  · rw [hz, Bool.false_or] at h
    obtain ⟨_, h1, _, _, _, _, h2, _⟩ := form_is h
    have : ¬ v.sh.length = 0 := by omega
    simp [this]
  · unfold zeroA at hz
    rw [Bool.and_eq_true] at hz
    exact hz.1
def addOk (c : AM) (vs : List AuM) (i : Nat) : Bool := ((stAt c i).1 == 3) && zeroA (getA vs i) && !zeroA (getA vs (stAt c i).2.1.toNat) && !zeroA (getA vs (stAt c i).2.2.toNat)
def addStep (k : KM) (c : AM) (vs : List AuM) (i : Nat) : List AuM :=
  if addOk c vs i then vs.set i (authAdd k (getA vs (stAt c i).2.1.toNat) (getA vs (stAt c i).2.2.toNat)) else vs
def addsTo (k : KM) (c : AM) (vs : List AuM) : Nat → List AuM
  | 0 => vs
  | i + 1 => addStep k c (addsTo k c vs i) i
theorem addStep_len (k : KM) (c : AM) (vs : List AuM) (i : Nat) : (addStep k c vs i).length = vs.length := by
  unfold addStep
  split
  · rw [List.length_set]
  · rfl
theorem addsTo_len (k : KM) (c : AM) (vs : List AuM) : ∀ i, (addsTo k c vs i).length = vs.length
  | 0 => rfl
  | i + 1 => by rw [addsTo, addStep_len, addsTo_len]
theorem awf_at {vs : List AuM} (h : ∀ a ∈ vs, awf a) (i : Nat) : awf (getA vs i) := by
  unfold getA
  rw [List.getD_eq_getElem?_getD]
  cases hi : vs[i]? with
  | none => exact awf_no
  | some a => exact h a (List.mem_of_getElem? hi)
theorem adds_awf {k : KM} {c : AM} {vs : List AuM} (h : ∀ a ∈ vs, awf a) : ∀ i, ∀ a ∈ addsTo k c vs i, awf a
  | 0 => h
  | i + 1 => by
    have ih := adds_awf (k := k) (c := c) h i
    intro a ha
    rw [addsTo, addStep] at ha
    split at ha
    · rcases List.mem_or_eq_of_mem_set ha with h1 | h1
      · exact ih a h1
      · rw [h1]; exact awf_add (awf_at ih _)
    · exact ih a ha
def initV (k : KM) (c : AM) (P s : Nat) (ins : List Int) (i : Nat) : AuM :=
  if (stAt c i).1 = 1 then authNew k P (keyN s 9 i) 0 (ins.getD (stAt c i).2.1.toNat 0) else if (stAt c i).1 = 2 then authConst k (zerosA k.al.length) (stAt c i).2.1 else noA
def initL (k : KM) (c : AM) (P s : Nat) (ins : List Int) : List AuM := (List.range c.st.length).map (initV k c P s ins)
theorem initL_len (k : KM) (c : AM) (P s : Nat) (ins : List Int) : (initL k c P s ins).length = c.st.length := by simp [initL]
theorem initL_at (k : KM) (c : AM) (P s : Nat) (ins : List Int) {i : Nat} (h : i < c.st.length) : getA (initL k c P s ins) i = initV k c P s ins i := by
  unfold getA initL
  rw [List.getD_eq_getElem?_getD, List.getElem?_map, List.getElem?_range h]; rfl
def engNew (k : KM) (c : AM) (P s : Nat) (ins : List Int) : EM := ⟨k, c, addsTo k c (initL k c P s ins) c.st.length, [], 0, false⟩
noncomputable def engOkB (e : EM) : Bool := keysB e.k && arithB e.c && (e.k.p == e.c.p) && decide (e.vs.length = e.c.st.length) && inQ e.rd 0 60 && e.vs.all (okV e.k)
def errAt (es : List Int) (i : Nat) : Int := es.getD i 0
def tr0 : TrM := ⟨noA, noA, noA⟩
def trAt (ts : List TrM) (j : Nat) : TrM := ts.getD j tr0
def opA (e : EM) (i : Nat) : AuM := getA e.vs (stAt e.c i).2.1.toNat
def opB (e : EM) (i : Nat) : AuM := getA e.vs (stAt e.c i).2.2.toNat
def rD (e : EM) (x : TrM) (er : Int) (i : Nat) : Int := (openD e.k (opA e i) (opB e i) x + er) % e.k.p
def rE (e : EM) (x : TrM) (er : Int) (i : Nat) : Int := (openE e.k (opA e i) (opB e i) x + er) % e.k.p
def rBad (e : EM) (x : TrM) (D E : Int) (i : Nat) : Bool := !macCheck e.k D (minusA e.k (opA e i) x.a) || !macCheck e.k E (minusA e.k (opB e i) x.b)
def mulStep (e : EM) (x : TrM) (D E : Int) (i : Nat) (f : EM) : EM :=
  { f with vs := f.vs.set i (tripleUse e.k x D E), op := f.op ++ [D, E], bad := f.bad || rBad e x D E i }
def roundTo (e : EM) (ts : List TrM) (es : List Int) (ss : List Int) : Nat → EM
  | 0 => e
  | j + 1 => mulStep e (trAt ts j) (rD e (trAt ts j) (errAt es (2 * j)) (ss.getD j 0).toNat) (rE e (trAt ts j) (errAt es (2 * j + 1)) (ss.getD j 0).toNat) (ss.getD j 0).toNat (roundTo e ts es ss j)
def roundEnd (e f : EM) : EM := { f with vs := addsTo e.k e.c f.vs e.c.st.length, rd := e.rd + 1 }
noncomputable def mulsOf (e : EM) : List Int := mulsAt e.c (e.rd + 1)
theorem roundTo_fix (e : EM) (ts : List TrM) (es ss : List Int) : ∀ j, (roundTo e ts es ss j).k = e.k ∧ (roundTo e ts es ss j).c = e.c ∧ (roundTo e ts es ss j).rd = e.rd ∧ (roundTo e ts es ss j).vs.length = e.vs.length ∧ (roundTo e ts es ss j).op.length = e.op.length + 2 * j
  | 0 => ⟨rfl, rfl, rfl, rfl, rfl⟩
  | j + 1 => by
    obtain ⟨h1, h2, h3, h4, h5⟩ := roundTo_fix e ts es ss j
    refine ⟨h1, h2, h3, ?_, ?_⟩
    · show (List.set _ _ _).length = _
      rw [List.length_set]; exact h4
    · show (_ ++ [_, _]).length = _
      rw [List.length_append, h5]; simp; omega
def out1 (e : EM) (i : Nat) : Bool := !zeroA (getA e.vs i) && macCheck e.k (fsum e.k.p (getA e.vs i).sh) (getA e.vs i)
noncomputable def outB (e : EM) : Bool := engOkB e && !e.bad && e.c.outs.all fun z => out1 e z.toNat
noncomputable def outR (e : EM) : List Int := if outB e then e.c.outs.map fun z => fsum e.k.p (getA e.vs z.toNat).sh else []
end Go.Proofs.Ythaadgdeadbhkaa
/-
  An engine's nine cells: what they read as, whose they are.
-/
namespace Go.Proofs.Ythaadgdeadbhkaa
open Go.RowKit
set_option linter.unusedVariables false
set_option linter.unusedSimpArgs false
abbrev cengine (m : EM) : List CS := [ci m.k.p, cints m.k.al, ci m.c.p, csteps m.c.st, cints m.c.outs, cauths m.vs, cints m.op, ci m.rd, cb m.bad]
theorem stEngine : St Try.prog 36 9 := ⟨⟨_, Try.underlying36, rfl⟩, by kernel_rfl⟩
theorem elAuth : El Try.prog 34 44 (.agg #[.slice none 0 0, .slice none 0 0]) 2 48 := ⟨Try.underlying34, by kernel_rfl, rfl, by decide⟩
structure EngR (m : EM) (w : World) (A B C D E : Option Addr) (a b c d e : Nat) : Prop where
  ky : AggR w (ckeys m.k) (.agg #[.int .i64 m.k.p, .slice A m.k.al.length a])
  ar : AggR w (carith m.c) (.agg #[.int .i64 m.c.p, .slice B m.c.st.length b, .slice C m.c.outs.length c])
  stp : FL c3 3 w B m.c.st.length m.c.st
  ou : Ints w C m.c.outs.length m.c.outs
  va : (cauths m.vs).rd w (.slice D m.vs.length d)
  opn : (cints m.op).rd w (.slice E m.op.length e)
  al9 : AggR w (cengine m) (.agg #[.int .i64 m.k.p, .slice A m.k.al.length a, .int .i64 m.c.p, .slice B m.c.st.length b, .slice C m.c.outs.length c, .slice D m.vs.length d, .slice E m.op.length e, .int .i64 m.rd, .bool m.bad])
theorem EngR.grow {m : EM} {w w' : World} {A B C D E : Option Addr} {a b c d e : Nat} (h : EngR m w A B C D E a b c d e) (g : w.grownBy w' none) : EngR m w' A B C D E a b c d e :=
  ⟨h.ky.grow g, h.ar.grow g, FL.grow h.stp g, h.ou.grow g, CS.grow _ h.va g, CS.grow _ h.opn g, h.al9.grow g⟩
theorem cauths_form {w : World} {xs : List AuM} {v : Value} (h : (cauths xs).rd w v) : ∃ A c, v = .slice A xs.length c := by
  obtain ⟨A, c, _, e, _⟩ := lst_rd (s := 2) (fun _ => rfl) (by omega) h
  exact ⟨A, c, e⟩
theorem cengine_open {w : World} {m : EM} {v : Value} (h : AggR w (cengine m) v) : ∃ A B C D E a b c d e, v = .agg #[.int .i64 m.k.p, .slice A m.k.al.length a, .int .i64 m.c.p, .slice B m.c.st.length b, .slice C m.c.outs.length c, .slice D m.vs.length d, .slice E m.op.length e, .int .i64 m.rd, .bool m.bad] ∧ EngR m w A B C D E a b c d e := by
  have hall := h
  obtain ⟨vs, rfl, h⟩ := h
  obtain ⟨u0, vs0, rfl, h0, h⟩ := RdAll.head h
  obtain ⟨u1, vs1, rfl, h1, h⟩ := RdAll.head h
  obtain ⟨u2, vs2, rfl, h2, h⟩ := RdAll.head h
  obtain ⟨u3, vs3, rfl, h3, h⟩ := RdAll.head h
  obtain ⟨u4, vs4, rfl, h4, h⟩ := RdAll.head h
  obtain ⟨u5, vs5, rfl, h5, h⟩ := RdAll.head h
  obtain ⟨u6, vs6, rfl, h6, h⟩ := RdAll.head h
  obtain ⟨u7, vs7, rfl, h7, h⟩ := RdAll.head h
  obtain ⟨u8, vs8, rfl, h8, h⟩ := RdAll.head h
  obtain rfl := RdAll.none h
  obtain rfl := ci_rd h0
  obtain rfl := ci_rd h2
  obtain rfl := ci_rd h7
  obtain rfl := cb_rd h8
  obtain ⟨A, a, rfl, _, _, _⟩ := cints_rd h1
  obtain ⟨B, b, rfl, _, _, f3⟩ := plst_rd (s := 3) (fun _ => rfl) (by omega) h3
  obtain ⟨C, c, rfl, _, _, f4⟩ := cints_rd h4
  obtain ⟨D, d, rfl⟩ := cauths_form h5
  obtain ⟨E, e, rfl, _, _, _⟩ := cints_rd h6
  exact ⟨A, B, C, D, E, a, b, c, d, e, rfl, ckeys_mk h1, carith_mk h3 h4, f3, f4, h5, h6, hall⟩
theorem cengine_ty (m : EM) : ∀ c ∈ cengine m, tyd [3, 95, 44] c := by
  intro c hc
  simp only [List.mem_cons, List.not_mem_nil, or_false] at hc
  rcases hc with rfl | rfl | rfl | rfl | rfl | rfl | rfl | rfl | rfl
  · exact tyd_pl
  · exact tyd_plst (by simp)
  · exact tyd_pl
  · exact tyd_plst (by simp)
  · exact tyd_plst (by simp)
  · exact tyd_cauths (by simp) (by simp)
  · exact tyd_plst (by simp)
  · exact tyd_pl
  · exact tyd_pl
theorem cauths_nil (w : World) : (cauths []).own w [] (.slice none 0 0) := ⟨0, [], [], rfl, World.ownsRow_nil w 0 _ 2, OwnAll.nil w, rfl, by simp⟩
theorem SOF.eng {m : EM} {g : Nat} {F : List Nat} {w : World} (h : SOF 36 (cengine m) g F w) : ∃ A B C D E a b c d e, Blk w g 36 #[.int .i64 m.k.p, .slice A m.k.al.length a, .int .i64 m.c.p, .slice B m.c.st.length b, .slice C m.c.outs.length c, .slice D m.vs.length d, .slice E m.op.length e, .int .i64 m.rd, .bool m.bad] ∧ EngR m w A B C D E a b c d e := by
  obtain ⟨vs, h1, h2⟩ := h.agg
  obtain ⟨A, B, C, D, E, a, b, c, d, e, hv, hR⟩ := cengine_open h2.rd
  injection hv with hv
  rw [hv] at h1
  exact ⟨A, B, C, D, E, a, b, c, d, e, h1, hR⟩
theorem SOF.is {T : TypeId} {cs : List CS} {g : Nat} {F : List Nat} {w : World} {us : List Value} (h : SOF T cs g F w) (B : Blk w g T us.toArray) : AggO w cs F (.agg us.toArray) := by
  obtain ⟨vs, h1, h2⟩ := h.agg
  unfold Blk at h1 B
  rw [h1] at B
  injection B with B
  injection B with B
  rw [← B]
  exact h2
theorem cauths_push {xs : List AuM} {w : World} {F : List Nat} {v : Value} (h : (cauths xs).own w F v) :
    ∃ vs, w.ownsRow 0 44 2 v xs.length vs ∧ (∀ g, v.ownBlock = some g → g ∈ F) ∧ ∀ (w' : World) (v' u0 u1 : Value) (x : AuM) (Fx : List Nat), w'.ownsRow 0 44 2 v' (xs.length + 1) (vs ++ [u0, u1]) → w.grownBy w' v.ownBlock → (∀ g, v'.ownBlock = some g → some g = v.ownBlock ∨ w.heap.size ≤ g) → AggO w' (cauth x) Fx (.agg #[u0, u1]) → (∀ y ∈ Fx, y ∉ F) → (∀ g, v'.ownBlock = some g → g ∉ Fx) →
      ∃ F', (cauths (xs ++ [x])).own w' F' v' ∧ ∀ y ∈ F', y ∈ F ∨ w.heap.size ≤ y ∨ y ∈ Fx := by
  obtain ⟨n, vs, h1, h2, h3, h4⟩ := row_push h
  rw [flat_len (sz := 2) (fun _ => rfl)] at h1
  have hn := div_of (by omega) h1
  subst hn
  refine ⟨vs, h2, h3, fun w' v' u0 u1 x Fx ho hg hv hx hd hd2 => ?_⟩
  obtain ⟨us, Ds, e, h5, rfl⟩ := hx
  injection e with e
  have e : us = [u0, u1] := by have := congrArg Array.toList e; simpa using this.symm
  subst e
  obtain ⟨F', k1, k2⟩ := h4 w' v' 1 [u0, u1] (cauth x) Ds rfl ho hg hv h5 hd hd2
  exact ⟨F', by rw [cauths, lst, List.flatMap_append]; simpa using k1, k2⟩
theorem autF.own {lo : Nat} {m : AuM} {v : Value} {w : World} (h : autF lo m v w) : ∃ A n c B k d F, v = .agg #[.slice A n c, .slice B k d] ∧ AggO w (cauth m) F (.agg #[.slice A n c, .slice B k d]) ∧ ∀ g ∈ F, lo ≤ g := by
  obtain ⟨A, n, c, B, k, d, rfl⟩ := h.form
  obtain ⟨F, h1, h2⟩ := h
  exact ⟨A, n, c, B, k, d, F, rfl, h1, h2⟩
theorem SOF.val {m : EM} {g : Nat} {F : List Nat} {w : World} (h : SOF 36 (cengine m) g F w) :
    ∃ D d F5, w.cell? ⟨g, 5, none⟩ = some (.slice D m.vs.length d) ∧ w.frozen? ⟨g, 5, none⟩ = false ∧ (cauths m.vs).own w F5 (.slice D m.vs.length d) ∧ (∀ x ∈ F5, x ∈ F) ∧ g ∉ F5 ∧ (∀ x ∈ F5, x < w.heap.size) ∧
      (∀ (w' : World) (l : List AuM) (u' : Value) (F' : List Nat), Chg (fun x => x ∈ F5) w w' → (cauths l).own w' F' u' → (∀ x ∈ F', x ∈ F5 ∨ w.heap.size ≤ x) → ∃ F'', SOF 36 (cengine { m with vs := l }) g F'' (w'.setCell ⟨g, 5, none⟩ u') ∧ ∀ x ∈ F'', x ∈ F ∨ w.heap.size ≤ x) ∧
      (∀ (w' : World) (l : List AuM) (F' : List Nat), Chg (fun x => x ∈ F5) w w' → (cauths l).own w' F' (.slice D m.vs.length d) → (∀ x ∈ F', x ∈ F5 ∨ w.heap.size ≤ x) → ∃ F'', SOF 36 (cengine { m with vs := l }) g F'' w' ∧ ∀ x ∈ F'', x ∈ F ∨ w.heap.size ≤ x) := by
  obtain ⟨u, F5, h1, h2, h3, h4, h5, h6, h7⟩ := h.at_ (i := 5) (c := cauths m.vs) rfl
  obtain ⟨D, d, rfl⟩ := cauths_form (CS.toRd _ h3)
  exact ⟨D, d, F5, h1, h2, h3, h4, h5, CS.lt _ h3, fun w' l u' F' a b c => h6 w' (cauths l) u' F' a b c, fun w' l F' a b c => h7 w' (cauths l) F' a b c⟩
theorem SOF.opn {m : EM} {g : Nat} {F : List Nat} {w : World} (h : SOF 36 (cengine m) g F w) :
    ∃ E e F6, w.cell? ⟨g, 6, none⟩ = some (.slice E m.op.length e) ∧ w.frozen? ⟨g, 6, none⟩ = false ∧ (cints m.op).own w F6 (.slice E m.op.length e) ∧ (∀ x ∈ F6, x ∈ F) ∧ g ∉ F6 ∧ (∀ x ∈ F6, x < w.heap.size) ∧
      (∀ (w' : World) (l : List Int) (u' : Value) (F' : List Nat), Chg (fun x => x ∈ F6) w w' → (cints l).own w' F' u' → (∀ x ∈ F', x ∈ F6 ∨ w.heap.size ≤ x) → ∃ F'', SOF 36 (cengine { m with op := l }) g F'' (w'.setCell ⟨g, 6, none⟩ u') ∧ ∀ x ∈ F'', x ∈ F ∨ w.heap.size ≤ x) := by
  obtain ⟨u, F6, h1, h2, h3, h4, h5, h6, h7⟩ := h.at_ (i := 6) (c := cints m.op) rfl
  obtain ⟨E, e, rfl, _⟩ := cints_rd (CS.toRd _ h3)
  exact ⟨E, e, F6, h1, h2, h3, h4, h5, CS.lt _ h3, fun w' l u' F' a b c => h6 w' (cints l) u' F' a b c⟩
theorem getA_at {xs : List AuM} {i : Nat} (h : i < xs.length) : xs[i]? = some (getA xs i) := by
  unfold getA
  rw [List.getD_eq_getElem?_getD, List.getElem?_eq_getElem h]; rfl
theorem cauths_el {xs : List AuM} {w : World} {F : List Nat} {g n c : Nat} (h : (cauths xs).own w F (.slice (some ⟨g, 0, none⟩) n c)) {i : Nat} (hi : i < xs.length) :
    ∃ B d C f, w.cell? ⟨g, i * 2, none⟩ = some (.slice B (getA xs i).sh.length d) ∧ w.cell? ⟨g, i * 2 + 1, none⟩ = some (.slice C (getA xs i).mc.length f) ∧ w.frozen? ⟨g, i * 2, none⟩ = false ∧ w.frozen? ⟨g, i * 2 + 1, none⟩ = false ∧ AggR w (cauth (getA xs i)) (.agg #[.slice B (getA xs i).sh.length d, .slice C (getA xs i).mc.length f]) := by
  have hx := getA_at hi
  have h0 : (xs.flatMap cauth)[i * 2]? = some (cints (getA xs i).sh) := by
    have := flat_get (sz := 2) (F := cauth) (fun _ => rfl) xs i 0 (by omega)
    rw [hx] at this
    exact this
  have h1 : (xs.flatMap cauth)[i * 2 + 1]? = some (cints (getA xs i).mc) := by
    have := flat_get (sz := 2) (F := cauth) (fun _ => rfl) xs i 1 (by omega)
    rw [hx] at this
    exact this
  obtain ⟨u0, F0, a1, a2, a3, _⟩ := row_cell h h0
  obtain ⟨u1, F1, b1, b2, b3, _⟩ := row_cell h h1
  obtain ⟨B, d, rfl, _⟩ := cints_rd (CS.toRd _ a3)
  obtain ⟨C, f, rfl, _⟩ := cints_rd (CS.toRd _ b3)
  exact ⟨B, d, C, f, a1, b1, a2, b2, cauth_mk (CS.toRd _ a3) (CS.toRd _ b3)⟩
theorem cauths_ptr {xs : List AuM} {w : World} {F : List Nat} {D : Option Addr} {n c : Nat} (h : (cauths xs).own w F (.slice D n c)) (hi : 0 < xs.length) : ∃ gv, D = some ⟨gv, 0, none⟩ ∧ gv ∈ F := by
  obtain ⟨g, n', c', e, hg⟩ := row_own_slice (by omega) h (by rw [flat_len (sz := 2) (fun _ => rfl)]; omega)
  injection e with e
  exact ⟨g, e, hg⟩
theorem EngR.of {m : EM} {w : World} {A B C D E : Option Addr} {a b c d e n1 n2 n3 n4 n5 : Nat} (h : AggR w (cengine m) (.agg #[.int .i64 m.k.p, .slice A n1 a, .int .i64 m.c.p, .slice B n2 b, .slice C n3 c, .slice D n4 d, .slice E n5 e, .int .i64 m.rd, .bool m.bad])) :
    n1 = m.k.al.length ∧ n2 = m.c.st.length ∧ n3 = m.c.outs.length ∧ n4 = m.vs.length ∧ n5 = m.op.length ∧ EngR m w A B C D E a b c d e := by
  obtain ⟨A', B', C', D', E', a', b', c', d', e', hv, hR⟩ := cengine_open h
  injection hv with hv
  have hv := Array.toList_inj.2 hv
  simp only [List.cons.injEq, Value.slice.injEq, and_true, true_and] at hv
  obtain ⟨⟨rfl, rfl, rfl⟩, ⟨rfl, rfl, rfl⟩, ⟨rfl, rfl, rfl⟩, ⟨rfl, rfl, rfl⟩, ⟨rfl, rfl, rfl⟩⟩ := hv
  exact ⟨rfl, rfl, rfl, rfl, rfl, hR⟩
end Go.Proofs.Ythaadgdeadbhkaa
