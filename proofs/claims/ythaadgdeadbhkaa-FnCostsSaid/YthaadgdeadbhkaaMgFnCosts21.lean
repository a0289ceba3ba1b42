/-
  Depth and number of multiplications: plain law.
-/
import Derived.Test.YthaadgdeadbhkaaMgFnCosts20
import Derived.Test.YthaadgdeadbhkaaMgFnCosts10
import Derived.Test.YthaadgdeadbhkaaMgFnCosts13
namespace Go.Proofs.Ythaadgdeadbhkaa
open Go.RowKit
set_option linter.unusedVariables false
set_option linter.unusedSimpArgs false
theorem depsS_get (m : AM) : ∀ (k j : Nat), j < k → (depsS m k).getD j 0 = depD (depsS m j) (stAt m j)
  | 0, j, h => by omega
  | k + 1, j, h => by
    rw [depsS, List.getD_eq_getElem?_getD]
    by_cases e : j < k
    · rw [List.getElem?_append_left (by rw [depsS_len]; omega), ← List.getD_eq_getElem?_getD]
      exact depsS_get m k j e
    · obtain rfl : j = k := by omega
      rw [List.getElem?_append_right (by rw [depsS_len]; omega), depsS_len]
      simp
theorem depsS_pre (m : AM) {k j i : Nat} (h1 : i < j) (h2 : j ≤ k) : (depsS m j).getD i 0 = (depsS m k).getD i 0 := by
  rw [depsS_get m j i h1, depsS_get m k i (by omega)]
def depAt (m : AM) (j : Nat) : Int := (depsS m m.st.length).getD j 0
theorem maxTo_ge : ∀ (l : List Int) (k j : Nat), j < k → l.getD j 0 ≤ maxTo l k
  | l, 0, j, h => by omega
  | l, k + 1, j, h => by
    rw [maxTo]
    by_cases e : j < k
    · have := maxTo_ge l k j e
      omega
    · obtain rfl : j = k := by omega
      omega
theorem depAt_md {m : AM} (h : AOk m) (j : Nat) : (mdepth m).getD j 0 = depAt m j := by rw [mdepth_yes h]; rfl
theorem mul_dep {m : AM} (h : AOk m) {j : Nat} (hj : j < m.st.length) (h4 : (stAt m j).1 = 4) : 1 ≤ depAt m j ∧ depAt m j ≤ rounds m := by
  constructor
  · unfold depAt
    rw [depsS_get m _ j hj]
    unfold depD
    have h3 : ¬ (stAt m j).1 = 3 := by omega
    rw [if_neg h3, if_pos h4]
    have := (depsS_bd m j (stAt m j).2.1.toNat).1
    omega
  · unfold rounds
    rw [← depAt_md h]
    exact maxTo_ge _ _ _ (by rw [mdepth_len h]; exact hj)
noncomputable def totTo (m : AM) (k : Nat) : Nat → Nat
  | 0 => 0
  | r + 1 => totTo m k r + (mulsTo m ((r : Int) + 1) k).length
theorem totTo_zero (m : AM) : ∀ r, totTo m 0 r = 0
  | 0 => rfl
  | r + 1 => by rw [totTo, totTo_zero m r]; rfl
theorem totTo_succ (m : AM) (k : Nat) : ∀ r : Nat, totTo m (k + 1) r = totTo m k r + if (stAt m k).1 = 4 ∧ 1 ≤ (mdepth m).getD k 0 ∧ (mdepth m).getD k 0 ≤ r then 1 else 0
  | 0 => by
    have : ¬ ((stAt m k).1 = 4 ∧ 1 ≤ (mdepth m).getD k 0 ∧ (mdepth m).getD k 0 ≤ ((0 : Nat) : Int)) := by omega
    rw [if_neg this]
    rfl
  | r + 1 => by
    have hl : (if (stAt m k).1 = 4 ∧ (mdepth m).getD k 0 = (r : Int) + 1 then [(k : Int)] else []).length = if (stAt m k).1 = 4 ∧ (mdepth m).getD k 0 = (r : Int) + 1 then 1 else 0 := by split <;> rfl
    rw [totTo, totTo, totTo_succ m k r, mulsTo, List.length_append, hl]
    generalize (mdepth m).getD k 0 = D
    rw [show (((r + 1 : Nat)) : Int) = (r : Int) + 1 from rfl]
    split <;> split <;> split <;> omega
theorem totTo_all {m : AM} (h : AOk m) {r : Nat} (hr : rounds m = r) : ∀ k, k ≤ m.st.length → totTo m k r = muls m.st k
  | 0, _ => by rw [totTo_zero, muls_zero]
  | k + 1, hk => by
    have hlt : k < m.st.length := hk
    have hx : m.st[k]? = some (stAt m k) := by unfold stAt; rw [List.getD_eq_getElem?_getD, List.getElem?_eq_getElem hlt]; rfl
    rw [totTo_succ, totTo_all h hr k (by omega), muls_succ _ _ _ hx]
    congr 1
    by_cases h4 : (stAt m k).1 = 4
    · have := mul_dep h hlt h4
      rw [depAt_md h, if_pos (by omega)]
      simp [h4]
    · rw [if_neg (by omega)]
      simp [h4]
theorem tot_is {m : AM} (h : AOk m) {r : Nat} (hr : rounds m = r) : totTo m (mdepth m).length r = muls m.st m.st.length := by
  rw [mdepth_len h]
  exact totTo_all h hr _ (Nat.le_refl _)
theorem totTo_next (m : AM) (r : Nat) : totTo m (mdepth m).length (r + 1) = totTo m (mdepth m).length r + (mulsAt m ((r : Int) + 1)).length := rfl
theorem totTo_le (m : AM) {r s : Nat} (h : r ≤ s) : totTo m (mdepth m).length r ≤ totTo m (mdepth m).length s := by
  induction s with
  | zero => have : r = 0 := by omega
            subst this; exact Nat.le_refl _
  | succ s ih =>
    by_cases e : r = s + 1
    · subst e; exact Nat.le_refl _
    · have := ih (by omega)
      rw [totTo_next]
      omega
end Go.Proofs.Ythaadgdeadbhkaa
/-
  The engine in rounds: a model by what it reads. No program.
-/
namespace Go.Proofs.Ythaadgdeadbhkaa
set_option linter.unusedVariables false
set_option linter.unusedSimpArgs false
structure EM where
  k : KM
  c : AM
  vs : List AuM
  op : List Int
  rd : Int
  bad : Bool
def getA (vs : List AuM) (i : Nat) : AuM := vs.getD i noA
theorem getA_set (vs : List AuM) (i j : Nat) (x : AuM) : getA (vs.set i x) j = if i = j ∧ i < vs.length then x else getA vs j := by
  unfold getA
  rw [List.getD_eq_getElem?_getD, List.getD_eq_getElem?_getD, List.getElem?_set]
  by_cases e : i = j
  · subst e
    by_cases h : i < vs.length
    · simp [h]
    · simp [h]
  · simp [e]
theorem getA_out {vs : List AuM} {i : Nat} (h : vs.length ≤ i) : getA vs i = noA := by
  unfold getA
  rw [List.getD_eq_getElem?_getD, List.getElem?_eq_none h]; rfl
theorem zero_no : zeroA noA = true := rfl
def okV (k : KM) (v : AuM) : Bool := zeroA v || formB k v
theorem form_nz {k : KM} {v : AuM} (h : formB k v = true) : zeroA v = false := by
  obtain ⟨_, h1, _, _, _, _, h2, _⟩ := form_is h
  unfold zeroA
  have : ¬ v.sh.length = 0 := by omega
  simp [this]
theorem okV_sh {k : KM} {v : AuM} (h : okV k v = true) : decide (v.sh.length = 0) = zeroA v := by
  unfold okV at h
  cases hz : zeroA v
  · rw [hz, Bool.false_or] at h
    obtain ⟨_, h1, _, _, _, _, h2, _⟩ := form_is h
    have : ¬ v.sh.length = 0 := by omega
    simp [this]
  · unfold zeroA at hz
    rw [Bool.and_eq_true] at hz
    exact hz.1
def addOk (c : AM) (vs : List AuM) (i : Nat) : Bool := ((stAt c i).1 == 3) && zeroA (getA vs i) && !zeroA (getA vs (stAt c i).2.1.toNat) && !zeroA (getA vs (stAt c i).2.2.toNat)
def addStep (k : KM) (c : AM) (vs : List AuM) (i : Nat) : List AuM :=
  if addOk c vs i then vs.set i (authAdd k (getA vs (stAt c i).2.1.toNat) (getA vs (stAt c i).2.2.toNat)) else vs
def addsTo (k : KM) (c : AM) (vs : List AuM) : Nat → List AuM
  | 0 => vs
  | i + 1 => addStep k c (addsTo k c vs i) i
theorem addStep_len (k : KM) (c : AM) (vs : List AuM) (i : Nat) : (addStep k c vs i).length = vs.length := by
  unfold addStep
  split
  · rw [List.length_set]
  · rfl
theorem addsTo_len (k : KM) (c : AM) (vs : List AuM) : ∀ i, (addsTo k c vs i).length = vs.length
  | 0 => rfl
  | i + 1 => by rw [addsTo, addStep_len, addsTo_len]
theorem awf_at {vs : List AuM} (h : ∀ a ∈ vs, awf a) (i : Nat) : awf (getA vs i) := by
  unfold getA
  rw [List.getD_eq_getElem?_getD]
  cases hi : vs[i]? with
  | none => exact awf_no
  | some a => exact h a (List.mem_of_getElem? hi)
theorem adds_awf {k : KM} {c : AM} {vs : List AuM} (h : ∀ a ∈ vs, awf a) : ∀ i, ∀ a ∈ addsTo k c vs i, awf a
  | 0 => h
  | i + 1 => by
    have ih := adds_awf (k := k) (c := c) h i
    intro a ha
    rw [addsTo, addStep] at ha
    split at ha
    · rcases List.mem_or_eq_of_mem_set ha with h1 | h1
      · exact ih a h1
      · rw [h1]; exact awf_add (awf_at ih _)
    · exact ih a ha
def initV (k : KM) (c : AM) (P s : Nat) (ins : List Int) (i : Nat) : AuM :=
  if (stAt c i).1 = 1 then authNew k P (keyN s 9 i) 0 (ins.getD (stAt c i).2.1.toNat 0) else if (stAt c i).1 = 2 then authConst k (zerosA k.al.length) (stAt c i).2.1 else noA
def initL (k : KM) (c : AM) (P s : Nat) (ins : List Int) : List AuM := (List.range c.st.length).map (initV k c P s ins)
theorem initL_len (k : KM) (c : AM) (P s : Nat) (ins : List Int) : (initL k c P s ins).length = c.st.length := by simp [initL]
theorem initL_at (k : KM) (c : AM) (P s : Nat) (ins : List Int) {i : Nat} (h : i < c.st.length) : getA (initL k c P s ins) i = initV k c P s ins i := by
  unfold getA initL
  rw [List.getD_eq_getElem?_getD, List.getElem?_map, List.getElem?_range h]; rfl
def engNew (k : KM) (c : AM) (P s : Nat) (ins : List Int) : EM := ⟨k, c, addsTo k c (initL k c P s ins) c.st.length, [], 0, false⟩
noncomputable def engOkB (e : EM) : Bool := keysB e.k && arithB e.c && (e.k.p == e.c.p) && decide (e.vs.length = e.c.st.length) && inQ e.rd 0 60 && e.vs.all (okV e.k)
def errAt (es : List Int) (i : Nat) : Int := es.getD i 0
def tr0 : TrM := ⟨noA, noA, noA⟩
def trAt (ts : List TrM) (j : Nat) : TrM := ts.getD j tr0
def opA (e : EM) (i : Nat) : AuM := getA e.vs (stAt e.c i).2.1.toNat
def opB (e : EM) (i : Nat) : AuM := getA e.vs (stAt e.c i).2.2.toNat
def rD (e : EM) (x : TrM) (er : Int) (i : Nat) : Int := (openD e.k (opA e i) (opB e i) x + er) % e.k.p
def rE (e : EM) (x : TrM) (er : Int) (i : Nat) : Int := (openE e.k (opA e i) (opB e i) x + er) % e.k.p
def rBad (e : EM) (x : TrM) (D E : Int) (i : Nat) : Bool := !macCheck e.k D (minusA e.k (opA e i) x.a) || !macCheck e.k E (minusA e.k (opB e i) x.b)
def mulStep (e : EM) (x : TrM) (D E : Int) (i : Nat) (f : EM) : EM :=
  { f with vs := f.vs.set i (tripleUse e.k x D E), op := f.op ++ [D, E], bad := f.bad || rBad e x D E i }
def roundTo (e : EM) (ts : List TrM) (es : List Int) (ss : List Int) : Nat → EM
  | 0 => e
  | j + 1 => mulStep e (trAt ts j) (rD e (trAt ts j) (errAt es (2 * j)) (ss.getD j 0).toNat) (rE e (trAt ts j) (errAt es (2 * j + 1)) (ss.getD j 0).toNat) (ss.getD j 0).toNat (roundTo e ts es ss j)
def roundEnd (e f : EM) : EM := { f with vs := addsTo e.k e.c f.vs e.c.st.length, rd := e.rd + 1 }
noncomputable def mulsOf (e : EM) : List Int := mulsAt e.c (e.rd + 1)
def tripOk (e : EM) (x : TrM) (i : Nat) : Bool := formB e.k x.a && formB e.k x.b && formB e.k x.c && !zeroA (opA e i) && !zeroA (opB e i)
noncomputable def mayB (e : EM) (ts : List TrM) (es : List Int) : Bool :=
  engOkB e && !e.bad && decide (e.rd < rounds e.c) && decide ((mulsOf e).length ≤ ts.length) && elemsB e.k.p es && (List.range (mulsOf e).length).all fun j => tripOk e (trAt ts j) ((mulsOf e).getD j 0).toNat
noncomputable def engRound (e : EM) (ts : List TrM) (es : List Int) : EM := if mayB e ts es then roundEnd e (roundTo e ts es (mulsOf e) (mulsOf e).length) else e
theorem roundTo_fix (e : EM) (ts : List TrM) (es ss : List Int) : ∀ j, (roundTo e ts es ss j).k = e.k ∧ (roundTo e ts es ss j).c = e.c ∧ (roundTo e ts es ss j).rd = e.rd ∧ (roundTo e ts es ss j).vs.length = e.vs.length ∧ (roundTo e ts es ss j).op.length = e.op.length + 2 * j
  | 0 => ⟨rfl, rfl, rfl, rfl, rfl⟩
  | j + 1 => by
    obtain ⟨h1, h2, h3, h4, h5⟩ := roundTo_fix e ts es ss j
    refine ⟨h1, h2, h3, ?_, ?_⟩
    · show (List.set _ _ _).length = _
      rw [List.length_set]; exact h4
    · show (_ ++ [_, _]).length = _
      rw [List.length_append, h5]; simp; omega
def out1 (e : EM) (i : Nat) : Bool := !zeroA (getA e.vs i) && macCheck e.k (fsum e.k.p (getA e.vs i).sh) (getA e.vs i)
noncomputable def outB (e : EM) : Bool := engOkB e && !e.bad && e.c.outs.all fun z => out1 e z.toNat
noncomputable def outR (e : EM) : List Int := if outB e then e.c.outs.map fun z => fsum e.k.p (getA e.vs z.toNat).sh else []
def trW (k : KM) : Nat := 2 + 6 * (k.al.length - 1)
noncomputable def totM (c : AM) (r : Nat) : Nat := totTo c (mdepth c).length r
noncomputable def nAt (c : AM) (r : Nat) : Nat := (mulsAt c ((r : Int) + 1)).length
def trsN (k : KM) (P s a n : Nat) : List TrM := (List.range n).map fun i => tripleNew k P s (a + i * trW k)
theorem trsN_len (k : KM) (P s a n : Nat) : (trsN k P s a n).length = n := by simp [trsN]
theorem trsN_at {k : KM} {P s a n j : Nat} (h : j < n) : trAt (trsN k P s a n) j = tripleNew k P s (a + j * trW k) := by
  unfold trAt trsN
  rw [List.getD_eq_getElem?_getD, List.getElem?_map, List.getElem?_range h]; rfl
theorem trsN_succ (k : KM) (P s a n : Nat) : trsN k P s a (n + 1) = trsN k P s a n ++ [tripleNew k P s (a + n * trW k)] := by
  unfold trsN; rw [List.range_succ, List.map_append]; rfl
def errsN (es : List Int) (from_ n : Nat) : List Int := (es.drop from_).take n
noncomputable def engAt (k : KM) (c : AM) (P s1 s2 : Nat) (ins es : List Int) : Nat → EM
  | 0 => engNew k c P s1 ins
  | r + 1 => engRound (engAt k c P s1 s2 ins es r) (trsN k P s2 (totM c r * trW k) (nAt c r)) (errsN es (2 * totM c r) (2 * nAt c r))
end Go.Proofs.Ythaadgdeadbhkaa
/-
  An engine's nine cells: what they read as, whose they are.
-/
namespace Go.Proofs.Ythaadgdeadbhkaa
open Go.RowKit
set_option linter.unusedVariables false
set_option linter.unusedSimpArgs false
abbrev cengine (m : EM) : List CS := [ci m.k.p, cints m.k.al, ci m.c.p, csteps m.c.st, cints m.c.outs, cauths m.vs, cints m.op, ci m.rd, cb m.bad]
theorem stEngine : St Try.prog 36 9 := ⟨⟨_, Try.underlying36, rfl⟩, by kernel_rfl⟩
theorem elAuth : El Try.prog 34 44 (.agg #[.slice none 0 0, .slice none 0 0]) 2 48 := ⟨Try.underlying34, by kernel_rfl, rfl, by decide⟩
structure ewf (m : EM) : Prop where
  k : kwf m.k
  c : amwf m.c
  vs : ∀ a ∈ m.vs, awf a
  n : m.vs.length ≤ 1048576
  op : m.op.length ≤ 1048576
  rd : i64w m.rd
structure EngR (m : EM) (w : World) (A B C D E : Option Addr) (a b c d e : Nat) : Prop where
  ky : AggR w (ckeys m.k) (.agg #[.int .i64 m.k.p, .slice A m.k.al.length a])
  ar : AggR w (carith m.c) (.agg #[.int .i64 m.c.p, .slice B m.c.st.length b, .slice C m.c.outs.length c])
  stp : FL c3 3 w B m.c.st.length m.c.st
  ou : Ints w C m.c.outs.length m.c.outs
  va : (cauths m.vs).rd w (.slice D m.vs.length d)
  opn : (cints m.op).rd w (.slice E m.op.length e)
  al9 : AggR w (cengine m) (.agg #[.int .i64 m.k.p, .slice A m.k.al.length a, .int .i64 m.c.p, .slice B m.c.st.length b, .slice C m.c.outs.length c, .slice D m.vs.length d, .slice E m.op.length e, .int .i64 m.rd, .bool m.bad])
theorem EngR.grow {m : EM} {w w' : World} {A B C D E : Option Addr} {a b c d e : Nat} (h : EngR m w A B C D E a b c d e) (g : w.grownBy w' none) : EngR m w' A B C D E a b c d e :=
  ⟨h.ky.grow g, h.ar.grow g, FL.grow h.stp g, h.ou.grow g, CS.grow _ h.va g, CS.grow _ h.opn g, h.al9.grow g⟩
theorem cauths_form {w : World} {xs : List AuM} {v : Value} (h : (cauths xs).rd w v) : ∃ A c, v = .slice A xs.length c := by
  obtain ⟨A, c, _, e, _⟩ := lst_rd (s := 2) (fun _ => rfl) (by omega) h
  exact ⟨A, c, e⟩
theorem cengine_open {w : World} {m : EM} {v : Value} (h : AggR w (cengine m) v) : ∃ A B C D E a b c d e, v = .agg #[.int .i64 m.k.p, .slice A m.k.al.length a, .int .i64 m.c.p, .slice B m.c.st.length b, .slice C m.c.outs.length c, .slice D m.vs.length d, .slice E m.op.length e, .int .i64 m.rd, .bool m.bad] ∧ EngR m w A B C D E a b c d e := by
  have hall := h
  obtain ⟨vs, rfl, h⟩ := h
  obtain ⟨u0, vs0, rfl, h0, h⟩ := RdAll.head h
  obtain ⟨u1, vs1, rfl, h1, h⟩ := RdAll.head h
  obtain ⟨u2, vs2, rfl, h2, h⟩ := RdAll.head h
  obtain ⟨u3, vs3, rfl, h3, h⟩ := RdAll.head h
  obtain ⟨u4, vs4, rfl, h4, h⟩ := RdAll.head h
  obtain ⟨u5, vs5, rfl, h5, h⟩ := RdAll.head h
  obtain ⟨u6, vs6, rfl, h6, h⟩ := RdAll.head h
  obtain ⟨u7, vs7, rfl, h7, h⟩ := RdAll.head h
  obtain ⟨u8, vs8, rfl, h8, h⟩ := RdAll.head h
  obtain rfl := RdAll.none h
  obtain rfl := ci_rd h0
  obtain rfl := ci_rd h2
  obtain rfl := ci_rd h7
  obtain rfl := cb_rd h8
  obtain ⟨A, a, rfl, _, _, _⟩ := cints_rd h1
  obtain ⟨B, b, rfl, _, _, f3⟩ := plst_rd (s := 3) (fun _ => rfl) (by omega) h3
  obtain ⟨C, c, rfl, _, _, f4⟩ := cints_rd h4
  obtain ⟨D, d, rfl⟩ := cauths_form h5
  obtain ⟨E, e, rfl, _, _, _⟩ := cints_rd h6
  exact ⟨A, B, C, D, E, a, b, c, d, e, rfl, ckeys_mk h1, carith_mk h3 h4, f3, f4, h5, h6, hall⟩
theorem cengine_ty (m : EM) : ∀ c ∈ cengine m, tyd [3, 95, 44] c := by
  intro c hc
  simp only [List.mem_cons, List.not_mem_nil, or_false] at hc
  rcases hc with rfl | rfl | rfl | rfl | rfl | rfl | rfl | rfl | rfl
  · exact tyd_pl
  · exact tyd_plst (by simp)
  · exact tyd_pl
  · exact tyd_plst (by simp)
  · exact tyd_plst (by simp)
  · exact tyd_cauths (by simp) (by simp)
  · exact tyd_plst (by simp)
  · exact tyd_pl
  · exact tyd_pl
theorem cauths_nil (w : World) : (cauths []).own w [] (.slice none 0 0) := ⟨0, [], [], rfl, World.ownsRow_nil w 0 _ 2, OwnAll.nil w, rfl, by simp⟩
theorem SOF.eng {m : EM} {g : Nat} {F : List Nat} {w : World} (h : SOF 36 (cengine m) g F w) : ∃ A B C D E a b c d e, Blk w g 36 #[.int .i64 m.k.p, .slice A m.k.al.length a, .int .i64 m.c.p, .slice B m.c.st.length b, .slice C m.c.outs.length c, .slice D m.vs.length d, .slice E m.op.length e, .int .i64 m.rd, .bool m.bad] ∧ EngR m w A B C D E a b c d e := by
  obtain ⟨vs, h1, h2⟩ := h.agg
  obtain ⟨A, B, C, D, E, a, b, c, d, e, hv, hR⟩ := cengine_open h2.rd
  injection hv with hv
  rw [hv] at h1
  exact ⟨A, B, C, D, E, a, b, c, d, e, h1, hR⟩
theorem SOF.is {T : TypeId} {cs : List CS} {g : Nat} {F : List Nat} {w : World} {us : List Value} (h : SOF T cs g F w) (B : Blk w g T us.toArray) : AggO w cs F (.agg us.toArray) := by
  obtain ⟨vs, h1, h2⟩ := h.agg
  unfold Blk at h1 B
  rw [h1] at B
  injection B with B
  injection B with B
  rw [← B]
  exact h2
theorem cauths_push {xs : List AuM} {w : World} {F : List Nat} {v : Value} (h : (cauths xs).own w F v) :
    ∃ vs, w.ownsRow 0 44 2 v xs.length vs ∧ (∀ g, v.ownBlock = some g → g ∈ F) ∧ ∀ (w' : World) (v' u0 u1 : Value) (x : AuM) (Fx : List Nat), w'.ownsRow 0 44 2 v' (xs.length + 1) (vs ++ [u0, u1]) → w.grownBy w' v.ownBlock → (∀ g, v'.ownBlock = some g → some g = v.ownBlock ∨ w.heap.size ≤ g) → AggO w' (cauth x) Fx (.agg #[u0, u1]) → (∀ y ∈ Fx, y ∉ F) → (∀ g, v'.ownBlock = some g → g ∉ Fx) →
      ∃ F', (cauths (xs ++ [x])).own w' F' v' ∧ ∀ y ∈ F', y ∈ F ∨ w.heap.size ≤ y ∨ y ∈ Fx := by
  obtain ⟨n, vs, h1, h2, h3, h4⟩ := row_push h
  rw [flat_len (sz := 2) (fun _ => rfl)] at h1
  have hn := div_of (by omega) h1
  subst hn
  refine ⟨vs, h2, h3, fun w' v' u0 u1 x Fx ho hg hv hx hd hd2 => ?_⟩
  obtain ⟨us, Ds, e, h5, rfl⟩ := hx
  injection e with e
  have e : us = [u0, u1] := by have := congrArg Array.toList e; simpa using this.symm
  subst e
  obtain ⟨F', k1, k2⟩ := h4 w' v' 1 [u0, u1] (cauth x) Ds rfl ho hg hv h5 hd hd2
  exact ⟨F', by rw [cauths, lst, List.flatMap_append]; simpa using k1, k2⟩
theorem autF.own {lo : Nat} {m : AuM} {v : Value} {w : World} (h : autF lo m v w) : ∃ A n c B k d F, v = .agg #[.slice A n c, .slice B k d] ∧ AggO w (cauth m) F (.agg #[.slice A n c, .slice B k d]) ∧ ∀ g ∈ F, lo ≤ g := by
  obtain ⟨A, n, c, B, k, d, rfl⟩ := h.form
  obtain ⟨F, h1, h2⟩ := h
  exact ⟨A, n, c, B, k, d, F, rfl, h1, h2⟩
theorem SOF.val {m : EM} {g : Nat} {F : List Nat} {w : World} (h : SOF 36 (cengine m) g F w) :
    ∃ D d F5, w.cell? ⟨g, 5, none⟩ = some (.slice D m.vs.length d) ∧ w.frozen? ⟨g, 5, none⟩ = false ∧ (cauths m.vs).own w F5 (.slice D m.vs.length d) ∧ (∀ x ∈ F5, x ∈ F) ∧ g ∉ F5 ∧ (∀ x ∈ F5, x < w.heap.size) ∧
      (∀ (w' : World) (l : List AuM) (u' : Value) (F' : List Nat), Chg (fun x => x ∈ F5) w w' → (cauths l).own w' F' u' → (∀ x ∈ F', x ∈ F5 ∨ w.heap.size ≤ x) → ∃ F'', SOF 36 (cengine { m with vs := l }) g F'' (w'.setCell ⟨g, 5, none⟩ u') ∧ ∀ x ∈ F'', x ∈ F ∨ w.heap.size ≤ x) ∧
      (∀ (w' : World) (l : List AuM) (F' : List Nat), Chg (fun x => x ∈ F5) w w' → (cauths l).own w' F' (.slice D m.vs.length d) → (∀ x ∈ F', x ∈ F5 ∨ w.heap.size ≤ x) → ∃ F'', SOF 36 (cengine { m with vs := l }) g F'' w' ∧ ∀ x ∈ F'', x ∈ F ∨ w.heap.size ≤ x) := by
  obtain ⟨u, F5, h1, h2, h3, h4, h5, h6, h7⟩ := h.at_ (i := 5) (c := cauths m.vs) rfl
  obtain ⟨D, d, rfl⟩ := cauths_form (CS.toRd _ h3)
  exact ⟨D, d, F5, h1, h2, h3, h4, h5, CS.lt _ h3, fun w' l u' F' a b c => h6 w' (cauths l) u' F' a b c, fun w' l F' a b c => h7 w' (cauths l) F' a b c⟩
theorem SOF.opn {m : EM} {g : Nat} {F : List Nat} {w : World} (h : SOF 36 (cengine m) g F w) :
    ∃ E e F6, w.cell? ⟨g, 6, none⟩ = some (.slice E m.op.length e) ∧ w.frozen? ⟨g, 6, none⟩ = false ∧ (cints m.op).own w F6 (.slice E m.op.length e) ∧ (∀ x ∈ F6, x ∈ F) ∧ g ∉ F6 ∧ (∀ x ∈ F6, x < w.heap.size) ∧
      (∀ (w' : World) (l : List Int) (u' : Value) (F' : List Nat), Chg (fun x => x ∈ F6) w w' → (cints l).own w' F' u' → (∀ x ∈ F', x ∈ F6 ∨ w.heap.size ≤ x) → ∃ F'', SOF 36 (cengine { m with op := l }) g F'' (w'.setCell ⟨g, 6, none⟩ u') ∧ ∀ x ∈ F'', x ∈ F ∨ w.heap.size ≤ x) := by
  obtain ⟨u, F6, h1, h2, h3, h4, h5, h6, h7⟩ := h.at_ (i := 6) (c := cints m.op) rfl
  obtain ⟨E, e, rfl, _⟩ := cints_rd (CS.toRd _ h3)
  exact ⟨E, e, F6, h1, h2, h3, h4, h5, CS.lt _ h3, fun w' l u' F' a b c => h6 w' (cints l) u' F' a b c⟩
theorem SOF.round {m : EM} {g : Nat} {F : List Nat} {w : World} (h : SOF 36 (cengine m) g F w) (z : Int) : ∃ F', SOF 36 (cengine { m with rd := z }) g F' (w.setCell ⟨g, 7, none⟩ (.int .i64 z)) ∧ ∀ x ∈ F', x ∈ F ∨ w.heap.size ≤ x :=
  SOF.put h (i := 7) (c := ci m.rd) (c' := ci z) rfl (fun w => ci_own w z)
theorem SOF.flag {m : EM} {g : Nat} {F : List Nat} {w : World} (h : SOF 36 (cengine m) g F w) (b : Bool) : ∃ F', SOF 36 (cengine { m with bad := b }) g F' (w.setCell ⟨g, 8, none⟩ (.bool b)) ∧ ∀ x ∈ F', x ∈ F ∨ w.heap.size ≤ x :=
  SOF.put h (i := 8) (c := cb m.bad) (c' := cb b) rfl (fun w => cb_own w b)
theorem getA_at {xs : List AuM} {i : Nat} (h : i < xs.length) : xs[i]? = some (getA xs i) := by
  unfold getA
  rw [List.getD_eq_getElem?_getD, List.getElem?_eq_getElem h]; rfl
theorem cauths_el {xs : List AuM} {w : World} {F : List Nat} {g n c : Nat} (h : (cauths xs).own w F (.slice (some ⟨g, 0, none⟩) n c)) {i : Nat} (hi : i < xs.length) :
    ∃ B d C f, w.cell? ⟨g, i * 2, none⟩ = some (.slice B (getA xs i).sh.length d) ∧ w.cell? ⟨g, i * 2 + 1, none⟩ = some (.slice C (getA xs i).mc.length f) ∧ w.frozen? ⟨g, i * 2, none⟩ = false ∧ w.frozen? ⟨g, i * 2 + 1, none⟩ = false ∧ AggR w (cauth (getA xs i)) (.agg #[.slice B (getA xs i).sh.length d, .slice C (getA xs i).mc.length f]) := by
  have hx := getA_at hi
  have h0 : (xs.flatMap cauth)[i * 2]? = some (cints (getA xs i).sh) := by
    have := flat_get (sz := 2) (F := cauth) (fun _ => rfl) xs i 0 (by omega)
    rw [hx] at this
    exact this
  have h1 : (xs.flatMap cauth)[i * 2 + 1]? = some (cints (getA xs i).mc) := by
    have := flat_get (sz := 2) (F := cauth) (fun _ => rfl) xs i 1 (by omega)
    rw [hx] at this
    exact this
  obtain ⟨u0, F0, a1, a2, a3, _⟩ := row_cell h h0
  obtain ⟨u1, F1, b1, b2, b3, _⟩ := row_cell h h1
  obtain ⟨B, d, rfl, _⟩ := cints_rd (CS.toRd _ a3)
  obtain ⟨C, f, rfl, _⟩ := cints_rd (CS.toRd _ b3)
  exact ⟨B, d, C, f, a1, b1, a2, b2, cauth_mk (CS.toRd _ a3) (CS.toRd _ b3)⟩
theorem cauths_ptr {xs : List AuM} {w : World} {F : List Nat} {D : Option Addr} {n c : Nat} (h : (cauths xs).own w F (.slice D n c)) (hi : 0 < xs.length) : ∃ gv, D = some ⟨gv, 0, none⟩ ∧ gv ∈ F := by
  obtain ⟨g, n', c', e, hg⟩ := row_own_slice (by omega) h (by rw [flat_len (sz := 2) (fun _ => rfl)]; omega)
  injection e with e
  exact ⟨g, e, hg⟩
theorem EngR.of {m : EM} {w : World} {A B C D E : Option Addr} {a b c d e n1 n2 n3 n4 n5 : Nat} (h : AggR w (cengine m) (.agg #[.int .i64 m.k.p, .slice A n1 a, .int .i64 m.c.p, .slice B n2 b, .slice C n3 c, .slice D n4 d, .slice E n5 e, .int .i64 m.rd, .bool m.bad])) :
    n1 = m.k.al.length ∧ n2 = m.c.st.length ∧ n3 = m.c.outs.length ∧ n4 = m.vs.length ∧ n5 = m.op.length ∧ EngR m w A B C D E a b c d e := by
  obtain ⟨A', B', C', D', E', a', b', c', d', e', hv, hR⟩ := cengine_open h
  injection hv with hv
  have hv := Array.toList_inj.2 hv
  simp only [List.cons.injEq, Value.slice.injEq, and_true, true_and] at hv
  obtain ⟨⟨rfl, rfl, rfl⟩, ⟨rfl, rfl, rfl⟩, ⟨rfl, rfl, rfl⟩, ⟨rfl, rfl, rfl⟩, ⟨rfl, rfl, rfl⟩⟩ := hv
  exact ⟨rfl, rfl, rfl, rfl, rfl, hR⟩
end Go.Proofs.Ythaadgdeadbhkaa
