/-
  The engine in rounds: forms and values behind each round; wrong openings. No program.
-/
import Derived.Test.YtapljpcpmdlppaaMgFnOtherTapes31
namespace Go.Proofs.Ytapljpcpmdlppaa
set_option linter.unusedVariables false
set_option linter.unusedSimpArgs false
theorem evS_get (m : AM) (ins : List Int) : ∀ (k j : Nat), j < k → (evS m ins k).getD j 0 = evD m.p ins (evS m ins j) (stAt m j)
  | 0, j, h => by omega
  | k + 1, j, h => by
    rw [evS, List.getD_eq_getElem?_getD, List.getElem?_append, evS_len]
    by_cases e : j = k
    · subst e
      rw [if_neg (by omega)]
      simp
    · rw [if_pos (by omega), ← List.getD_eq_getElem?_getD]
      exact evS_get m ins k j (by omega)
theorem evS_pre' (m : AM) (ins : List Int) {k j i : Nat} (h1 : i < j) (h2 : j ≤ k) : (evS m ins j).getD i 0 = (evS m ins k).getD i 0 := by
  rw [evS_get m ins j i h1, evS_get m ins k i (by omega)]
def valAt (c : AM) (ins : List Int) (i : Nat) : Int := (evS c ins c.st.length).getD i 0
theorem val_in {c : AM} {ins : List Int} {i : Nat} (hi : i < c.st.length) (h1 : (stAt c i).1 = 1) : valAt c ins i = ins.getD (stAt c i).2.1.toNat 0 := by
  unfold valAt
  rw [evS_get _ _ _ _ hi, evD, if_pos h1]
theorem val_const {c : AM} {ins : List Int} {i : Nat} (hi : i < c.st.length) (h2 : (stAt c i).1 = 2) : valAt c ins i = (stAt c i).2.1 := by
  unfold valAt
  rw [evS_get _ _ _ _ hi, evD, if_neg (by omega), if_neg (by omega), if_neg (by omega)]
theorem val_add {c : AM} {ins : List Int} {i : Nat} (hok : AOk c) (hi : i < c.st.length) (h3 : (stAt c i).1 = 3) : valAt c ins i = (valAt c ins (stAt c i).2.1.toNat + valAt c ins (stAt c i).2.2.toNat) % c.p := by
  obtain ⟨h1, h2, _⟩ := ops_of hok hi (.inl h3)
  unfold valAt
  rw [evS_get _ _ _ _ hi, evD, if_neg (by omega), if_pos h3, evS_pre' c ins h1 (Nat.le_of_lt hi), evS_pre' c ins h2 (Nat.le_of_lt hi)]
theorem val_mul {c : AM} {ins : List Int} {i : Nat} (hok : AOk c) (hi : i < c.st.length) (h4 : (stAt c i).1 = 4) : valAt c ins i = (valAt c ins (stAt c i).2.1.toNat * valAt c ins (stAt c i).2.2.toNat) % c.p := by
  obtain ⟨h1, h2, _⟩ := ops_of hok hi (.inr h4)
  unfold valAt
  rw [evS_get _ _ _ _ hi, evD, if_neg (by omega), if_neg (by omega), if_pos h4, evS_pre' c ins h1 (Nat.le_of_lt hi), evS_pre' c ins h2 (Nat.le_of_lt hi)]
structure Fit (k : KM) (c : AM) (P : Nat) (ins : List Int) : Prop where
  kb : keysB k = true
  ok : AOk c
  pp : k.p = c.p
  pn : k.p = P
  len : ins.length = 60
  el : elemsB c.p ins = true
theorem Fit.fld {k : KM} {c : AM} {P : Nat} {ins : List Int} (h : Fit k c P ins) : fieldB k.p = true := (keys_is h.kb).1
def PF (k : KM) (i : Nat) (a : AuM) : Prop := formB k a = true
def PG (k : KM) (c : AM) (ins : List Int) (i : Nat) (a : AuM) : Prop := Good k a (valAt c ins i)
theorem PF.pc {k : KM} {c : AM} : PC k c (PF k) := ⟨fun _ _ h => h, fun i _ _ x y hx hy => (form_add hx hy).2⟩
theorem PG.pc {k : KM} {c : AM} {P : Nat} {ins : List Int} (h : Fit k c P ins) : PC k c (PG k c ins) :=
  ⟨fun _ _ h => h.form, fun i hi h3 x y hx hy => by
    unfold PG
    rw [val_add h.ok hi h3, ← h.pp]
    exact Good.add hx hy⟩
theorem init_good {k : KM} {c : AM} {P s : Nat} {ins : List Int} (h : Fit k c P ins) {i : Nat} (hi : i < c.st.length) (h12 : (stAt c i).1 = 1 ∨ (stAt c i).1 = 2) : Good k (initV k c P s ins i) (valAt c ins i) := by
  have hst := h.ok.steps i hi
  unfold initV
  by_cases h1 : (stAt c i).1 = 1
  · rw [if_pos h1, val_in hi h1]
    have h5 := ins_rng h.el (stAt c i).2.1.toNat
    exact Good.new h.kb h.pn (elemB_mk h.fld (by omega) (by rw [h.pp]; omega))
  · have h2 : (stAt c i).1 = 2 := by omega
    rw [if_neg h1, if_pos h2, val_const hi h2]
    unfold stepB at hst
    rw [if_neg h1, if_pos h2] at hst
    simp only [Bool.and_eq_true] at hst
    have hx : elemB k.p (stAt c i).2.1 = true := by rw [h.pp]; exact hst.1
    have := (Good.zeros h.kb).const hx
    have h9 := elemB_is hx
    rw [Int.zero_add, Int.emod_eq_of_lt (by omega) (by omega)] at this
    exact this
theorem init_pre {k : KM} {c : AM} {P s : Nat} {ins : List Int} (h : Fit k c P ins) {Q : Nat → AuM → Prop} (hQ : ∀ i a, PG k c ins i a → Q i a) : Pre Q c 0 (initL k c P s ins) := by
  refine ⟨initL_len .., fun i hi hd => ?_, fun i hi hd => ?_⟩
  · rw [initL_at _ _ _ _ _ hi]
    by_cases h12 : (stAt c i).1 = 1 ∨ (stAt c i).1 = 2
    · exact .inl (hQ i _ (init_good h hi h12))
    · by_cases h4 : (stAt c i).1 = 4
      · have := dep_mul h.ok hi h4
        have := dep_pos c (stAt c i).2.1.toNat
        omega
      · have hst := h.ok.steps i hi
        have h3 : (stAt c i).1 = 3 := by
          unfold stepB at hst
          rw [if_neg (fun e => h12 (.inl e)), if_neg (fun e => h12 (.inr e))] at hst
          by_cases h34 : (stAt c i).1 = 3 ∨ (stAt c i).1 = 4
          · omega
          · rw [if_neg h34] at hst; cases hst
        refine .inr ⟨h3, ?_⟩
        unfold initV
        rw [if_neg (by omega), if_neg (by omega)]
        rfl
  · rw [initL_at _ _ _ _ _ hi]
    unfold initV
    by_cases h3 : (stAt c i).1 = 3 ∨ (stAt c i).1 = 4
    · rw [if_neg (by omega), if_neg (by omega)]; rfl
    · have := dep_none (m := c) hi (by omega) (by omega)
      omega
def tripF (k : KM) (ts : List TrM) (n : Nat) : Prop := n ≤ ts.length ∧ ∀ j, j < n → formB k (trAt ts j).a = true ∧ formB k (trAt ts j).b = true ∧ formB k (trAt ts j).c = true
def tripG (k : KM) (ts : List TrM) (n : Nat) : Prop := n ≤ ts.length ∧ ∀ j, j < n → ∃ u v, GoodT k (trAt ts j) u v
theorem tripG.f {k : KM} {ts : List TrM} {n : Nat} (h : tripG k ts n) : tripF k ts n := ⟨h.1, fun j hj => by
  obtain ⟨u, v, h1⟩ := h.2 j hj
  exact ⟨h1.a.form, h1.b.form, h1.c.form⟩⟩
theorem trsN_good {k : KM} {P s a n : Nat} (hk : keysB k = true) (hP : k.p = P) : tripG k (trsN k P s a n) n :=
  ⟨by rw [trsN_len]; exact Nat.le_refl _, fun j hj => by rw [trsN_at hj]; exact ⟨_, _, GoodT.new hk hP⟩⟩
structure At (Q : Nat → AuM → Prop) (k : KM) (c : AM) (r : Nat) (e : EM) : Prop where
  ek : e.k = k
  ec : e.c = c
  rd : e.rd = r
  post : Post Q c r e.vs
theorem muls_lt {e : EM} (hok : AOk e.c) {r : Nat} (hr : e.rd = r) {j : Nat} (hj : j < (mulsOf e).length) : ∃ i : Nat, i < e.c.st.length ∧ (mulsOf e).getD j 0 = i ∧ (stAt e.c i).1 = 4 ∧ depAt e.c i = r + 1 ∧ (stAt e.c i).2.1.toNat < i ∧ (stAt e.c i).2.2.toNat < i ∧ depAt e.c (stAt e.c i).2.1.toNat ≤ r ∧ depAt e.c (stAt e.c i).2.2.toNat ≤ r := by
  obtain ⟨i, h1, h2, h3, h4⟩ := (mulsAt_iff hok _ _).1 (getD_mem hj)
  have h5 := dep_mul hok h1 h3
  obtain ⟨h6, h7, _⟩ := ops_of hok h1 (.inr h3)
  exact ⟨i, h1, h2, h3, by rw [h4, hr], h6, h7, by omega, by omega⟩
theorem At.may {Q : Nat → AuM → Prop} {k : KM} {c : AM} {P r : Nat} {ins : List Int} {e : EM} (hf : Fit k c P ins) (hQ : ∀ i a, Q i a → formB k a = true) (h : At Q k c r e) (hb : e.bad = false) (hr : (r : Int) < rounds c) {ts : List TrM} {es : List Int} (ht : tripF k ts (mulsOf e).length) (he : elemsB k.p es = true) : mayB e ts es = true := by
  obtain ⟨h1, h2, h3, h4⟩ := h
  have hR := rounds_bd c
  unfold mayB engOkB
  rw [h1, h2, hb, h3, hf.kb, arithB_yes hf.ok, he]
  simp only [Bool.and_eq_true, Bool.not_eq_true', decide_eq_true_eq, beq_iff_eq, Bool.true_and, Bool.not_false, Bool.and_true, List.all_eq_true]
  refine ⟨⟨⟨⟨⟨⟨hf.pp, h4.len⟩, inQ_yes (by omega) (by omega)⟩, fun a ha => ?_⟩, hr⟩, ht.1⟩, fun j hj => ?_⟩
  · obtain ⟨i, hi, rfl⟩ := List.getElem_of_mem ha
    have e1 : getA e.vs i = e.vs[i] := by unfold getA; rw [List.getD_eq_getElem?_getD, List.getElem?_eq_getElem hi]; rfl
    unfold okV
    by_cases hd : depAt c i ≤ r
    · have := hQ i _ (h4.lo i (by rw [← h4.len]; exact hi) hd)
      rw [e1] at this
      rw [this, Bool.or_true]
    · have := h4.hi i (by rw [← h4.len]; exact hi) (by omega)
      rw [e1] at this
      rw [this, Bool.true_or]
  · rw [List.mem_range] at hj
    obtain ⟨i, i1, i2, i3, i4, i5, i6, i7, i8⟩ := muls_lt (e := e) (by rw [h2]; exact hf.ok) h3 hj
    rw [h2] at i1 i3 i4 i5 i6 i7 i8
    obtain ⟨t1, t2, t3⟩ := ht.2 j hj
    have f1 := hQ _ _ (h4.lo _ (by omega) i7)
    have f2 := hQ _ _ (h4.lo _ (by omega) i8)
    unfold tripOk opA opB
    rw [i2, Int.toNat_natCast, h1, h2, t1, t2, t3, form_nz f1, form_nz f2]
    rfl
theorem At.next {Q : Nat → AuM → Prop} {k : KM} {c : AM} {P r : Nat} {ins : List Int} {e : EM} (hf : Fit k c P ins) (hQ : PC k c Q) (h : At Q k c r e) {ts : List TrM} {es : List Int}
    (hm : ∀ j, j < (mulsOf e).length → Q ((mulsOf e).getD j 0).toNat (tripleUse e.k (trAt ts j) (rD e (trAt ts j) (errAt es (2 * j)) ((mulsOf e).getD j 0).toNat) (rE e (trAt ts j) (errAt es (2 * j + 1)) ((mulsOf e).getD j 0).toNat))) : At Q k c (r + 1) (roundEnd e (roundTo e ts es (mulsOf e) (mulsOf e).length)) := by
  obtain ⟨h1, h2, h3, h4⟩ := h
  have hfix := roundTo_fix e ts es (mulsOf e) (mulsOf e).length
  have hp := round_post (e := e) (P := Q) (ts := ts) (es := es) (r := r) (by rw [h1, h2]; exact hQ) (by rw [h2]; exact hf.ok) h3 (by rw [h2]; exact h4) hm
  refine ⟨hfix.1.trans h1, hfix.2.1.trans h2, ?_, by rw [← h2]; exact hp⟩
  show e.rd + 1 = _
  rw [h3]; rfl
theorem rD_el {e : EM} {x : TrM} {er : Int} {i : Nat} (hf : fieldB e.k.p = true) : elemB e.k.p (rD e x er i) = true ∧ elemB e.k.p (rE e x er i) = true := ⟨femod_elem hf _, femod_elem hf _⟩
theorem At.nextF {k : KM} {c : AM} {P r : Nat} {ins : List Int} {e : EM} (hf : Fit k c P ins) (h : At (PF k) k c r e) {ts : List TrM} {es : List Int} (ht : tripF k ts (mulsOf e).length) : At (PF k) k c (r + 1) (roundEnd e (roundTo e ts es (mulsOf e) (mulsOf e).length)) := by
  refine h.next hf PF.pc fun j hj => ?_
  obtain ⟨t1, t2, t3⟩ := ht.2 j hj
  have hfl : fieldB e.k.p = true := by rw [h.ek]; exact hf.fld
  unfold PF
  rw [← h.ek] at t1 t2 t3 ⊢
  exact (form_use t1 t2 t3 (rD_el hfl).1 (rD_el hfl).2).2
theorem open_is {k : KM} {c : AM} {P r : Nat} {ins : List Int} {e : EM} (hf : Fit k c P ins) (h : At (PG k c ins) k c r e) {j : Nat} (hj : j < (mulsOf e).length) {x : TrM} {u v er : Int} (hx : GoodT k x u v) :
    ∃ i : Nat, (mulsOf e).getD j 0 = i ∧ i < c.st.length ∧ (stAt c i).1 = 4 ∧ Good k (opA e i) (valAt c ins (stAt c i).2.1.toNat) ∧ Good k (opB e i) (valAt c ins (stAt c i).2.2.toNat) ∧
      rD e x er i = ((valAt c ins (stAt c i).2.1.toNat - u) % k.p + er) % k.p ∧ rE e x er i = ((valAt c ins (stAt c i).2.2.toNat - v) % k.p + er) % k.p := by
  obtain ⟨h1, h2, h3, h4⟩ := h
  obtain ⟨i, i1, i2, i3, i4, i5, i6, i7, i8⟩ := muls_lt (e := e) (by rw [h2]; exact hf.ok) h3 hj
  rw [h2] at i1 i3 i4 i5 i6 i7 i8
  have ga : Good k (opA e i) (valAt c ins (stAt c i).2.1.toNat) := by
    unfold opA; rw [h2]
    exact h4.lo _ (by omega) i7
  have gb : Good k (opB e i) (valAt c ins (stAt c i).2.2.toNat) := by
    unfold opB; rw [h2]
    exact h4.lo _ (by omega) i8
  have ho : openB k (opA e i) (opB e i) x = true := by unfold openB; rw [ga.form, gb.form, hx.a.form, hx.b.form]; rfl
  refine ⟨i, i2, i1, i3, ga, gb, ?_, ?_⟩
  · unfold rD openD; rw [h1, if_pos ho, ga.sh, hx.a.sh]
  · unfold rE openE; rw [h1, if_pos ho, gb.sh, hx.b.sh]
theorem At.nextG {k : KM} {c : AM} {P r : Nat} {ins : List Int} {e : EM} (hf : Fit k c P ins) (h : At (PG k c ins) k c r e) {ts : List TrM} {es : List Int} (ht : tripG k ts (mulsOf e).length) (hz : ∀ j, j < (mulsOf e).length → errAt es (2 * j) = 0 ∧ errAt es (2 * j + 1) = 0) : At (PG k c ins) k c (r + 1) (roundEnd e (roundTo e ts es (mulsOf e) (mulsOf e).length)) := by
  refine h.next hf (PG.pc hf) fun j hj => ?_
  obtain ⟨u, v, hx⟩ := ht.2 j hj
  obtain ⟨z1, z2⟩ := hz j hj
  obtain ⟨i, e1, e2, e3, ga, gb, e4, _⟩ := open_is hf h hj (er := errAt es (2 * j)) hx
  obtain ⟨i', e1', _, _, _, _, _, e5⟩ := open_is hf h hj (er := errAt es (2 * j + 1)) hx
  rw [e1] at e1'
  have : i = i' := by omega
  subst this
  rw [e1, Int.toNat_natCast, e4, e5, z1, z2, Int.add_zero, Int.add_zero, em1, em1, h.ek]
  unfold PG
  rw [val_mul hf.ok e2 e3, ← hf.pp]
  exact hx.use ga.rng gb.rng rfl rfl
theorem roundTo_bad (e : EM) (ts : List TrM) (es ss : List Int) : ∀ j, (roundTo e ts es ss j).bad = true ↔ e.bad = true ∨ ∃ q, q < j ∧ rBad e (trAt ts q) (rD e (trAt ts q) (errAt es (2 * q)) (ss.getD q 0).toNat) (rE e (trAt ts q) (errAt es (2 * q + 1)) (ss.getD q 0).toNat) (ss.getD q 0).toNat = true
  | 0 => by
    show e.bad = true ↔ _
    constructor
    · exact .inl
    · rintro (h | ⟨q, h, _⟩)
      · exact h
      · omega
  | j + 1 => by
    show ((roundTo e ts es ss j).bad || _) = true ↔ _
    rw [Bool.or_eq_true, roundTo_bad e ts es ss j]
    constructor
    · rintro ((h | ⟨q, h1, h2⟩) | h)
      · exact .inl h
      · exact .inr ⟨q, by omega, h2⟩
      · exact .inr ⟨j, by omega, h⟩
    · rintro (h | ⟨q, h1, h2⟩)
      · exact .inl (.inl h)
      · by_cases e' : q = j
        · subst e'; exact .inr h2
        · exact .inl (.inr ⟨q, by omega, h2⟩)
theorem rBad_iff {k : KM} {c : AM} {P r : Nat} {ins : List Int} {e : EM} (hf : Fit k c P ins) (h : At (PG k c ins) k c r e) {j : Nat} (hj : j < (mulsOf e).length) {x : TrM} {u v e1 e2 : Int} (hx : GoodT k x u v) (h1 : elemB k.p e1 = true) (h2 : elemB k.p e2 = true) :
    (e1 = 0 ∧ e2 = 0 → rBad e x (rD e x e1 ((mulsOf e).getD j 0).toNat) (rE e x e2 ((mulsOf e).getD j 0).toNat) ((mulsOf e).getD j 0).toNat = false) ∧
    (fsum k.p k.al ≠ 0 → rBad e x (rD e x e1 ((mulsOf e).getD j 0).toNat) (rE e x e2 ((mulsOf e).getD j 0).toNat) ((mulsOf e).getD j 0).toNat = false → e1 = 0 ∧ e2 = 0) := by
  obtain ⟨i, q1, q2, q3, ga, gb, q4, _⟩ := open_is hf h hj (er := e1) hx
  obtain ⟨i', q1', _, _, _, _, _, q5⟩ := open_is hf h hj (er := e2) hx
  rw [q1] at q1'
  have : i = i' := by omega
  subst this
  have hp := hf.fld
  obtain ⟨p2, _⟩ := field_range hp
  rw [q1, Int.toNat_natCast, q4, q5]
  unfold rBad
  rw [h.ek, ga.minus hx.a _ (femod_elem hp _), gb.minus hx.b _ (femod_elem hp _)]
  obtain ⟨_, _, _, a1, a2⟩ := elemB_is h1
  obtain ⟨_, _, _, b1, b2⟩ := elemB_is h2
  constructor
  · rintro ⟨rfl, rfl⟩
    rw [Int.add_zero, Int.add_zero, em1, em1]
    simp
  · intro h0 hb
    simp only [Bool.or_eq_false_iff, Bool.not_eq_false', beq_iff_eq] at hb
    exact ⟨wrong_caught hp (fsum_rng p2 k.al) h0 hb.1 ⟨a1, a2⟩, wrong_caught hp (fsum_rng p2 k.al) h0 hb.2 ⟨b1, b2⟩⟩
end Go.Proofs.Ytapljpcpmdlppaa
