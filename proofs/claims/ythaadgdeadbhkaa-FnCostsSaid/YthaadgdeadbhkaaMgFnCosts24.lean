/-
  The engine in rounds: what stands behind each round. No program.
-/
import Derived.Test.YthaadgdeadbhkaaMgFnCosts21
import Derived.Test.YthaadgdeadbhkaaMgFnCosts23
import Derived.Test.YthaadgdeadbhkaaMgFnCosts17
import Derived.Test.YthaadgdeadbhkaaMgFnCosts22
import Derived.Test.YthaadgdeadbhkaaMgFnCosts18
namespace Go.Proofs.Ythaadgdeadbhkaa
set_option linter.unusedVariables false
set_option linter.unusedSimpArgs false
theorem mulsTo_iff (m : AM) (d : Int) : ∀ (k : Nat) (z : Int), z ∈ mulsTo m d k ↔ ∃ i : Nat, i < k ∧ z = i ∧ (stAt m i).1 = 4 ∧ (mdepth m).getD i 0 = d
  | 0, z => by simp [mulsTo]
  | k + 1, z => by
    rw [mulsTo, List.mem_append, mulsTo_iff m d k z]
    constructor
    · rintro (⟨i, h1, h2⟩ | h)
      · exact ⟨i, by omega, h2⟩
      · split at h
        · rename_i h1
          simp only [List.mem_cons, List.not_mem_nil, or_false] at h
          exact ⟨k, by omega, h, h1.1, h1.2⟩
        · simp at h
    · rintro ⟨i, h1, h2, h3, h4⟩
      by_cases e : i = k
      · subst e
        right
        rw [if_pos ⟨h3, h4⟩, h2]
        simp
      · exact .inl ⟨i, by omega, h2, h3, h4⟩
theorem mulsAt_iff {m : AM} (h : AOk m) (d z : Int) : z ∈ mulsAt m d ↔ ∃ i : Nat, i < m.st.length ∧ z = i ∧ (stAt m i).1 = 4 ∧ depAt m i = d := by
  unfold mulsAt
  rw [mulsTo_iff, mdepth_len h]
  constructor
  · rintro ⟨i, h1, h2, h3, h4⟩
    exact ⟨i, h1, h2, h3, by rw [← depAt_md h]; exact h4⟩
  · rintro ⟨i, h1, h2, h3, h4⟩
    exact ⟨i, h1, h2, h3, by rw [depAt_md h]; exact h4⟩
theorem ops_of {m : AM} (h : AOk m) {i : Nat} (hi : i < m.st.length) (h3 : (stAt m i).1 = 3 ∨ (stAt m i).1 = 4) : (stAt m i).2.1.toNat < i ∧ (stAt m i).2.2.toNat < i ∧ 0 ≤ (stAt m i).2.1 ∧ 0 ≤ (stAt m i).2.2 := by
  have h1 := h.steps i hi
  unfold stepB at h1
  have h4 : ¬ (stAt m i).1 = 1 := by omega
  have h5 : ¬ (stAt m i).1 = 2 := by omega
  rw [if_neg h4, if_neg h5, if_pos h3] at h1
  simp [inB] at h1
  omega
theorem dep_add {m : AM} {i : Nat} (h : AOk m) (hi : i < m.st.length) (h3 : (stAt m i).1 = 3) : depAt m i = max (depAt m (stAt m i).2.1.toNat) (depAt m (stAt m i).2.2.toNat) := by
  obtain ⟨h1, h2, _⟩ := ops_of h hi (.inl h3)
  unfold depAt
  rw [depsS_get m _ i hi, depD, if_pos h3, depsS_pre m h1 (Nat.le_of_lt hi), depsS_pre m h2 (Nat.le_of_lt hi)]
theorem dep_mul {m : AM} {i : Nat} (h : AOk m) (hi : i < m.st.length) (h4 : (stAt m i).1 = 4) : depAt m i = 1 + max (depAt m (stAt m i).2.1.toNat) (depAt m (stAt m i).2.2.toNat) := by
  obtain ⟨h1, h2, _⟩ := ops_of h hi (.inr h4)
  unfold depAt
  rw [depsS_get m _ i hi, depD, if_neg (by omega), if_pos h4, depsS_pre m h1 (Nat.le_of_lt hi), depsS_pre m h2 (Nat.le_of_lt hi)]
theorem dep_none {m : AM} {i : Nat} (hi : i < m.st.length) (h3 : ¬ (stAt m i).1 = 3) (h4 : ¬ (stAt m i).1 = 4) : depAt m i = 0 := by
  unfold depAt
  rw [depsS_get m _ i hi, depD, if_neg h3, if_neg h4]
theorem dep_pos (m : AM) (i : Nat) : 0 ≤ depAt m i := (depsS_bd m _ i).1
theorem dep_rounds {m : AM} (h : AOk m) {i : Nat} (hi : i < m.st.length) : depAt m i ≤ rounds m := by
  unfold rounds
  rw [← depAt_md h]
  exact maxTo_ge _ _ _ (by rw [mdepth_len h]; exact hi)
structure Post (P : Nat → AuM → Prop) (c : AM) (r : Int) (vs : List AuM) : Prop where
  len : vs.length = c.st.length
  lo : ∀ i, i < c.st.length → depAt c i ≤ r → P i (getA vs i)
  hi : ∀ i, i < c.st.length → r < depAt c i → zeroA (getA vs i) = true
structure Pre (P : Nat → AuM → Prop) (c : AM) (r : Int) (vs : List AuM) : Prop where
  len : vs.length = c.st.length
  lo : ∀ i, i < c.st.length → depAt c i ≤ r → P i (getA vs i) ∨ ((stAt c i).1 = 3 ∧ zeroA (getA vs i) = true)
  hi : ∀ i, i < c.st.length → r < depAt c i → zeroA (getA vs i) = true
structure PC (k : KM) (c : AM) (P : Nat → AuM → Prop) : Prop where
  form : ∀ i a, P i a → formB k a = true
  add : ∀ i, i < c.st.length → (stAt c i).1 = 3 → ∀ x y, P (stAt c i).2.1.toNat x → P (stAt c i).2.2.toNat y → P i (authAdd k x y)
theorem PC.nz {k : KM} {c : AM} {P : Nat → AuM → Prop} (h : PC k c P) {i : Nat} {a : AuM} (ha : P i a) : zeroA a = false := form_nz (h.form i a ha)
structure Mid (P : Nat → AuM → Prop) (c : AM) (r : Int) (j : Nat) (vs : List AuM) : Prop where
  len : vs.length = c.st.length
  done : ∀ i, i < j → depAt c i ≤ r → P i (getA vs i)
  todo : ∀ i, j ≤ i → i < c.st.length → depAt c i ≤ r → P i (getA vs i) ∨ ((stAt c i).1 = 3 ∧ zeroA (getA vs i) = true)
  hi : ∀ i, i < c.st.length → r < depAt c i → zeroA (getA vs i) = true
theorem Mid.step {k : KM} {c : AM} {P : Nat → AuM → Prop} {r : Int} {j : Nat} {vs : List AuM} (hP : PC k c P) (hok : AOk c) (h : Mid P c r j vs) (hj : j < c.st.length) : Mid P c r (j + 1) (addStep k c vs j) := by
  by_cases h3 : (stAt c j).1 = 3
  · obtain ⟨ha, hb, _⟩ := ops_of hok hj (.inl h3)
    have hd := dep_add hok hj h3
    by_cases hr : depAt c j ≤ r
    · have pa := h.done _ ha (by omega)
      have pb := h.done _ hb (by omega)
      by_cases hz : zeroA (getA vs j) = true
      · have e : addStep k c vs j = vs.set j (authAdd k (getA vs (stAt c j).2.1.toNat) (getA vs (stAt c j).2.2.toNat)) := by
          unfold addStep addOk
          rw [if_pos (by rw [h3, hz, hP.nz pa, hP.nz pb]; rfl)]
        rw [e]
        have hx := hP.add j hj h3 _ _ pa pb
        refine ⟨by rw [List.length_set]; exact h.len, fun i hi hd' => ?_, fun i hi hi' hd' => ?_, fun i hi hd' => ?_⟩
        · rw [getA_set]
          by_cases e : j = i
          · subst e; rw [if_pos ⟨rfl, by rw [h.len]; exact hj⟩]; exact hx
          · rw [if_neg (fun x => e x.1)]; exact h.done i (by omega) hd'
        · rw [getA_set, if_neg (fun x => by omega)]; exact h.todo i (by omega) hi' hd'
        · rw [getA_set, if_neg (fun x => by have := x.1; subst this; omega)]; exact h.hi i hi hd'
      · have e : addStep k c vs j = vs := by
          unfold addStep addOk
          rw [if_neg (by simp [hz])]
        rw [e]
        refine ⟨h.len, fun i hi hd' => ?_, fun i hi hi' hd' => h.todo i (by omega) hi' hd', h.hi⟩
        by_cases e : i = j
        · subst e
          rcases h.todo i (Nat.le_refl _) hj hr with h6 | h6
          · exact h6
          · exact absurd h6.2 hz
        · exact h.done i (by omega) hd'
    · have hz := h.hi j hj (by omega)
      have e : addStep k c vs j = vs := by
        unfold addStep addOk
        rw [if_neg]
        intro hx
        simp only [Bool.and_eq_true, Bool.not_eq_true'] at hx
        by_cases h6 : r < depAt c (stAt c j).2.1.toNat
        · have := h.hi _ (by omega) h6
          rw [hx.1.2] at this; cases this
        · have := h.hi (stAt c j).2.2.toNat (by omega) (by omega)
          rw [hx.2] at this; cases this
      rw [e]
      refine ⟨h.len, fun i hi hd' => ?_, fun i hi hi' hd' => h.todo i (by omega) hi' hd', h.hi⟩
      have hij : i < j := by
        by_cases e : i = j
        · subst e; exact absurd hd' hr
        · omega
      exact h.done i hij hd'
  · have e : addStep k c vs j = vs := by
      unfold addStep addOk
      rw [if_neg (by simp [h3])]
    rw [e]
    refine ⟨h.len, fun i hi hd' => ?_, fun i hi hi' hd' => h.todo i (by omega) hi' hd', h.hi⟩
    by_cases e : i = j
    · subst e
      rcases h.todo i (Nat.le_refl _) hj hd' with h6 | h6
      · exact h6
      · exact absurd h6.1 h3
    · exact h.done i (by omega) hd'
theorem Mid.all {k : KM} {c : AM} {P : Nat → AuM → Prop} {r : Int} {vs : List AuM} (hP : PC k c P) (hok : AOk c) (h : Pre P c r vs) : ∀ j, j ≤ c.st.length → Mid P c r j (addsTo k c vs j)
  | 0, _ => ⟨h.len, fun i hi => by omega, fun i _ hi hd => h.lo i hi hd, h.hi⟩
  | j + 1, hj => (Mid.all hP hok h j (by omega)).step hP hok (by omega)
theorem adds_post {k : KM} {c : AM} {P : Nat → AuM → Prop} {r : Int} {vs : List AuM} (hP : PC k c P) (hok : AOk c) (h : Pre P c r vs) : Post P c r (addsTo k c vs c.st.length) := by
  have := Mid.all hP hok h c.st.length (Nat.le_refl _)
  exact ⟨this.len, fun i hi hd => this.done i hi hd, this.hi⟩
theorem roundTo_vs {P : Nat → AuM → Prop} {e : EM} {ts : List TrM} {es ss : List Int} (hlt : ∀ j, j < ss.length → (ss.getD j 0).toNat < e.vs.length)
    (hp : ∀ j, j < ss.length → P (ss.getD j 0).toNat (tripleUse e.k (trAt ts j) (rD e (trAt ts j) (errAt es (2 * j)) (ss.getD j 0).toNat) (rE e (trAt ts j) (errAt es (2 * j + 1)) (ss.getD j 0).toNat))) :
    ∀ j, j ≤ ss.length → ∀ i, (∃ q, q < j ∧ (ss.getD q 0).toNat = i) ∧ P i (getA (roundTo e ts es ss j).vs i) ∨ (¬ ∃ q, q < j ∧ (ss.getD q 0).toNat = i) ∧ getA (roundTo e ts es ss j).vs i = getA e.vs i
  | 0, _, i => .inr ⟨by rintro ⟨q, hq, _⟩; omega, rfl⟩
  | j + 1, hj, i => by
    have ih := roundTo_vs hlt hp j (by omega) i
    have hl := (roundTo_fix e ts es ss j).2.2.2.1
    show _ ∧ P i (getA (List.set _ _ _) i) ∨ _ ∧ getA (List.set _ _ _) i = _
    rw [getA_set]
    by_cases e : (ss.getD j 0).toNat = i
    · left
      subst e
      rw [if_pos ⟨rfl, by rw [hl]; exact hlt j (by omega)⟩]
      exact ⟨⟨j, by omega, rfl⟩, hp j (by omega)⟩
    · rw [if_neg (fun x => e x.1)]
      rcases ih with ⟨⟨q, h1, h2⟩, h3⟩ | ⟨h1, h2⟩
      · exact .inl ⟨⟨q, by omega, h2⟩, h3⟩
      · refine .inr ⟨?_, h2⟩
        rintro ⟨q, h3, h4⟩
        by_cases e' : q = j
        · subst e'; exact e h4
        · exact h1 ⟨q, by omega, h4⟩
theorem getD_mem {l : List Int} {j : Nat} (h : j < l.length) : l.getD j 0 ∈ l := by
  rw [getI l j h]; exact List.getElem_mem h
theorem round_post {e : EM} {P : Nat → AuM → Prop} {ts : List TrM} {es : List Int} {r : Nat} (hP : PC e.k e.c P) (hok : AOk e.c) (hr : e.rd = r) (h : Post P e.c r e.vs)
    (hm : ∀ j, j < (mulsOf e).length → P ((mulsOf e).getD j 0).toNat (tripleUse e.k (trAt ts j) (rD e (trAt ts j) (errAt es (2 * j)) ((mulsOf e).getD j 0).toNat) (rE e (trAt ts j) (errAt es (2 * j + 1)) ((mulsOf e).getD j 0).toNat))) :
    Post P e.c ((r + 1 : Nat) : Int) (roundEnd e (roundTo e ts es (mulsOf e) (mulsOf e).length)).vs := by
  have hmem : ∀ j, j < (mulsOf e).length → ∃ i : Nat, i < e.c.st.length ∧ ((mulsOf e).getD j 0).toNat = i ∧ (stAt e.c i).1 = 4 ∧ depAt e.c i = r + 1 := fun j hj => by
    obtain ⟨i, h1, h2, h3, h4⟩ := (mulsAt_iff hok _ _).1 (getD_mem hj)
    have h2' : (mulsOf e).getD j 0 = (i : Int) := h2
    exact ⟨i, h1, by rw [h2']; rfl, h3, by rw [h4, hr]⟩
  have hv := roundTo_vs (P := P) (e := e) (ts := ts) (es := es) (ss := mulsOf e) (fun j hj => by
    obtain ⟨i, h1, h2, _⟩ := hmem j hj
    rw [h2, h.len]; exact h1) hm (mulsOf e).length (Nat.le_refl _)
  have hl := (roundTo_fix e ts es (mulsOf e) (mulsOf e).length).2.2.2.1
  have hpre : Pre P e.c ((r + 1 : Nat) : Int) (roundTo e ts es (mulsOf e) (mulsOf e).length).vs := by
    refine ⟨by rw [hl, h.len], fun i hi hd => ?_, fun i hi hd => ?_⟩
    · rcases hv i with ⟨_, h1⟩ | ⟨h1, h2⟩
      · exact .inl h1
      · rw [h2]
        by_cases h5 : depAt e.c i ≤ r
        · exact .inl (h.lo i hi h5)
        · have hz := h.hi i hi (by omega)
          by_cases h4 : (stAt e.c i).1 = 4
          · exfalso
            have hin : (i : Int) ∈ mulsOf e := (mulsAt_iff hok _ _).2 ⟨i, hi, rfl, h4, by rw [hr]; omega⟩
            obtain ⟨q, hq, hq'⟩ := List.getElem_of_mem hin
            exact h1 ⟨q, hq, by rw [getI _ _ hq, hq']; rfl⟩
          · by_cases h3 : (stAt e.c i).1 = 3
            · exact .inr ⟨h3, hz⟩
            · have := dep_none hi h3 h4
              omega
    · rcases hv i with ⟨⟨q, h1, h2⟩, _⟩ | ⟨h1, h2⟩
      · obtain ⟨i', h3, h4, _, h6⟩ := hmem q h1
        rw [h2] at h4
        subst h4
        omega
      · rw [h2]
        exact h.hi i hi (by omega)
  exact adds_post hP hok hpre
end Go.Proofs.Ythaadgdeadbhkaa
/-
  The engine in rounds: forms and values behind each round; wrong openings. No program.
-/
namespace Go.Proofs.Ythaadgdeadbhkaa
set_option linter.unusedVariables false
set_option linter.unusedSimpArgs false
theorem evS_get (m : AM) (ins : List Int) : ∀ (k j : Nat), j < k → (evS m ins k).getD j 0 = evD m.p ins (evS m ins j) (stAt m j)
  | 0, j, h => by omega
  | k + 1, j, h => by
    rw [evS, List.getD_eq_getElem?_getD, List.getElem?_append, evS_len]
    by_cases e : j = k
    · subst e
      rw [if_neg (by omega)]
      simp
    · rw [if_pos (by omega), ← List.getD_eq_getElem?_getD]
      exact evS_get m ins k j (by omega)
theorem evS_pre' (m : AM) (ins : List Int) {k j i : Nat} (h1 : i < j) (h2 : j ≤ k) : (evS m ins j).getD i 0 = (evS m ins k).getD i 0 := by
  rw [evS_get m ins j i h1, evS_get m ins k i (by omega)]
def valAt (c : AM) (ins : List Int) (i : Nat) : Int := (evS c ins c.st.length).getD i 0
theorem val_in {c : AM} {ins : List Int} {i : Nat} (hi : i < c.st.length) (h1 : (stAt c i).1 = 1) : valAt c ins i = ins.getD (stAt c i).2.1.toNat 0 := by
  unfold valAt
  rw [evS_get _ _ _ _ hi, evD, if_pos h1]
theorem val_const {c : AM} {ins : List Int} {i : Nat} (hi : i < c.st.length) (h2 : (stAt c i).1 = 2) : valAt c ins i = (stAt c i).2.1 := by
  unfold valAt
  rw [evS_get _ _ _ _ hi, evD, if_neg (by omega), if_neg (by omega), if_neg (by omega)]
theorem val_add {c : AM} {ins : List Int} {i : Nat} (hok : AOk c) (hi : i < c.st.length) (h3 : (stAt c i).1 = 3) : valAt c ins i = (valAt c ins (stAt c i).2.1.toNat + valAt c ins (stAt c i).2.2.toNat) % c.p := by
  obtain ⟨h1, h2, _⟩ := ops_of hok hi (.inl h3)
  unfold valAt
  rw [evS_get _ _ _ _ hi, evD, if_neg (by omega), if_pos h3, evS_pre' c ins h1 (Nat.le_of_lt hi), evS_pre' c ins h2 (Nat.le_of_lt hi)]
theorem val_mul {c : AM} {ins : List Int} {i : Nat} (hok : AOk c) (hi : i < c.st.length) (h4 : (stAt c i).1 = 4) : valAt c ins i = (valAt c ins (stAt c i).2.1.toNat * valAt c ins (stAt c i).2.2.toNat) % c.p := by
  obtain ⟨h1, h2, _⟩ := ops_of hok hi (.inr h4)
  unfold valAt
  rw [evS_get _ _ _ _ hi, evD, if_neg (by omega), if_neg (by omega), if_pos h4, evS_pre' c ins h1 (Nat.le_of_lt hi), evS_pre' c ins h2 (Nat.le_of_lt hi)]
structure Fit (k : KM) (c : AM) (P : Nat) (ins : List Int) : Prop where
  kb : keysB k = true
  ok : AOk c
  pp : k.p = c.p
  pn : k.p = P
  len : ins.length = 60
  el : elemsB c.p ins = true
theorem Fit.fld {k : KM} {c : AM} {P : Nat} {ins : List Int} (h : Fit k c P ins) : fieldB k.p = true := (keys_is h.kb).1
def PF (k : KM) (i : Nat) (a : AuM) : Prop := formB k a = true
def PG (k : KM) (c : AM) (ins : List Int) (i : Nat) (a : AuM) : Prop := Good k a (valAt c ins i)
theorem PF.pc {k : KM} {c : AM} : PC k c (PF k) := ⟨fun _ _ h => h, fun i _ _ x y hx hy => (form_add hx hy).2⟩
theorem PG.pc {k : KM} {c : AM} {P : Nat} {ins : List Int} (h : Fit k c P ins) : PC k c (PG k c ins) :=
  ⟨fun _ _ h => h.form, fun i hi h3 x y hx hy => by
    unfold PG
    rw [val_add h.ok hi h3, ← h.pp]
    exact Good.add hx hy⟩
theorem init_good {k : KM} {c : AM} {P s : Nat} {ins : List Int} (h : Fit k c P ins) {i : Nat} (hi : i < c.st.length) (h12 : (stAt c i).1 = 1 ∨ (stAt c i).1 = 2) : Good k (initV k c P s ins i) (valAt c ins i) := by
  have hst := h.ok.steps i hi
  unfold initV
  by_cases h1 : (stAt c i).1 = 1
  · rw [if_pos h1, val_in hi h1]
    have h5 := ins_rng h.el (stAt c i).2.1.toNat
    exact Good.new h.kb h.pn (elemB_mk h.fld (by omega) (by rw [h.pp]; omega))
  · have h2 : (stAt c i).1 = 2 := by omega
    rw [if_neg h1, if_pos h2, val_const hi h2]
    unfold stepB at hst
    rw [if_neg h1, if_pos h2] at hst
    simp only [Bool.and_eq_true] at hst
    have hx : elemB k.p (stAt c i).2.1 = true := by rw [h.pp]; exact hst.1
    have := (Good.zeros h.kb).const hx
    have h9 := elemB_is hx
    rw [Int.zero_add, Int.emod_eq_of_lt (by omega) (by omega)] at this
    exact this
theorem init_pre {k : KM} {c : AM} {P s : Nat} {ins : List Int} (h : Fit k c P ins) {Q : Nat → AuM → Prop} (hQ : ∀ i a, PG k c ins i a → Q i a) : Pre Q c 0 (initL k c P s ins) := by
  refine ⟨initL_len .., fun i hi hd => ?_, fun i hi hd => ?_⟩
  · rw [initL_at _ _ _ _ _ hi]
    by_cases h12 : (stAt c i).1 = 1 ∨ (stAt c i).1 = 2
    · exact .inl (hQ i _ (init_good h hi h12))
    · by_cases h4 : (stAt c i).1 = 4
      · have := dep_mul h.ok hi h4
        have := dep_pos c (stAt c i).2.1.toNat
        omega
      · have hst := h.ok.steps i hi
        have h3 : (stAt c i).1 = 3 := by
          unfold stepB at hst
          rw [if_neg (fun e => h12 (.inl e)), if_neg (fun e => h12 (.inr e))] at hst
          by_cases h34 : (stAt c i).1 = 3 ∨ (stAt c i).1 = 4
          · omega
          · rw [if_neg h34] at hst; cases hst
        refine .inr ⟨h3, ?_⟩
        unfold initV
        rw [if_neg (by omega), if_neg (by omega)]
        rfl
  · rw [initL_at _ _ _ _ _ hi]
    unfold initV
    by_cases h3 : (stAt c i).1 = 3 ∨ (stAt c i).1 = 4
    · rw [if_neg (by omega), if_neg (by omega)]; rfl
    · have := dep_none (m := c) hi (by omega) (by omega)
      omega
def tripF (k : KM) (ts : List TrM) (n : Nat) : Prop := n ≤ ts.length ∧ ∀ j, j < n → formB k (trAt ts j).a = true ∧ formB k (trAt ts j).b = true ∧ formB k (trAt ts j).c = true
def tripG (k : KM) (ts : List TrM) (n : Nat) : Prop := n ≤ ts.length ∧ ∀ j, j < n → ∃ u v, GoodT k (trAt ts j) u v
theorem tripG.f {k : KM} {ts : List TrM} {n : Nat} (h : tripG k ts n) : tripF k ts n := ⟨h.1, fun j hj => by
  obtain ⟨u, v, h1⟩ := h.2 j hj
  exact ⟨h1.a.form, h1.b.form, h1.c.form⟩⟩
theorem trsN_good {k : KM} {P s a n : Nat} (hk : keysB k = true) (hP : k.p = P) : tripG k (trsN k P s a n) n :=
  ⟨by rw [trsN_len]; exact Nat.le_refl _, fun j hj => by rw [trsN_at hj]; exact ⟨_, _, GoodT.new hk hP⟩⟩
structure At (Q : Nat → AuM → Prop) (k : KM) (c : AM) (r : Nat) (e : EM) : Prop where
  ek : e.k = k
  ec : e.c = c
  rd : e.rd = r
  post : Post Q c r e.vs
theorem muls_lt {e : EM} (hok : AOk e.c) {r : Nat} (hr : e.rd = r) {j : Nat} (hj : j < (mulsOf e).length) : ∃ i : Nat, i < e.c.st.length ∧ (mulsOf e).getD j 0 = i ∧ (stAt e.c i).1 = 4 ∧ depAt e.c i = r + 1 ∧ (stAt e.c i).2.1.toNat < i ∧ (stAt e.c i).2.2.toNat < i ∧ depAt e.c (stAt e.c i).2.1.toNat ≤ r ∧ depAt e.c (stAt e.c i).2.2.toNat ≤ r := by
  obtain ⟨i, h1, h2, h3, h4⟩ := (mulsAt_iff hok _ _).1 (getD_mem hj)
  have h5 := dep_mul hok h1 h3
  obtain ⟨h6, h7, _⟩ := ops_of hok h1 (.inr h3)
  exact ⟨i, h1, h2, h3, by rw [h4, hr], h6, h7, by omega, by omega⟩
theorem At.may {Q : Nat → AuM → Prop} {k : KM} {c : AM} {P r : Nat} {ins : List Int} {e : EM} (hf : Fit k c P ins) (hQ : ∀ i a, Q i a → formB k a = true) (h : At Q k c r e) (hb : e.bad = false) (hr : (r : Int) < rounds c) {ts : List TrM} {es : List Int} (ht : tripF k ts (mulsOf e).length) (he : elemsB k.p es = true) : mayB e ts es = true := by
  obtain ⟨h1, h2, h3, h4⟩ := h
  have hR := rounds_bd c
  unfold mayB engOkB
  rw [h1, h2, hb, h3, hf.kb, arithB_yes hf.ok, he]
  simp only [Bool.and_eq_true, Bool.not_eq_true', decide_eq_true_eq, beq_iff_eq, Bool.true_and, Bool.not_false, Bool.and_true, List.all_eq_true]
  refine ⟨⟨⟨⟨⟨⟨hf.pp, h4.len⟩, inQ_yes (by omega) (by omega)⟩, fun a ha => ?_⟩, hr⟩, ht.1⟩, fun j hj => ?_⟩
  · obtain ⟨i, hi, rfl⟩ := List.getElem_of_mem ha
    have e1 : getA e.vs i = e.vs[i] := by unfold getA; rw [List.getD_eq_getElem?_getD, List.getElem?_eq_getElem hi]; rfl
    unfold okV
    by_cases hd : depAt c i ≤ r
    · have := hQ i _ (h4.lo i (by rw [← h4.len]; exact hi) hd)
      rw [e1] at this
      rw [this, Bool.or_true]
    · have := h4.hi i (by rw [← h4.len]; exact hi) (by omega)
      rw [e1] at this
      rw [this, Bool.true_or]
  · rw [List.mem_range] at hj
    obtain ⟨i, i1, i2, i3, i4, i5, i6, i7, i8⟩ := muls_lt (e := e) (by rw [h2]; exact hf.ok) h3 hj
    rw [h2] at i1 i3 i4 i5 i6 i7 i8
    obtain ⟨t1, t2, t3⟩ := ht.2 j hj
    have f1 := hQ _ _ (h4.lo _ (by omega) i7)
    have f2 := hQ _ _ (h4.lo _ (by omega) i8)
    unfold tripOk opA opB
    rw [i2, Int.toNat_natCast, h1, h2, t1, t2, t3, form_nz f1, form_nz f2]
    rfl
theorem At.next {Q : Nat → AuM → Prop} {k : KM} {c : AM} {P r : Nat} {ins : List Int} {e : EM} (hf : Fit k c P ins) (hQ : PC k c Q) (h : At Q k c r e) {ts : List TrM} {es : List Int}
    (hm : ∀ j, j < (mulsOf e).length → Q ((mulsOf e).getD j 0).toNat (tripleUse e.k (trAt ts j) (rD e (trAt ts j) (errAt es (2 * j)) ((mulsOf e).getD j 0).toNat) (rE e (trAt ts j) (errAt es (2 * j + 1)) ((mulsOf e).getD j 0).toNat))) : At Q k c (r + 1) (roundEnd e (roundTo e ts es (mulsOf e) (mulsOf e).length)) := by
  obtain ⟨h1, h2, h3, h4⟩ := h
  have hfix := roundTo_fix e ts es (mulsOf e) (mulsOf e).length
  have hp := round_post (e := e) (P := Q) (ts := ts) (es := es) (r := r) (by rw [h1, h2]; exact hQ) (by rw [h2]; exact hf.ok) h3 (by rw [h2]; exact h4) hm
  refine ⟨hfix.1.trans h1, hfix.2.1.trans h2, ?_, by rw [← h2]; exact hp⟩
  show e.rd + 1 = _
  rw [h3]; rfl
theorem open_is {k : KM} {c : AM} {P r : Nat} {ins : List Int} {e : EM} (hf : Fit k c P ins) (h : At (PG k c ins) k c r e) {j : Nat} (hj : j < (mulsOf e).length) {x : TrM} {u v er : Int} (hx : GoodT k x u v) :
    ∃ i : Nat, (mulsOf e).getD j 0 = i ∧ i < c.st.length ∧ (stAt c i).1 = 4 ∧ Good k (opA e i) (valAt c ins (stAt c i).2.1.toNat) ∧ Good k (opB e i) (valAt c ins (stAt c i).2.2.toNat) ∧
      rD e x er i = ((valAt c ins (stAt c i).2.1.toNat - u) % k.p + er) % k.p ∧ rE e x er i = ((valAt c ins (stAt c i).2.2.toNat - v) % k.p + er) % k.p := by
  obtain ⟨h1, h2, h3, h4⟩ := h
  obtain ⟨i, i1, i2, i3, i4, i5, i6, i7, i8⟩ := muls_lt (e := e) (by rw [h2]; exact hf.ok) h3 hj
  rw [h2] at i1 i3 i4 i5 i6 i7 i8
  have ga : Good k (opA e i) (valAt c ins (stAt c i).2.1.toNat) := by
    unfold opA; rw [h2]
    exact h4.lo _ (by omega) i7
  have gb : Good k (opB e i) (valAt c ins (stAt c i).2.2.toNat) := by
    unfold opB; rw [h2]
    exact h4.lo _ (by omega) i8
  have ho : openB k (opA e i) (opB e i) x = true := by unfold openB; rw [ga.form, gb.form, hx.a.form, hx.b.form]; rfl
  refine ⟨i, i2, i1, i3, ga, gb, ?_, ?_⟩
  · unfold rD openD; rw [h1, if_pos ho, ga.sh, hx.a.sh]
  · unfold rE openE; rw [h1, if_pos ho, gb.sh, hx.b.sh]
theorem At.nextG {k : KM} {c : AM} {P r : Nat} {ins : List Int} {e : EM} (hf : Fit k c P ins) (h : At (PG k c ins) k c r e) {ts : List TrM} {es : List Int} (ht : tripG k ts (mulsOf e).length) (hz : ∀ j, j < (mulsOf e).length → errAt es (2 * j) = 0 ∧ errAt es (2 * j + 1) = 0) : At (PG k c ins) k c (r + 1) (roundEnd e (roundTo e ts es (mulsOf e) (mulsOf e).length)) := by
  refine h.next hf (PG.pc hf) fun j hj => ?_
  obtain ⟨u, v, hx⟩ := ht.2 j hj
  obtain ⟨z1, z2⟩ := hz j hj
  obtain ⟨i, e1, e2, e3, ga, gb, e4, _⟩ := open_is hf h hj (er := errAt es (2 * j)) hx
  obtain ⟨i', e1', _, _, _, _, _, e5⟩ := open_is hf h hj (er := errAt es (2 * j + 1)) hx
  rw [e1] at e1'
  have : i = i' := by omega
  subst this
  rw [e1, Int.toNat_natCast, e4, e5, z1, z2, Int.add_zero, Int.add_zero, em1, em1, h.ek]
  unfold PG
  rw [val_mul hf.ok e2 e3, ← hf.pp]
  exact hx.use ga.rng gb.rng rfl rfl
theorem roundTo_bad (e : EM) (ts : List TrM) (es ss : List Int) : ∀ j, (roundTo e ts es ss j).bad = true ↔ e.bad = true ∨ ∃ q, q < j ∧ rBad e (trAt ts q) (rD e (trAt ts q) (errAt es (2 * q)) (ss.getD q 0).toNat) (rE e (trAt ts q) (errAt es (2 * q + 1)) (ss.getD q 0).toNat) (ss.getD q 0).toNat = true
  | 0 => by
    show e.bad = true ↔ _
    constructor
    · exact .inl
    · rintro (h | ⟨q, h, _⟩)
      · exact h
      · omega
  | j + 1 => by
    show ((roundTo e ts es ss j).bad || _) = true ↔ _
    rw [Bool.or_eq_true, roundTo_bad e ts es ss j]
    constructor
    · rintro ((h | ⟨q, h1, h2⟩) | h)
      · exact .inl h
      · exact .inr ⟨q, by omega, h2⟩
      · exact .inr ⟨j, by omega, h⟩
    · rintro (h | ⟨q, h1, h2⟩)
      · exact .inl (.inl h)
      · by_cases e' : q = j
        · subst e'; exact .inr h2
        · exact .inl (.inr ⟨q, by omega, h2⟩)
theorem rBad_iff {k : KM} {c : AM} {P r : Nat} {ins : List Int} {e : EM} (hf : Fit k c P ins) (h : At (PG k c ins) k c r e) {j : Nat} (hj : j < (mulsOf e).length) {x : TrM} {u v e1 e2 : Int} (hx : GoodT k x u v) (h1 : elemB k.p e1 = true) (h2 : elemB k.p e2 = true) :
    (e1 = 0 ∧ e2 = 0 → rBad e x (rD e x e1 ((mulsOf e).getD j 0).toNat) (rE e x e2 ((mulsOf e).getD j 0).toNat) ((mulsOf e).getD j 0).toNat = false) ∧
    (fsum k.p k.al ≠ 0 → rBad e x (rD e x e1 ((mulsOf e).getD j 0).toNat) (rE e x e2 ((mulsOf e).getD j 0).toNat) ((mulsOf e).getD j 0).toNat = false → e1 = 0 ∧ e2 = 0) := by
  obtain ⟨i, q1, q2, q3, ga, gb, q4, _⟩ := open_is hf h hj (er := e1) hx
  obtain ⟨i', q1', _, _, _, _, _, q5⟩ := open_is hf h hj (er := e2) hx
  rw [q1] at q1'
  have : i = i' := by omega
  subst this
  have hp := hf.fld
  obtain ⟨p2, _⟩ := field_range hp
  rw [q1, Int.toNat_natCast, q4, q5]
  unfold rBad
  rw [h.ek, ga.minus hx.a _ (femod_elem hp _), gb.minus hx.b _ (femod_elem hp _)]
  obtain ⟨_, _, _, a1, a2⟩ := elemB_is h1
  obtain ⟨_, _, _, b1, b2⟩ := elemB_is h2
  constructor
  · rintro ⟨rfl, rfl⟩
    rw [Int.add_zero, Int.add_zero, em1, em1]
    simp
  · intro h0 hb
    simp only [Bool.or_eq_false_iff, Bool.not_eq_false', beq_iff_eq] at hb
    exact ⟨wrong_caught hp (fsum_rng p2 k.al) h0 hb.1 ⟨a1, a2⟩, wrong_caught hp (fsum_rng p2 k.al) h0 hb.2 ⟨b1, b2⟩⟩
end Go.Proofs.Ythaadgdeadbhkaa
/-
  EngineOutputs of the program.
-/
namespace Go.Proofs.Ythaadgdeadbhkaa
open Go.RowKit
set_option linter.unusedVariables false
set_option linter.unusedSimpArgs false
theorem engOk_is {m : EM} (h : engOkB m = true) : keysB m.k = true ∧ AOk m.c ∧ m.k.p = m.c.p ∧ m.vs.length = m.c.st.length ∧ inQ m.rd 0 60 = true ∧ ∀ i, okV m.k (getA m.vs i) = true := by
  unfold engOkB at h
  simp only [Bool.and_eq_true, beq_iff_eq, decide_eq_true_eq, List.all_eq_true] at h
  obtain ⟨⟨⟨⟨⟨h1, h2⟩, h3⟩, h4⟩, h5⟩, h6⟩ := h
  refine ⟨h1, arithB_is h2, h3, h4, h5, fun i => ?_⟩
  rcases Nat.lt_or_ge i m.vs.length with h7 | h7
  · have : getA m.vs i = m.vs[i] := by unfold getA; rw [List.getD_eq_getElem?_getD, List.getElem?_eq_getElem h7]; rfl
    rw [this]
    exact h6 _ (List.getElem_mem h7)
  · rw [getA_out h7]
    exact okV_zero rfl
def OutJ (m : EM) (w : World) (e : Ending) (w' : World) : Prop := ∃ V, e = .returned (.tuple #[V, .bool (outB m)]) ∧ w'.ownsRow w.heap.size 3 1 V (outR m).length ((outR m).map (Value.int .i64)) ∧ w.grownBy w' none
theorem OutJ.no {m : EM} {w w' : World} (h : outB m = false) (hg : w.grownBy w' none) : OutJ m w (.returned (.tuple #[.slice none 0 0, .bool false])) w' := by
  refine ⟨_, by rw [h], ?_, hg⟩
  unfold outR
  rw [h]
  exact World.ownsRow_nil w' _ _ _
end Go.Proofs.Ythaadgdeadbhkaa
/-
  mayRound of the program (printed by wip/gen_may.py).
-/
namespace Go.Proofs.Ythaadgdeadbhkaa
open Go.RowKit
set_option linter.unusedVariables false
set_option linter.unusedSimpArgs false
theorem mayB_no1 {m : EM} {ts : List TrM} {es : List Int} (h : engOkB m = false) : mayB m ts es = false := by unfold mayB; rw [h]; rfl
theorem mayB_no2 {m : EM} {ts : List TrM} {es : List Int} (h : m.bad = true) : mayB m ts es = false := by unfold mayB; rw [h]; simp
theorem mayB_no3 {m : EM} {ts : List TrM} {es : List Int} (h : ¬ m.rd < rounds m.c) : mayB m ts es = false := by unfold mayB; simp [h]
theorem mayB_no4 {m : EM} {ts : List TrM} {es : List Int} (h : ¬ (mulsOf m).length ≤ ts.length) : mayB m ts es = false := by unfold mayB; simp [h]
theorem mayB_no5 {m : EM} {ts : List TrM} {es : List Int} (h : elemsB m.k.p es = false) : mayB m ts es = false := by unfold mayB; simp [h]
theorem mayB_at {m : EM} {ts : List TrM} {es : List Int} (h1 : engOkB m = true) (h2 : m.bad = false) (h3 : m.rd < rounds m.c) (h4 : (mulsOf m).length ≤ ts.length) (h5 : elemsB m.k.p es = true) :
    mayB m ts es = (List.range (mulsOf m).length).all fun j => tripOk m (trAt ts j) ((mulsOf m).getD j 0).toNat := by unfold mayB; simp [h1, h2, h3, h4, h5]
end Go.Proofs.Ythaadgdeadbhkaa
/-
  errorAt of the program; facts of regions that only grow.
-/
namespace Go.Proofs.Ythaadgdeadbhkaa
open Go.RowKit
set_option linter.unusedVariables false
set_option linter.unusedSimpArgs false
theorem sT_nil : stables [] := fun R hR => by simp at hR
theorem sT_cons {R : Value → World → Prop} {T : List (Value → World → Prop)} (h : stable R) (k : stables T) : stables (R :: T) := fun Q hQ => by
  rcases List.mem_cons.1 hQ with rfl | hQ
  · exact h
  · exact k Q hQ
theorem errAt_el {p : Int} {es : List Int} (h : elemsB p es = true) (i : Nat) : elemB p (errAt es i) = true := by
  obtain ⟨hf, p2, _, h1⟩ := elemsB_is h
  unfold errAt
  rw [List.getD_eq_getElem?_getD]
  cases hi : es[i]? with
  | none => exact elemB_mk hf (by simp) (by simp; omega)
  | some z => exact elemB_mk hf (h1 z (List.mem_of_getElem? hi)).1 (h1 z (List.mem_of_getElem? hi)).2
end Go.Proofs.Ythaadgdeadbhkaa
/-
  addAll of the program (printed by wip/gen_adds.py).
-/
namespace Go.Proofs.Ythaadgdeadbhkaa
open Go.RowKit
set_option linter.unusedVariables false
set_option linter.unusedSimpArgs false
theorem addOk_eq {c : AM} {vs : List AuM} {i : Nat} {x y z : Int} (h : stAt c i = (x, y, z)) : addOk c vs i = ((x == 3) && zeroA (getA vs i) && !zeroA (getA vs y.toNat) && !zeroA (getA vs z.toNat)) := by unfold addOk; rw [h]
end Go.Proofs.Ythaadgdeadbhkaa
/-
  EngineRound of the program: the region that checks what was opened.
-/
namespace Go.Proofs.Ythaadgdeadbhkaa
open Go.RowKit
set_option linter.unusedVariables false
set_option linter.unusedSimpArgs false
def agC (i : Nat) : Value → Value
  | .agg cs => cs.getD i undef
  | _ => undef
def s3A : Value → Option Addr
  | .slice A _ _ => A
  | _ => none
def s3N : Value → Nat
  | .slice _ n _ => n
  | _ => 0
def s3C : Value → Nat
  | .slice _ _ c => c
  | _ => 0
theorem autF.eq {lo : Nat} {m : AuM} {v : Value} {w : World} (h : autF lo m v w) : v = .agg #[.slice (s3A (agC 0 v)) (s3N (agC 0 v)) (s3C (agC 0 v)), .slice (s3A (agC 1 v)) (s3N (agC 1 v)) (s3C (agC 1 v))] := by
  obtain ⟨A, n, c, B, k, d, rfl⟩ := h.form
  rfl
def rb17 (k : KM) (xa xb : AuM) (tx : TrM) (D1 E1 : Int) : Bool := !macCheck k D1 (minusA k xa tx.a) || !macCheck k E1 (minusA k xb tx.b)
end Go.Proofs.Ythaadgdeadbhkaa
/-
  EngineRound of the program.
-/
namespace Go.Proofs.Ythaadgdeadbhkaa
open Go.RowKit
set_option linter.unusedVariables false
set_option linter.unusedSimpArgs false
theorem mayB_is {m : EM} {ts : List TrM} {es : List Int} (h : mayB m ts es = true) : engOkB m = true ∧ m.bad = false ∧ m.rd < rounds m.c ∧ (mulsOf m).length ≤ ts.length ∧ elemsB m.k.p es = true ∧ ∀ j, j < (mulsOf m).length → tripOk m (trAt ts j) ((mulsOf m).getD j 0).toNat = true := by
  unfold mayB at h
  simp only [Bool.and_eq_true, Bool.not_eq_true', decide_eq_true_eq, List.all_eq_true] at h
  obtain ⟨⟨⟨⟨⟨h1, h2⟩, h3⟩, h4⟩, h5⟩, h6⟩ := h
  exact ⟨h1, h2, h3, h4, h5, fun j hj => h6 j (List.mem_range.2 hj)⟩
theorem lit2_cells (w : World) (x y : Value) (e : TypeId) : ∀ j u, ([x, y] : List Value)[j]? = some u → (w.alloc (.cells #[x, y] e)).cell? ((⟨w.heap.size, 0, none⟩ : Addr).add j) = some u := by
  intro j u hu
  have hadd : (⟨w.heap.size, 0, none⟩ : Addr).add j = ⟨w.heap.size, j, none⟩ := by unfold Addr.add; split <;> simp_all
  rw [hadd, cell_of_row _ _ j #[x, y] e (0, 0) (heap_alloc_new w _)]
  simpa using hu
theorem roundTo_awf {m : EM} {ts : List TrM} {es ss : List Int} (h : ∀ a ∈ m.vs, awf a) (ht : ∀ x ∈ ts, twf x) : ∀ j, j ≤ ts.length → ∀ a ∈ (roundTo m ts es ss j).vs, awf a
  | 0, _ => h
  | j + 1, hj => by
    intro a ha
    have ha : a ∈ (roundTo m ts es ss j).vs.set (ss.getD j 0).toNat (tripleUse m.k (trAt ts j) _ _) := ha
    rcases List.mem_or_eq_of_mem_set ha with h1 | h1
    · exact roundTo_awf h ht j (by omega) a h1
    · rw [h1]; exact awf_use (trAt_mem ht (by omega))
theorem step_at {m : EM} (h : engOkB m = true) {j : Nat} (hj : j < (mulsOf m).length) : ∃ (i ya zb : Nat), (mulsOf m).getD j 0 = i ∧ i < m.c.st.length ∧ stAt m.c i = (4, (ya : Int), (zb : Int)) ∧ ya < i ∧ zb < i := by
  obtain ⟨_, hok, _, _, hrd, _⟩ := engOk_is h
  obtain ⟨r, hr⟩ := Int.eq_ofNat_of_zero_le (inQ_is hrd).1
  obtain ⟨i, j1, j2, j3, _⟩ := muls_lt hok hr hj
  obtain ⟨⟨x, y, z⟩, hst⟩ : ∃ s, stAt m.c i = s := ⟨_, rfl⟩
  rw [hst] at j3
  have hx4 : x = 4 := j3
  obtain ⟨ya, zb, hya, hzb, hai, hbi⟩ := step_ops hok j1 hst (.inr hx4)
  subst hya; subst hzb; subst hx4
  exact ⟨i, ya, zb, j2, j1, hst, hai, hbi⟩
end Go.Proofs.Ythaadgdeadbhkaa
