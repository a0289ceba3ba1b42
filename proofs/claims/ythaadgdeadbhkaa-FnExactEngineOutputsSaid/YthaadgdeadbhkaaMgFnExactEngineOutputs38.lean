/-
  The engine in rounds: what stands behind each round. No program.
-/
import Derived.Test.YthaadgdeadbhkaaMgFnExactEngineOutputs30
namespace Go.Proofs.Ythaadgdeadbhkaa
set_option linter.unusedVariables false
set_option linter.unusedSimpArgs false
theorem mulsTo_iff (m : AM) (d : Int) : ∀ (k : Nat) (z : Int), z ∈ mulsTo m d k ↔ ∃ i : Nat, i < k ∧ z = i ∧ (stAt m i).1 = 4 ∧ (mdepth m).getD i 0 = d
  | 0, z => by simp [mulsTo]
  | k + 1, z => by
    rw [mulsTo, List.mem_append, mulsTo_iff m d k z]
    constructor
    · rintro (⟨i, h1, h2⟩ | h)
      · exact ⟨i, by omega, h2⟩
      · split at h
        · rename_i h1
          simp only [List.mem_cons, List.not_mem_nil, or_false] at h
          exact ⟨k, by omega, h, h1.1, h1.2⟩
        · simp at h
    · rintro ⟨i, h1, h2, h3, h4⟩
      by_cases e : i = k
      · subst e
        right
        rw [if_pos ⟨h3, h4⟩, h2]
        simp
      · exact .inl ⟨i, by omega, h2, h3, h4⟩
theorem mulsAt_iff {m : AM} (h : AOk m) (d z : Int) : z ∈ mulsAt m d ↔ ∃ i : Nat, i < m.st.length ∧ z = i ∧ (stAt m i).1 = 4 ∧ depAt m i = d := by
  unfold mulsAt
  rw [mulsTo_iff, mdepth_len h]
  constructor
  · rintro ⟨i, h1, h2, h3, h4⟩
    exact ⟨i, h1, h2, h3, by rw [← depAt_md h]; exact h4⟩
  · rintro ⟨i, h1, h2, h3, h4⟩
    exact ⟨i, h1, h2, h3, by rw [depAt_md h]; exact h4⟩
theorem ops_of {m : AM} (h : AOk m) {i : Nat} (hi : i < m.st.length) (h3 : (stAt m i).1 = 3 ∨ (stAt m i).1 = 4) : (stAt m i).2.1.toNat < i ∧ (stAt m i).2.2.toNat < i ∧ 0 ≤ (stAt m i).2.1 ∧ 0 ≤ (stAt m i).2.2 := by
  have h1 := h.steps i hi
  unfold stepB at h1
  have h4 : ¬ (stAt m i).1 = 1 := by omega
  have h5 : ¬ (stAt m i).1 = 2 := by omega
  rw [if_neg h4, if_neg h5, if_pos h3] at h1
  simp [inB] at h1
  omega
theorem dep_add {m : AM} {i : Nat} (h : AOk m) (hi : i < m.st.length) (h3 : (stAt m i).1 = 3) : depAt m i = max (depAt m (stAt m i).2.1.toNat) (depAt m (stAt m i).2.2.toNat) := by
  obtain ⟨h1, h2, _⟩ := ops_of h hi (.inl h3)
  unfold depAt
  rw [depsS_get m _ i hi, depD, if_pos h3, depsS_pre m h1 (Nat.le_of_lt hi), depsS_pre m h2 (Nat.le_of_lt hi)]
theorem dep_none {m : AM} {i : Nat} (hi : i < m.st.length) (h3 : ¬ (stAt m i).1 = 3) (h4 : ¬ (stAt m i).1 = 4) : depAt m i = 0 := by
  unfold depAt
  rw [depsS_get m _ i hi, depD, if_neg h3, if_neg h4]
structure Post (P : Nat → AuM → Prop) (c : AM) (r : Int) (vs : List AuM) : Prop where
  len : vs.length = c.st.length
  lo : ∀ i, i < c.st.length → depAt c i ≤ r → P i (getA vs i)
  hi : ∀ i, i < c.st.length → r < depAt c i → zeroA (getA vs i) = true
structure Pre (P : Nat → AuM → Prop) (c : AM) (r : Int) (vs : List AuM) : Prop where
  len : vs.length = c.st.length
  lo : ∀ i, i < c.st.length → depAt c i ≤ r → P i (getA vs i) ∨ ((stAt c i).1 = 3 ∧ zeroA (getA vs i) = true)
  hi : ∀ i, i < c.st.length → r < depAt c i → zeroA (getA vs i) = true
structure PC (k : KM) (c : AM) (P : Nat → AuM → Prop) : Prop where
  form : ∀ i a, P i a → formB k a = true
  add : ∀ i, i < c.st.length → (stAt c i).1 = 3 → ∀ x y, P (stAt c i).2.1.toNat x → P (stAt c i).2.2.toNat y → P i (authAdd k x y)
theorem PC.nz {k : KM} {c : AM} {P : Nat → AuM → Prop} (h : PC k c P) {i : Nat} {a : AuM} (ha : P i a) : zeroA a = false := form_nz (h.form i a ha)
structure Mid (P : Nat → AuM → Prop) (c : AM) (r : Int) (j : Nat) (vs : List AuM) : Prop where
  len : vs.length = c.st.length
  done : ∀ i, i < j → depAt c i ≤ r → P i (getA vs i)
  todo : ∀ i, j ≤ i → i < c.st.length → depAt c i ≤ r → P i (getA vs i) ∨ ((stAt c i).1 = 3 ∧ zeroA (getA vs i) = true)
  hi : ∀ i, i < c.st.length → r < depAt c i → zeroA (getA vs i) = true
theorem Mid.step {k : KM} {c : AM} {P : Nat → AuM → Prop} {r : Int} {j : Nat} {vs : List AuM} (hP : PC k c P) (hok : AOk c) (h : Mid P c r j vs) (hj : j < c.st.length) : Mid P c r (j + 1) (addStep k c vs j) := by
  by_cases h3 : (stAt c j).1 = 3
  · obtain ⟨ha, hb, _⟩ := ops_of hok hj (.inl h3)
    have hd := dep_add hok hj h3
    by_cases hr : depAt c j ≤ r
    · have pa := h.done _ ha (by omega)
      have pb := h.done _ hb (by omega)
      by_cases hz : zeroA (getA vs j) = true
      · have e : addStep k c vs j = vs.set j (authAdd k (getA vs (stAt c j).2.1.toNat) (getA vs (stAt c j).2.2.toNat)) := by
          unfold addStep addOk
          rw [if_pos (by rw [h3, hz, hP.nz pa, hP.nz pb]; rfl)]
        rw [e]
        have hx := hP.add j hj h3 _ _ pa pb
        refine ⟨by rw [List.length_set]; exact h.len, fun i hi hd' => ?_, fun i hi hi' hd' => ?_, fun i hi hd' => ?_⟩
        · rw [getA_set]
          by_cases e : j = i
          · subst e; rw [if_pos ⟨rfl, by rw [h.len]; exact hj⟩]; exact hx
          · rw [if_neg (fun x => e x.1)]; exact h.done i (by omega) hd'
        · rw [getA_set, if_neg (fun x => by omega)]; exact h.todo i (by omega) hi' hd'
        · rw [getA_set, if_neg (fun x => by have := x.1; subst this; omega)]; exact h.hi i hi hd'
      · have e : addStep k c vs j = vs := by
          unfold addStep addOk
          rw [if_neg (by simp [hz])]
        rw [e]
        refine ⟨h.len, fun i hi hd' => ?_, fun i hi hi' hd' => h.todo i (by omega) hi' hd', h.hi⟩
        by_cases e : i = j
        · subst e
          rcases h.todo i (Nat.le_refl _) hj hr with h6 | h6
          · exact h6
          · exact absurd h6.2 hz
        · exact h.done i (by omega) hd'
    · have hz := h.hi j hj (by omega)
      have e : addStep k c vs j = vs := by
        unfold addStep addOk
        rw [if_neg]
        intro hx
        simp only [Bool.and_eq_true, Bool.not_eq_true'] at hx
        by_cases h6 : r < depAt c (stAt c j).2.1.toNat
        · have := h.hi _ (by omega) h6
          rw [hx.1.2] at this; cases this
        · have := h.hi (stAt c j).2.2.toNat (by omega) (by omega)
          rw [hx.2] at this; cases this
      rw [e]
      refine ⟨h.len, fun i hi hd' => ?_, fun i hi hi' hd' => h.todo i (by omega) hi' hd', h.hi⟩
      have hij : i < j := by
        by_cases e : i = j
        · subst e; exact absurd hd' hr
        · omega
      exact h.done i hij hd'
  · have e : addStep k c vs j = vs := by
      unfold addStep addOk
      rw [if_neg (by simp [h3])]
    rw [e]
    refine ⟨h.len, fun i hi hd' => ?_, fun i hi hi' hd' => h.todo i (by omega) hi' hd', h.hi⟩
    by_cases e : i = j
    · subst e
      rcases h.todo i (Nat.le_refl _) hj hd' with h6 | h6
      · exact h6
      · exact absurd h6.1 h3
    · exact h.done i (by omega) hd'
theorem Mid.all {k : KM} {c : AM} {P : Nat → AuM → Prop} {r : Int} {vs : List AuM} (hP : PC k c P) (hok : AOk c) (h : Pre P c r vs) : ∀ j, j ≤ c.st.length → Mid P c r j (addsTo k c vs j)
  | 0, _ => ⟨h.len, fun i hi => by omega, fun i _ hi hd => h.lo i hi hd, h.hi⟩
  | j + 1, hj => (Mid.all hP hok h j (by omega)).step hP hok (by omega)
theorem adds_post {k : KM} {c : AM} {P : Nat → AuM → Prop} {r : Int} {vs : List AuM} (hP : PC k c P) (hok : AOk c) (h : Pre P c r vs) : Post P c r (addsTo k c vs c.st.length) := by
  have := Mid.all hP hok h c.st.length (Nat.le_refl _)
  exact ⟨this.len, fun i hi hd => this.done i hi hd, this.hi⟩
theorem roundTo_vs {P : Nat → AuM → Prop} {e : EM} {ts : List TrM} {es ss : List Int} (hlt : ∀ j, j < ss.length → (ss.getD j 0).toNat < e.vs.length)
    (hp : ∀ j, j < ss.length → P (ss.getD j 0).toNat (tripleUse e.k (trAt ts j) (rD e (trAt ts j) (errAt es (2 * j)) (ss.getD j 0).toNat) (rE e (trAt ts j) (errAt es (2 * j + 1)) (ss.getD j 0).toNat))) :
    ∀ j, j ≤ ss.length → ∀ i, (∃ q, q < j ∧ (ss.getD q 0).toNat = i) ∧ P i (getA (roundTo e ts es ss j).vs i) ∨ (¬ ∃ q, q < j ∧ (ss.getD q 0).toNat = i) ∧ getA (roundTo e ts es ss j).vs i = getA e.vs i
  | 0, _, i => .inr ⟨by rintro ⟨q, hq, _⟩; omega, rfl⟩
  | j + 1, hj, i => by
    have ih := roundTo_vs hlt hp j (by omega) i
    have hl := (roundTo_fix e ts es ss j).2.2.2.1
    show _ ∧ P i (getA (List.set _ _ _) i) ∨ _ ∧ getA (List.set _ _ _) i = _
    rw [getA_set]
    by_cases e : (ss.getD j 0).toNat = i
    · left
      subst e
      rw [if_pos ⟨rfl, by rw [hl]; exact hlt j (by omega)⟩]
      exact ⟨⟨j, by omega, rfl⟩, hp j (by omega)⟩
    · rw [if_neg (fun x => e x.1)]
      rcases ih with ⟨⟨q, h1, h2⟩, h3⟩ | ⟨h1, h2⟩
      · exact .inl ⟨⟨q, by omega, h2⟩, h3⟩
      · refine .inr ⟨?_, h2⟩
        rintro ⟨q, h3, h4⟩
        by_cases e' : q = j
        · subst e'; exact e h4
        · exact h1 ⟨q, by omega, h4⟩
theorem getD_mem {l : List Int} {j : Nat} (h : j < l.length) : l.getD j 0 ∈ l := by
  rw [getI l j h]; exact List.getElem_mem h
theorem round_post {e : EM} {P : Nat → AuM → Prop} {ts : List TrM} {es : List Int} {r : Nat} (hP : PC e.k e.c P) (hok : AOk e.c) (hr : e.rd = r) (h : Post P e.c r e.vs)
    (hm : ∀ j, j < (mulsOf e).length → P ((mulsOf e).getD j 0).toNat (tripleUse e.k (trAt ts j) (rD e (trAt ts j) (errAt es (2 * j)) ((mulsOf e).getD j 0).toNat) (rE e (trAt ts j) (errAt es (2 * j + 1)) ((mulsOf e).getD j 0).toNat))) :
    Post P e.c ((r + 1 : Nat) : Int) (roundEnd e (roundTo e ts es (mulsOf e) (mulsOf e).length)).vs := by
  have hmem : ∀ j, j < (mulsOf e).length → ∃ i : Nat, i < e.c.st.length ∧ ((mulsOf e).getD j 0).toNat = i ∧ (stAt e.c i).1 = 4 ∧ depAt e.c i = r + 1 := fun j hj => by
    obtain ⟨i, h1, h2, h3, h4⟩ := (mulsAt_iff hok _ _).1 (getD_mem hj)
    have h2' : (mulsOf e).getD j 0 = (i : Int) := h2
    exact ⟨i, h1, by rw [h2']; rfl, h3, by rw [h4, hr]⟩
  have hv := roundTo_vs (P := P) (e := e) (ts := ts) (es := es) (ss := mulsOf e) (fun j hj => by
    obtain ⟨i, h1, h2, _⟩ := hmem j hj
    rw [h2, h.len]; exact h1) hm (mulsOf e).length (Nat.le_refl _)
  have hl := (roundTo_fix e ts es (mulsOf e) (mulsOf e).length).2.2.2.1
  have hpre : Pre P e.c ((r + 1 : Nat) : Int) (roundTo e ts es (mulsOf e) (mulsOf e).length).vs := by
    refine ⟨by rw [hl, h.len], fun i hi hd => ?_, fun i hi hd => ?_⟩
    · rcases hv i with ⟨_, h1⟩ | ⟨h1, h2⟩
      · exact .inl h1
      · rw [h2]
        by_cases h5 : depAt e.c i ≤ r
        · exact .inl (h.lo i hi h5)
        · have hz := h.hi i hi (by omega)
          by_cases h4 : (stAt e.c i).1 = 4
          · exfalso
            have hin : (i : Int) ∈ mulsOf e := (mulsAt_iff hok _ _).2 ⟨i, hi, rfl, h4, by rw [hr]; omega⟩
            obtain ⟨q, hq, hq'⟩ := List.getElem_of_mem hin
            exact h1 ⟨q, hq, by rw [getI _ _ hq, hq']; rfl⟩
          · by_cases h3 : (stAt e.c i).1 = 3
            · exact .inr ⟨h3, hz⟩
            · have := dep_none hi h3 h4
              omega
    · rcases hv i with ⟨⟨q, h1, h2⟩, _⟩ | ⟨h1, h2⟩
      · obtain ⟨i', h3, h4, _, h6⟩ := hmem q h1
        rw [h2] at h4
        subst h4
        omega
      · rw [h2]
        exact h.hi i hi (by omega)
  exact adds_post hP hok hpre
end Go.Proofs.Ythaadgdeadbhkaa
