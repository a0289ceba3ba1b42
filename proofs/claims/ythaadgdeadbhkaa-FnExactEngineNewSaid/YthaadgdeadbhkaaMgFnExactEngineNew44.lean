/-
  Lists of triples: what they read as.
-/
import Derived.Test.YthaadgdeadbhkaaMgFnExactEngineNew29
import Derived.Test.YthaadgdeadbhkaaMgFnExactEngineNew42
import Derived.Test.YthaadgdeadbhkaaMgFnExactEngineNew27
import Derived.Test.YthaadgdeadbhkaaMgFnExactEngineNew28
import Derived.Test.YthaadgdeadbhkaaMgFnExactEngineNew30
import Derived.Test.YthaadgdeadbhkaaMgFnExactEngineNew34
import Derived.Test.YthaadgdeadbhkaaMgFnExactEngineNew35
namespace Go.Proofs.Ythaadgdeadbhkaa
open Go.RowKit
set_option linter.unusedVariables false
set_option linter.unusedSimpArgs false
abbrev ctriples (xs : List TrM) : CS := lst 46 6 ctriple xs
structure TrC (w : World) (x : TrM) (A B C D E F : Option Addr) (a b c d e f : Nat) : Prop where
  tr : AggR w (ctriple x) (.agg #[.slice A x.a.sh.length a, .slice B x.a.mc.length b, .slice C x.b.sh.length c, .slice D x.b.mc.length d, .slice E x.c.sh.length e, .slice F x.c.mc.length f])
  xa : AggR w (cauth x.a) (.agg #[.slice A x.a.sh.length a, .slice B x.a.mc.length b])
  xb : AggR w (cauth x.b) (.agg #[.slice C x.b.sh.length c, .slice D x.b.mc.length d])
  xc : AggR w (cauth x.c) (.agg #[.slice E x.c.sh.length e, .slice F x.c.mc.length f])
theorem TrC.grow {w w' : World} {x : TrM} {A B C D E F : Option Addr} {a b c d e f : Nat} (h : TrC w x A B C D E F a b c d e f) (g : w.grownBy w' none) : TrC w' x A B C D E F a b c d e f := ⟨h.tr.grow g, h.xa.grow g, h.xb.grow g, h.xc.grow g⟩
end Go.Proofs.Ythaadgdeadbhkaa
/-
  The engine in rounds: what stands behind each round. No program.
-/
namespace Go.Proofs.Ythaadgdeadbhkaa
set_option linter.unusedVariables false
set_option linter.unusedSimpArgs false
theorem mulsTo_iff (m : AM) (d : Int) : ∀ (k : Nat) (z : Int), z ∈ mulsTo m d k ↔ ∃ i : Nat, i < k ∧ z = i ∧ (stAt m i).1 = 4 ∧ (mdepth m).getD i 0 = d
  | 0, z => by simp [mulsTo]
  | k + 1, z => by
    rw [mulsTo, List.mem_append, mulsTo_iff m d k z]
    constructor
    · rintro (⟨i, h1, h2⟩ | h)
      · exact ⟨i, by omega, h2⟩
      · split at h
        · rename_i h1
          simp only [List.mem_cons, List.not_mem_nil, or_false] at h
          exact ⟨k, by omega, h, h1.1, h1.2⟩
        · simp at h
    · rintro ⟨i, h1, h2, h3, h4⟩
      by_cases e : i = k
      · subst e
        right
        rw [if_pos ⟨h3, h4⟩, h2]
        simp
      · exact .inl ⟨i, by omega, h2, h3, h4⟩
theorem mulsAt_iff {m : AM} (h : AOk m) (d z : Int) : z ∈ mulsAt m d ↔ ∃ i : Nat, i < m.st.length ∧ z = i ∧ (stAt m i).1 = 4 ∧ depAt m i = d := by
  unfold mulsAt
  rw [mulsTo_iff, mdepth_len h]
  constructor
  · rintro ⟨i, h1, h2, h3, h4⟩
    exact ⟨i, h1, h2, h3, by rw [← depAt_md h]; exact h4⟩
  · rintro ⟨i, h1, h2, h3, h4⟩
    exact ⟨i, h1, h2, h3, by rw [depAt_md h]; exact h4⟩
theorem ops_of {m : AM} (h : AOk m) {i : Nat} (hi : i < m.st.length) (h3 : (stAt m i).1 = 3 ∨ (stAt m i).1 = 4) : (stAt m i).2.1.toNat < i ∧ (stAt m i).2.2.toNat < i ∧ 0 ≤ (stAt m i).2.1 ∧ 0 ≤ (stAt m i).2.2 := by
  have h1 := h.steps i hi
  unfold stepB at h1
  have h4 : ¬ (stAt m i).1 = 1 := by omega
  have h5 : ¬ (stAt m i).1 = 2 := by omega
  rw [if_neg h4, if_neg h5, if_pos h3] at h1
  simp [inB] at h1
  omega
theorem dep_add {m : AM} {i : Nat} (h : AOk m) (hi : i < m.st.length) (h3 : (stAt m i).1 = 3) : depAt m i = max (depAt m (stAt m i).2.1.toNat) (depAt m (stAt m i).2.2.toNat) := by
  obtain ⟨h1, h2, _⟩ := ops_of h hi (.inl h3)
  unfold depAt
  rw [depsS_get m _ i hi, depD, if_pos h3, depsS_pre m h1 (Nat.le_of_lt hi), depsS_pre m h2 (Nat.le_of_lt hi)]
theorem dep_none {m : AM} {i : Nat} (hi : i < m.st.length) (h3 : ¬ (stAt m i).1 = 3) (h4 : ¬ (stAt m i).1 = 4) : depAt m i = 0 := by
  unfold depAt
  rw [depsS_get m _ i hi, depD, if_neg h3, if_neg h4]
structure Post (P : Nat → AuM → Prop) (c : AM) (r : Int) (vs : List AuM) : Prop where
  len : vs.length = c.st.length
  lo : ∀ i, i < c.st.length → depAt c i ≤ r → P i (getA vs i)
  hi : ∀ i, i < c.st.length → r < depAt c i → zeroA (getA vs i) = true
structure Pre (P : Nat → AuM → Prop) (c : AM) (r : Int) (vs : List AuM) : Prop where
  len : vs.length = c.st.length
  lo : ∀ i, i < c.st.length → depAt c i ≤ r → P i (getA vs i) ∨ ((stAt c i).1 = 3 ∧ zeroA (getA vs i) = true)
  hi : ∀ i, i < c.st.length → r < depAt c i → zeroA (getA vs i) = true
structure PC (k : KM) (c : AM) (P : Nat → AuM → Prop) : Prop where
  form : ∀ i a, P i a → formB k a = true
  add : ∀ i, i < c.st.length → (stAt c i).1 = 3 → ∀ x y, P (stAt c i).2.1.toNat x → P (stAt c i).2.2.toNat y → P i (authAdd k x y)
theorem PC.nz {k : KM} {c : AM} {P : Nat → AuM → Prop} (h : PC k c P) {i : Nat} {a : AuM} (ha : P i a) : zeroA a = false := form_nz (h.form i a ha)
structure Mid (P : Nat → AuM → Prop) (c : AM) (r : Int) (j : Nat) (vs : List AuM) : Prop where
  len : vs.length = c.st.length
  done : ∀ i, i < j → depAt c i ≤ r → P i (getA vs i)
  todo : ∀ i, j ≤ i → i < c.st.length → depAt c i ≤ r → P i (getA vs i) ∨ ((stAt c i).1 = 3 ∧ zeroA (getA vs i) = true)
  hi : ∀ i, i < c.st.length → r < depAt c i → zeroA (getA vs i) = true
theorem Mid.step {k : KM} {c : AM} {P : Nat → AuM → Prop} {r : Int} {j : Nat} {vs : List AuM} (hP : PC k c P) (hok : AOk c) (h : Mid P c r j vs) (hj : j < c.st.length) : Mid P c r (j + 1) (addStep k c vs j) := by
  by_cases h3 : (stAt c j).1 = 3
  · obtain ⟨ha, hb, _⟩ := ops_of hok hj (.inl h3)
    have hd := dep_add hok hj h3
    by_cases hr : depAt c j ≤ r
    · have pa := h.done _ ha (by omega)
      have pb := h.done _ hb (by omega)
      by_cases hz : zeroA (getA vs j) = true
      · have e : addStep k c vs j = vs.set j (authAdd k (getA vs (stAt c j).2.1.toNat) (getA vs (stAt c j).2.2.toNat)) := by
          unfold addStep addOk
          rw [if_pos (by rw [h3, hz, hP.nz pa, hP.nz pb]; rfl)]
        rw [e]
        have hx := hP.add j hj h3 _ _ pa pb
        refine ⟨by rw [List.length_set]; exact h.len, fun i hi hd' => ?_, fun i hi hi' hd' => ?_, fun i hi hd' => ?_⟩
        · rw [getA_set]
          by_cases e : j = i
          · subst e; rw [if_pos ⟨rfl, by rw [h.len]; exact hj⟩]; exact hx
          · rw [if_neg (fun x => e x.1)]; exact h.done i (by omega) hd'
        · rw [getA_set, if_neg (fun x => by omega)]; exact h.todo i (by omega) hi' hd'
        · rw [getA_set, if_neg (fun x => by have := x.1; subst this; omega)]; exact h.hi i hi hd'
      · have e : addStep k c vs j = vs := by
          unfold addStep addOk
          rw [if_neg (by simp [hz])]
        rw [e]
        refine ⟨h.len, fun i hi hd' => ?_, fun i hi hi' hd' => h.todo i (by omega) hi' hd', h.hi⟩
        by_cases e : i = j
        · subst e
          rcases h.todo i (Nat.le_refl _) hj hr with h6 | h6
          · exact h6
          · exact absurd h6.2 hz
        · exact h.done i (by omega) hd'
    · have hz := h.hi j hj (by omega)
      have e : addStep k c vs j = vs := by
        unfold addStep addOk
        rw [if_neg]
        intro hx
        simp only [Bool.and_eq_true, Bool.not_eq_true'] at hx
        by_cases h6 : r < depAt c (stAt c j).2.1.toNat
        · have := h.hi _ (by omega) h6
          rw [hx.1.2] at this; cases this
        · have := h.hi (stAt c j).2.2.toNat (by omega) (by omega)
          rw [hx.2] at this; cases this
      rw [e]
      refine ⟨h.len, fun i hi hd' => ?_, fun i hi hi' hd' => h.todo i (by omega) hi' hd', h.hi⟩
      have hij : i < j := by
        by_cases e : i = j
        · subst e; exact absurd hd' hr
        · omega
      exact h.done i hij hd'
  · have e : addStep k c vs j = vs := by
      unfold addStep addOk
      rw [if_neg (by simp [h3])]
    rw [e]
    refine ⟨h.len, fun i hi hd' => ?_, fun i hi hi' hd' => h.todo i (by omega) hi' hd', h.hi⟩
    by_cases e : i = j
    · subst e
      rcases h.todo i (Nat.le_refl _) hj hd' with h6 | h6
      · exact h6
      · exact absurd h6.1 h3
    · exact h.done i (by omega) hd'
theorem Mid.all {k : KM} {c : AM} {P : Nat → AuM → Prop} {r : Int} {vs : List AuM} (hP : PC k c P) (hok : AOk c) (h : Pre P c r vs) : ∀ j, j ≤ c.st.length → Mid P c r j (addsTo k c vs j)
  | 0, _ => ⟨h.len, fun i hi => by omega, fun i _ hi hd => h.lo i hi hd, h.hi⟩
  | j + 1, hj => (Mid.all hP hok h j (by omega)).step hP hok (by omega)
theorem adds_post {k : KM} {c : AM} {P : Nat → AuM → Prop} {r : Int} {vs : List AuM} (hP : PC k c P) (hok : AOk c) (h : Pre P c r vs) : Post P c r (addsTo k c vs c.st.length) := by
  have := Mid.all hP hok h c.st.length (Nat.le_refl _)
  exact ⟨this.len, fun i hi hd => this.done i hi hd, this.hi⟩
theorem roundTo_vs {P : Nat → AuM → Prop} {e : EM} {ts : List TrM} {es ss : List Int} (hlt : ∀ j, j < ss.length → (ss.getD j 0).toNat < e.vs.length)
    (hp : ∀ j, j < ss.length → P (ss.getD j 0).toNat (tripleUse e.k (trAt ts j) (rD e (trAt ts j) (errAt es (2 * j)) (ss.getD j 0).toNat) (rE e (trAt ts j) (errAt es (2 * j + 1)) (ss.getD j 0).toNat))) :
    ∀ j, j ≤ ss.length → ∀ i, (∃ q, q < j ∧ (ss.getD q 0).toNat = i) ∧ P i (getA (roundTo e ts es ss j).vs i) ∨ (¬ ∃ q, q < j ∧ (ss.getD q 0).toNat = i) ∧ getA (roundTo e ts es ss j).vs i = getA e.vs i
  | 0, _, i => .inr ⟨by rintro ⟨q, hq, _⟩; omega, rfl⟩
  | j + 1, hj, i => by
    have ih := roundTo_vs hlt hp j (by omega) i
    have hl := (roundTo_fix e ts es ss j).2.2.2.1
    show _ ∧ P i (getA (List.set _ _ _) i) ∨ _ ∧ getA (List.set _ _ _) i = _
    rw [getA_set]
    by_cases e : (ss.getD j 0).toNat = i
    · left
      subst e
      rw [if_pos ⟨rfl, by rw [hl]; exact hlt j (by omega)⟩]
      exact ⟨⟨j, by omega, rfl⟩, hp j (by omega)⟩
    · rw [if_neg (fun x => e x.1)]
      rcases ih with ⟨⟨q, h1, h2⟩, h3⟩ | ⟨h1, h2⟩
      · exact .inl ⟨⟨q, by omega, h2⟩, h3⟩
      · refine .inr ⟨?_, h2⟩
        rintro ⟨q, h3, h4⟩
        by_cases e' : q = j
        · subst e'; exact e h4
        · exact h1 ⟨q, by omega, h4⟩
theorem getD_mem {l : List Int} {j : Nat} (h : j < l.length) : l.getD j 0 ∈ l := by
  rw [getI l j h]; exact List.getElem_mem h
theorem round_post {e : EM} {P : Nat → AuM → Prop} {ts : List TrM} {es : List Int} {r : Nat} (hP : PC e.k e.c P) (hok : AOk e.c) (hr : e.rd = r) (h : Post P e.c r e.vs)
    (hm : ∀ j, j < (mulsOf e).length → P ((mulsOf e).getD j 0).toNat (tripleUse e.k (trAt ts j) (rD e (trAt ts j) (errAt es (2 * j)) ((mulsOf e).getD j 0).toNat) (rE e (trAt ts j) (errAt es (2 * j + 1)) ((mulsOf e).getD j 0).toNat))) :
    Post P e.c ((r + 1 : Nat) : Int) (roundEnd e (roundTo e ts es (mulsOf e) (mulsOf e).length)).vs := by
  have hmem : ∀ j, j < (mulsOf e).length → ∃ i : Nat, i < e.c.st.length ∧ ((mulsOf e).getD j 0).toNat = i ∧ (stAt e.c i).1 = 4 ∧ depAt e.c i = r + 1 := fun j hj => by
    obtain ⟨i, h1, h2, h3, h4⟩ := (mulsAt_iff hok _ _).1 (getD_mem hj)
    have h2' : (mulsOf e).getD j 0 = (i : Int) := h2
    exact ⟨i, h1, by rw [h2']; rfl, h3, by rw [h4, hr]⟩
  have hv := roundTo_vs (P := P) (e := e) (ts := ts) (es := es) (ss := mulsOf e) (fun j hj => by
    obtain ⟨i, h1, h2, _⟩ := hmem j hj
    rw [h2, h.len]; exact h1) hm (mulsOf e).length (Nat.le_refl _)
  have hl := (roundTo_fix e ts es (mulsOf e) (mulsOf e).length).2.2.2.1
  have hpre : Pre P e.c ((r + 1 : Nat) : Int) (roundTo e ts es (mulsOf e) (mulsOf e).length).vs := by
    refine ⟨by rw [hl, h.len], fun i hi hd => ?_, fun i hi hd => ?_⟩
    · rcases hv i with ⟨_, h1⟩ | ⟨h1, h2⟩
      · exact .inl h1
      · rw [h2]
        by_cases h5 : depAt e.c i ≤ r
        · exact .inl (h.lo i hi h5)
        · have hz := h.hi i hi (by omega)
          by_cases h4 : (stAt e.c i).1 = 4
          · exfalso
            have hin : (i : Int) ∈ mulsOf e := (mulsAt_iff hok _ _).2 ⟨i, hi, rfl, h4, by rw [hr]; omega⟩
            obtain ⟨q, hq, hq'⟩ := List.getElem_of_mem hin
            exact h1 ⟨q, hq, by rw [getI _ _ hq, hq']; rfl⟩
          · by_cases h3 : (stAt e.c i).1 = 3
            · exact .inr ⟨h3, hz⟩
            · have := dep_none hi h3 h4
              omega
    · rcases hv i with ⟨⟨q, h1, h2⟩, _⟩ | ⟨h1, h2⟩
      · obtain ⟨i', h3, h4, _, h6⟩ := hmem q h1
        rw [h2] at h4
        subst h4
        omega
      · rw [h2]
        exact h.hi i hi (by omega)
  exact adds_post hP hok hpre
end Go.Proofs.Ythaadgdeadbhkaa
/-
  The engine in rounds: forms and values behind each round; wrong openings. No program.
-/
namespace Go.Proofs.Ythaadgdeadbhkaa
set_option linter.unusedVariables false
set_option linter.unusedSimpArgs false
structure Fit (k : KM) (c : AM) (P : Nat) (ins : List Int) : Prop where
  kb : keysB k = true
  ok : AOk c
  pp : k.p = c.p
  pn : k.p = P
  len : ins.length = 60
  el : elemsB c.p ins = true
theorem Fit.fld {k : KM} {c : AM} {P : Nat} {ins : List Int} (h : Fit k c P ins) : fieldB k.p = true := (keys_is h.kb).1
structure At (Q : Nat → AuM → Prop) (k : KM) (c : AM) (r : Nat) (e : EM) : Prop where
  ek : e.k = k
  ec : e.c = c
  rd : e.rd = r
  post : Post Q c r e.vs
theorem At.next {Q : Nat → AuM → Prop} {k : KM} {c : AM} {P r : Nat} {ins : List Int} {e : EM} (hf : Fit k c P ins) (hQ : PC k c Q) (h : At Q k c r e) {ts : List TrM} {es : List Int}
    (hm : ∀ j, j < (mulsOf e).length → Q ((mulsOf e).getD j 0).toNat (tripleUse e.k (trAt ts j) (rD e (trAt ts j) (errAt es (2 * j)) ((mulsOf e).getD j 0).toNat) (rE e (trAt ts j) (errAt es (2 * j + 1)) ((mulsOf e).getD j 0).toNat))) : At Q k c (r + 1) (roundEnd e (roundTo e ts es (mulsOf e) (mulsOf e).length)) := by
  obtain ⟨h1, h2, h3, h4⟩ := h
  have hfix := roundTo_fix e ts es (mulsOf e) (mulsOf e).length
  have hp := round_post (e := e) (P := Q) (ts := ts) (es := es) (r := r) (by rw [h1, h2]; exact hQ) (by rw [h2]; exact hf.ok) h3 (by rw [h2]; exact h4) hm
  refine ⟨hfix.1.trans h1, hfix.2.1.trans h2, ?_, by rw [← h2]; exact hp⟩
  show e.rd + 1 = _
  rw [h3]; rfl
end Go.Proofs.Ythaadgdeadbhkaa
/-
  EngineOutputs of the program.
-/
namespace Go.Proofs.Ythaadgdeadbhkaa
open Go.RowKit
set_option linter.unusedVariables false
set_option linter.unusedSimpArgs false
def OutJ (m : EM) (w : World) (e : Ending) (w' : World) : Prop := ∃ V, e = .returned (.tuple #[V, .bool (outB m)]) ∧ w'.ownsRow w.heap.size 3 1 V (outR m).length ((outR m).map (Value.int .i64)) ∧ w.grownBy w' none
theorem OutJ.no {m : EM} {w w' : World} (h : outB m = false) (hg : w.grownBy w' none) : OutJ m w (.returned (.tuple #[.slice none 0 0, .bool false])) w' := by
  refine ⟨_, by rw [h], ?_, hg⟩
  unfold outR
  rw [h]
  exact World.ownsRow_nil w' _ _ _
end Go.Proofs.Ythaadgdeadbhkaa
/-
  mayRound of the program (printed by wip/gen_may.py).
-/
namespace Go.Proofs.Ythaadgdeadbhkaa
open Go.RowKit
set_option linter.unusedVariables false
set_option linter.unusedSimpArgs false
end Go.Proofs.Ythaadgdeadbhkaa
/-
  errorAt of the program; facts of regions that only grow.
-/
namespace Go.Proofs.Ythaadgdeadbhkaa
open Go.RowKit
set_option linter.unusedVariables false
set_option linter.unusedSimpArgs false
end Go.Proofs.Ythaadgdeadbhkaa
/-
  EngineRound of the program: the region that checks what was opened.
-/
namespace Go.Proofs.Ythaadgdeadbhkaa
open Go.RowKit
set_option linter.unusedVariables false
set_option linter.unusedSimpArgs false
end Go.Proofs.Ythaadgdeadbhkaa
/-
  EngineRound of the program.
-/
namespace Go.Proofs.Ythaadgdeadbhkaa
open Go.RowKit
set_option linter.unusedVariables false
set_option linter.unusedSimpArgs false
end Go.Proofs.Ythaadgdeadbhkaa
/-
  The engine's run: all its rounds; what it gives when no opening is wrong, and when one is. No program.
-/
namespace Go.Proofs.Ythaadgdeadbhkaa
set_option linter.unusedVariables false
set_option linter.unusedSimpArgs false
section
variable {k : KM} {c : AM} {P s1 s2 : Nat} {ins es : List Int}
end
end Go.Proofs.Ythaadgdeadbhkaa
/-
  Lists of triples of the call's own: one more behind; what stands in other blocks of other types.
-/
namespace Go.Proofs.Ythaadgdeadbhkaa
open Go.RowKit
set_option linter.unusedVariables false
set_option linter.unusedSimpArgs false
theorem OwnE.nil (w : World) : OwnE w [] [] := ⟨rfl, fun i c v h => by simp at h⟩
theorem OwnE.grow {w w' : World} {cs : List CS} {vs : List Value} (h : OwnE w cs vs) (k : w.grownBy w' none) : OwnE w' cs vs :=
  ⟨h.1, fun i c v h1 h2 => by
    obtain ⟨F, ho⟩ := h.2 i c v h1 h2
    exact ⟨F, c.kept ho fun g hg => k.block g (c.lt ho g hg) (by simp)⟩⟩
def TL (lo : Nat) (ts : List TrM) (v : Value) (w : World) : Prop := ∃ vs, w.ownsRow lo 46 6 v ts.length vs ∧ OwnE w (ts.flatMap ctriple) vs
theorem TL.rd {lo : Nat} {ts : List TrM} {v : Value} {w : World} (h : TL lo ts v w) : (ctriples ts).rd w v := by
  obtain ⟨vs, h1, h2⟩ := h
  obtain ⟨A, c, rfl, hc, hm, hr⟩ := own_rd2 h1
  exact lst_mk (s := 6) (fun _ => rfl) rfl hc hm h2.rd hr
theorem TL.grow {lo : Nat} {ts : List TrM} {v : Value} {w w' : World} (h : TL lo ts v w) (k : w.grownBy w' none) : TL lo ts v w' := by
  obtain ⟨vs, h1, h2⟩ := h
  exact ⟨vs, own_grow h1 k, h2.grow k⟩
end Go.Proofs.Ythaadgdeadbhkaa
/-
  EngineRun of the program: what is known of its rounds, ahead of the walk.
-/
namespace Go.Proofs.Ythaadgdeadbhkaa
open Go.RowKit
set_option linter.unusedVariables false
set_option linter.unusedSimpArgs false
theorem Fit.of {k : KM} {c : AM} {P : Nat} {ins : List Int} {s a : Int} (h : newB k c ins s a = true) (hP : k.p = P) : Fit k c P ins := by
  obtain ⟨h1, h2, h3, h4, h5, _⟩ := newB_is h
  exact ⟨h1, h2, h3, hP, h4, h5⟩
theorem Ints.part {w : World} {b o n : Nat} {zs : List Int} (h : Ints w (some ⟨b, o, none⟩) n zs) {x m : Nat} (hk : x + m ≤ n) : Ints w (some ⟨b, o + x, none⟩) m ((zs.drop x).take m) := by
  have hl := h.len
  refine ⟨by simp; omega, fun hp => ?_⟩
  obtain ⟨b', o', e, hb, hc⟩ := h.at_ (by omega)
  injection e with e
  injection e with e1 e2 _
  subst e1; subst e2
  refine ⟨b, o + x, rfl, hb, fun j hj => ?_⟩
  rw [show o + x + j = o + (x + j) by omega, hc (x + j) (by omega), List.getElem?_map, List.getElem?_take, if_pos (by omega), List.getElem?_drop, List.getElem?_eq_getElem (by omega), getI _ _ (by omega)]
  rfl
theorem Ints.none' {w : World} {A : Option Addr} : Ints w A 0 [] := ⟨by simp, fun h => by omega⟩
end Go.Proofs.Ythaadgdeadbhkaa
/-
  EngineRun of the program.
-/
namespace Go.Proofs.Ythaadgdeadbhkaa
open Go.RowKit
set_option linter.unusedVariables false
set_option linter.unusedSimpArgs false
theorem Ints.cut {w : World} {A : Option Addr} {n : Nat} {zs : List Int} (h : Ints w A n zs) {x m : Nat} (hk : x + m ≤ n) : Ints w (A.map fun a => a.add x) m ((zs.drop x).take m) := by
  by_cases hm : m = 0
  · subst hm; rw [List.take_zero]; exact Ints.none'
  · obtain ⟨b, o, rfl, _⟩ := h.at_ (by omega)
    have hadd : (⟨b, o, none⟩ : Addr).add x = ⟨b, o + x, none⟩ := by unfold Addr.add; split <;> simp_all
    rw [Option.map_some, hadd]
    exact h.part hk
theorem aggF.eng {lo : Nat} {m : EM} {v : Value} {w : World} (h : aggF lo (cengine m) v w) : ∃ A B C D E a b c d e, v = .agg #[.int .i64 m.k.p, .slice A m.k.al.length a, .int .i64 m.c.p, .slice B m.c.st.length b, .slice C m.c.outs.length c, .slice D m.vs.length d, .slice E m.op.length e, .int .i64 m.rd, .bool m.bad] := by
  obtain ⟨F, h1, _⟩ := h
  obtain ⟨A, B, C, D, E, a, b, c, d, e, hv, _⟩ := cengine_open h1.rd
  exact ⟨A, B, C, D, E, a, b, c, d, e, hv⟩
theorem aggF.far {lo g : Nat} {m : EM} {v : Value} {w w' : World} {T : TypeId} {cs : Array Value} (h : aggF lo (cengine m) v w) (B : Blk w g T cs) (k : Chg (fun y => y = g) w w') (hT : T ∉ [3, 95, 44]) : aggF lo (cengine m) v w' := by
  obtain ⟨F, h1, h2⟩ := h
  have hg := agg_ty (cengine_ty m) h1 B hT
  exact ⟨F, h1.chg k (fun x hx e => hg (e ▸ hx)), h2⟩
theorem chgA {S : Nat → Prop} (w : World) (o : Obj) : Chg S w (w.alloc o) := Chg.of (gbA (gbR w none) o) (by simp)
theorem isV_w {x v : Value} {w w' : World} (h : isV x v w) : isV x v w' := h
end Go.Proofs.Ythaadgdeadbhkaa
/-
  toTape of the laws.
-/
namespace Go.Proofs.Ythaadgdeadbhkaa
open Go.RowKit
set_option linter.unusedVariables false
set_option linter.unusedSimpArgs false
set_option maxRecDepth 100000 in
theorem toTape_c (s a : Int) (w : World) :
    Calls Try.prog 39 #[.agg #[.int .i64 s, .int .i64 a]] w fun e w' => e = .returned (.agg #[.int .i64 s, .int .i64 a]) ∧ w.grownBy w' none := by
  go_enter Try.func39, Try.ntmps39
  go_wp2_with fail
  refine ret_c Try.results39 (by rfl) stTape (cs := #[.int .i64 s, .int .i64 a]) ((Blk.new' (w.alloc _) _ _ (w.heap.size + 1) (by simp)).grow (gbA (gbR _ _) _)) (by rfl) (by rfl) ?_
  exact ⟨rfl, gbA (gbA (gbA (gbR _ _) _) _) _⟩
end Go.Proofs.Ythaadgdeadbhkaa
