/-
  sameInts: the laws' own comparison of lists of numbers.
-/
import Derived.Test.YthaadgdeadbhkaaMgFnCosts13
import Derived.Test.YthaadgdeadbhkaaMgFnCosts26
import Derived.Test.YthaadgdeadbhkaaMgFnCosts25
import Derived.Test.YthaadgdeadbhkaaMgFnCosts16
namespace Go.Proofs.Ythaadgdeadbhkaa
open Go.RowKit
set_option linter.unusedVariables false
set_option linter.unusedSimpArgs false
end Go.Proofs.Ythaadgdeadbhkaa
/-
  EvalArith of the reference.
-/
namespace Go.Proofs.Ythaadgdeadbhkaa
open Go.RowKit
set_option linter.unusedVariables false
set_option linter.unusedSimpArgs false
end Go.Proofs.Ythaadgdeadbhkaa
/-
  FnEngine: the walk.
-/
namespace Go.Proofs.Ythaadgdeadbhkaa
open Go.RowKit
set_option linter.unusedVariables false
set_option linter.unusedSimpArgs false
theorem newB_yes2 {k : KM} {c : AM} {P s a : Nat} {ins : List Int} (hf : Fit k c P ins) (hs : s < 4294967296) (ha : a ≤ 900000) : newB k c ins s a = true := by
  unfold newB
  rw [hf.kb, arithB_yes hf.ok, hf.el, hf.len, hf.pp]
  have := tape_yes hs (show a ≤ 1000000 by omega)
  simp [this]
  omega
theorem AOk.wf9 {m : AM} (h : AOk m) : m.wf := by
  obtain ⟨hp1, hp2⟩ := field_range h.fld
  refine ⟨⟨by omega, by omega⟩, fun z hz => ?_, fun z hz => ?_⟩
  · obtain ⟨j, hj⟩ := List.mem_iff_getElem?.1 hz
    have hlt := (List.getElem?_eq_some_iff.1 hj).1
    have hs := h.steps j hlt
    have he : stAt m j = z := by unfold stAt; rw [List.getD_eq_getElem?_getD, hj]; rfl
    rw [he] at hs
    have hl := h.few
    obtain ⟨x, y, u⟩ := z
    simp only [stepB] at hs
    unfold w3 i64w
    simp only
    split at hs
    · simp [inB] at hs; omega
    · split at hs
      · have := elemB_is (p := m.p) (a := y) (by simp at hs; exact hs.1)
        simp at hs
        omega
      · split at hs
        · simp [inB] at hs; omega
        · cases hs
  · have hs := h.outs z hz
    have hl := h.few
    simp [inB] at hs
    unfold i64w
    omega
theorem amwf_of {m : AM} (h : AOk m) (ho : m.outs.length ≤ 3) : amwf m := ⟨AOk.wf9 h, by have := h.few; omega, by omega⟩
theorem kwf_of {k : KM} (h : keysB k = true) : kwf k := by
  obtain ⟨hf, _, h1, h5⟩ := keys_is h
  have := field_range hf
  refine ⟨?_, by omega⟩
  unfold i64w
  omega
end Go.Proofs.Ythaadgdeadbhkaa
/-
  FnRounds, FnCosts: an honest round of an engine; no program.
-/
namespace Go.Proofs.Ythaadgdeadbhkaa
set_option linter.unusedVariables false
set_option linter.unusedSimpArgs false
section
variable {k : KM} {c : AM} {P : Nat} {ins : List Int}
structure RSt (k : KM) (c : AM) (P : Nat) (ins : List Int) (r : Nat) (e : EM) : Prop where
  at_ : At (PG k c ins) k c r e
  bad : e.bad = false
  op : e.op.length = 2 * totM c r
  wf : ewf e
theorem RSt.zero {s : Nat} (hf : Fit k c P ins) (wk : kwf k) (wc : amwf c) : RSt k c P ins 0 (engNew k c P s ins) :=
  ⟨engAt_zero (s1 := s) (s2 := s) (es := []) hf (PG.pc hf) fun i a h => h, rfl, by rw [totM_zero]; rfl, ewf_new hf wk wc⟩
theorem RSt.next (hf : Fit k c P ins) {r s2 a : Nat} {e : EM} (h : RSt k c P ins r e) (hr : (r : Int) < rounds c) : RSt k c P ins (r + 1) (engRound e (trsN k P s2 a (nAt c r)) []) := by
  have he : elemsB k.p [] = true := elemsB_mk hf.fld (by simp)
  have hm : mayB e (trsN k P s2 a (nAt c r)) [] = true := h.at_.may hf (fun i a h => Good.form h) h.bad hr (trsF hf h.at_).f he
  have hz : ∀ j, j < (mulsOf e).length → errAt [] (2 * j) = 0 ∧ errAt [] (2 * j + 1) = 0 := fun j _ => by simp [errAt]
  have hR := rounds_bd c
  have ht := totM_bd hf.ok (r := r) (by omega)
  obtain ⟨hw, _⟩ := ewf_round (ts := trsN k P s2 a (nAt c r)) (es := []) h.wf (twf_trs hf.kb) (by rw [h.op]; omega) (by rw [h.at_.rd]; omega)
  have he2 : engRound e (trsN k P s2 a (nAt c r)) [] = roundEnd e (roundTo e (trsN k P s2 a (nAt c r)) [] (mulsOf e) (mulsOf e).length) := by rw [engRound, if_pos hm]
  refine ⟨?_, ?_, ?_, hw⟩
  · rw [he2]; exact h.at_.nextG hf (trsF hf h.at_) hz
  · rw [he2]
    show (roundTo _ _ _ _ _).bad = false
    rw [Bool.eq_false_iff]
    intro h1
    rcases (roundTo_bad _ _ _ _ _).1 h1 with h2 | ⟨q, hq, h2⟩
    · rw [h.bad] at h2; cases h2
    · obtain ⟨u, v, hx⟩ := (trsF hf h.at_ (a := a) (s2 := s2)).2 q hq
      obtain ⟨z1, z2⟩ := hz q hq
      rw [z1, z2] at h2
      have h0 : elemB k.p 0 = true := elemB_mk hf.fld (by omega) (by have := (field_range hf.fld).1; omega)
      rw [(rBad_iff hf h.at_ hq hx h0 h0).1 ⟨rfl, rfl⟩] at h2
      cases h2
  · rw [he2]
    show (roundTo e (trsN k P s2 a (nAt c r)) [] (mulsOf e) (mulsOf e).length).op.length = _
    rw [(roundTo_fix e _ _ _ _).2.2.2.2, h.op, mulsOf_n h.at_, totM_succ]
    omega
theorem RSt.val {r : Nat} {e : EM} (h : RSt k c P ins r e) {i : Nat} (hi : i < c.st.length) (hd : depAt c i ≤ r) : formB k (getA e.vs i) = true ∧ fsum k.p (getA e.vs i).mc = (fsum k.p (getA e.vs i).sh * fsum k.p k.al) % k.p := by
  have g : Good k (getA e.vs i) (valAt c ins i) := h.at_.post.lo i hi hd
  exact ⟨g.form, by rw [g.mc, g.sh]⟩
theorem RSt.out (hf : Fit k c P ins) {r : Nat} {e : EM} (h : RSt k c P ins r e) (hr : (r : Int) = rounds c) : outB e = true ∧ e.op.length = 2 * muls c.st c.st.length := by
  have h1 := out_good hf h.at_ h.bad hr
  have h2 : totM c r = muls c.st c.st.length := by rw [← totM_all hf.ok, ← hr]; rfl
  exact ⟨h1.1, by rw [h.op, h2]⟩
end
end Go.Proofs.Ythaadgdeadbhkaa
/-
  AuthOk of the reference, of a value of form.
-/
namespace Go.Proofs.Ythaadgdeadbhkaa
open Go.RowKit
set_option linter.unusedVariables false
set_option linter.unusedSimpArgs false
end Go.Proofs.Ythaadgdeadbhkaa
/-
  The general law on a region that draws its order, with relations between the values of two operations (whichever of the two comes last shows it): two rows that are made in either order lie apart.
-/
namespace Go.Proofs.Ythaadgdeadbhkaa
open Go.RowKit
set_option linter.unusedVariables false
set_option linter.unusedSimpArgs false
structure Pr where
  i : Nat
  di : Tmp
  j : Nat
  dj : Tmp
  R : Value → Value → Prop
def prOk (ops : Array Oper) (ps : List Pr) : Bool := ps.all fun p => (((ops[p.i]?).bind (·.dst)) == some p.di) && (((ops[p.j]?).bind (·.dst)) == some p.dj) && p.i != p.j
def prHop (T : List Fact) (ps : List Pr) (f : Tmp → Value) (w : World) (k : Nat) (v : Value) : Prop := ∀ p ∈ ps, (p.i = k → (fAt T p.j).at_ f w → p.R v (f p.dj)) ∧ (p.j = k → (fAt T p.i).at_ f w → p.R (f p.di) v)
def hop7 (P : Program) (ops : Array Oper) (T : List Fact) (ps : List Pr) (W : World) (a0 : Act) (touch : List (Nat × Nat)) (o : Oper) (k : Nat) : Prop :=
  ∀ (f : Tmp → Value) (w : World), Chg (fun b => ∃ s, (s, b) ∈ touch) W w → (∀ b, b < W.heap.size → (∀ s, (s, b) ∈ touch → aheadB ops s k = true) → w.heap[b]? = W.heap[b]?) → (∀ d, oldB ops k d = true → d ∈ dsts ops → f d = a0.tmps.getD d undef) → depsF T f w (bindE o) → (∀ p ∈ ps, aheadB ops k p.i = true → aheadB ops k p.j = true → p.i ≠ k → p.j ≠ k → p.R (f p.di) (f p.dj)) →
    wpList P ops (Only fun a' w' => ∃ v, a' = (puts a0 (dsts ops) f).put o.dst v ∧ (fAt T k).at_ (upd f o.dst v) w' ∧ (w.grownBy w' none ∨ (Chg (fun b => W.heap.size ≤ b ∨ (k, b) ∈ touch) w w' ∧ keeps f w w' k T 0)) ∧ prHop T ps f w k v) [o] (puts a0 (dsts ops) f) w
def hops7 (P : Program) (ops : Array Oper) (T : List Fact) (ps : List Pr) (W : World) (a0 : Act) (touch : List (Nat × Nat)) : List Oper → Nat → Prop
  | [], _ => True
  | o :: l, k => hop7 P ops T ps W a0 touch o k ∧ hops7 P ops T ps W a0 touch l (k + 1)
section
variable {P : Program} {ops : Array Oper} {T : List Fact} {ps : List Pr} {W : World} {a0 : Act} {touch : List (Nat × Nat)} {Q : Exit → Act → World → Prop}
theorem only1_mono {o : Oper} {a : Act} {w : World} {K K' : Act → World → Prop} (h : ∀ a' w', K a' w' → K' a' w') (h1 : wpList P ops (Only K) [o] a w) : wpList P ops (Only K') [o] a w := by
  unfold wpList at h1 ⊢
  split
  · rename_i hw
    rw [if_pos hw] at h1
    rcases h1 with h1 | h1
    · exact .inl (wp_only (Oper.wp_mono (fun a' w' hk => h a' w' hk) h1))
    · exact (only_no h1.2).elim
  · rename_i hw
    rw [if_neg hw] at h1
    exact h _ _ h1
theorem hop7_of {o : Oper} {k : Nat} (hn : (ps.all fun p => p.i != k && p.j != k) = true) (h : hop6 P ops T W a0 touch o k) : hop7 P ops T ps W a0 touch o k := by
  intro f w h1 h2 h3 h4 _
  refine only1_mono (fun a' w' ⟨v, e1, e2, e3⟩ => ⟨v, e1, e2, e3, fun p hp => ?_⟩) (h f w h1 h2 h3 h4)
  have := List.all_eq_true.1 hn p hp
  simp at this
  exact ⟨fun e => absurd e this.1, fun e => absurd e this.2⟩
theorem ahead_listed {listed : Array Bool} (hc : ∀ k o, ops[k]? = some o → listed.getD k false = true → ∀ e ∈ bindE o, listed.getD e.on false = true) {i j : Nat} {o : Oper} (ho : ops[i]? = some o) (hil : i < listed.size) (hwait : ∀ e ∈ bindE o, listed.getD e.on false = true) (h : aheadB ops i j = true) (hne : j ≠ i) : listed.getD j false = true := by
  have lset : ∀ k, k ≠ i → (listed.setIfInBounds i true).getD k false = listed.getD k false := fun k hk => by
    simp only [Array.getD_eq_getD_getElem?, Array.getElem?_setIfInBounds, Ne.symm hk, if_false]
  have lold : ∀ k, listed.getD k false = true → (listed.setIfInBounds i true).getD k false = true := fun k hk => by
    by_cases e : k = i
    · subst e; simp [hil]
    · rw [lset k e]; exact hk
  cases hj : listed.getD j false with
  | true => rfl
  | false =>
    exfalso
    have h1 := ahead_un (ops := ops) (listed := listed.setIfInBounds i true) (fun k ok hk hl e he => by
      by_cases hik : k = i
      · subst hik
        obtain rfl : ok = o := by rw [ho] at hk; injection hk with hk; exact hk.symm
        exact lold _ (hwait e he)
      · rw [lset k hik] at hl
        exact lold _ (hc k ok hk hl e he)) (s := i) (k := j) (by rw [lset j hne]; exact hj) h
    simp [hil] at h1
theorem hops7_at : ∀ {l : List Oper} {k i : Nat} {o : Oper}, hops7 P ops T ps W a0 touch l k → l[i]? = some o → hop7 P ops T ps W a0 touch o (k + i)
  | [], _, _, _, _, h => by simp at h
  | x :: l, k, 0, o, h, hi => by simp at hi; subst hi; exact h.1
  | x :: l, k, i + 1, o, h, hi => by
    simp at hi
    have := hops7_at (k := k + 1) (i := i) h.2 hi
    rwa [show k + 1 + i = k + (i + 1) by omega] at this
def GPr (ps : List Pr) (listed : Array Bool) (a : Act) : Prop := ∀ p ∈ ps, listed.getD p.i false = true → listed.getD p.j false = true → p.R (a.tmps.getD p.di undef) (a.tmps.getD p.dj undef)
theorem reg7_any (K : RegOk ops T) (hps : prOk ops ps = true) (hsz : ∀ d ∈ dsts ops, d < a0.tmps.size) (hst : stablesF T) (hh : hops7 P ops T ps W a0 touch ops.toList 0)
    (fin : ∀ (f : Tmp → Value) (w : World), Chg (fun b => ∃ s, (s, b) ∈ touch) W w → knowsF T f w T → (∀ p ∈ ps, p.R (f p.di) (f p.dj)) → Q .normal (puts a0 (dsts ops) f) w) :
    ∀ (fuel : Nat) (listed : Array Bool) (a : Act) (w : World), GInv6 ops T W a0 touch listed a w → GPr ps listed a → listed.toList.countP (fun b => !b) ≤ fuel → wpAny P .any ops Q fuel listed a w := by
  have hpo : ∀ p ∈ ps, (∃ o, ops[p.i]? = some o ∧ o.dst = some p.di) ∧ (∃ o, ops[p.j]? = some o ∧ o.dst = some p.dj) ∧ p.i ≠ p.j := fun p hp => by
    have := List.all_eq_true.1 hps p hp
    simp only [Bool.and_eq_true, beq_iff_eq, bne_iff_ne] at this
    obtain ⟨⟨h1, h2⟩, h3⟩ := this
    refine ⟨?_, ?_, h3⟩
    · cases ho : ops[p.i]? with
      | none => rw [ho] at h1; cases h1
      | some o => rw [ho] at h1; exact ⟨o, rfl, h1⟩
    · cases ho : ops[p.j]? with
      | none => rw [ho] at h2; cases h2
      | some o => rw [ho] at h2; exact ⟨o, rfl, h2⟩
  have done : ∀ (listed : Array Bool) (a : Act) (w : World), GInv6 ops T W a0 touch listed a w → GPr ps listed a → Region.ready .any ops listed = [] → Q .normal a w := fun listed a w h hp hr => by
    rw [h.is]
    refine fin _ w h.g (knowsF_of fun F hF => ?_) fun p hpp => ?_
    · obtain ⟨k, hk⟩ := List.mem_iff_getElem?.1 hF
      have hkl : k < ops.size := Nat.lt_of_lt_of_le (List.getElem?_eq_some_iff.1 hk).1 K.len
      have := h.facts k ops[k] (Array.getElem?_eq_getElem hkl) (all_listedF K h.sz hr (k + 1) k (by omega) hkl)
      unfold fAt at this
      rw [hk] at this
      exact this
    · obtain ⟨⟨o, ho, _⟩, ⟨o', ho', _⟩, _⟩ := hpo p hpp
      have hi := (Array.getElem?_eq_some_iff.1 ho).1
      have hj := (Array.getElem?_eq_some_iff.1 ho').1
      exact hp p hpp (all_listedF K h.sz hr (p.i + 1) p.i (by omega) hi) (all_listedF K h.sz hr (p.j + 1) p.j (by omega) hj)
  intro fuel
  induction fuel with
  | zero =>
    intro listed a w h hp hc
    have hr : Region.ready .any ops listed = [] := by
      cases hr : Region.ready .any ops listed with
      | nil => rfl
      | cons i l =>
        exfalso
        have hi := (mem_ready.1 (show i ∈ Region.ready .any ops listed by rw [hr]; exact List.mem_cons_self ..)).1
        have h0 : listed.toList.countP (fun b => !b) = 0 := by omega
        rw [List.countP_eq_zero] at h0
        have hlt : i < listed.size := by
          rcases Nat.lt_or_ge i listed.size with h1 | h1
          · exact h1
          · simp [Array.getElem?_eq_none h1] at hi
        have hv : listed[i] = false := by simpa [hlt] using hi
        have := h0 listed[i] (Array.getElem_mem_toList hlt)
        simp [hv] at this
    exact ⟨hr, done listed a w h hp hr⟩
  | succ fuel ih =>
    intro listed a w h hp hc
    refine ⟨fun hr => done listed a w h hp hr, fun i hi => ?_⟩
    obtain ⟨hl, o, ho, hall⟩ := mem_ready.1 hi
    have hwait : ∀ e ∈ bindE o, listed.getD e.on false = true := fun e he => by
      obtain ⟨h1, h2⟩ := bind_mem.1 he
      exact hall e (by simpa using h1) h2
    have hlt : i < listed.size := by rw [h.sz]; exact (Array.getElem?_eq_some_iff.1 ho).1
    have hun : listed.getD i false = false := by
      simp [hlt] at hl ⊢
      exact hl
    have hop := hops7_at hh (i := i) (by simpa using ho)
    rw [Nat.zero_add] at hop
    have h1 := hop (fun d => a.tmps.getD d undef) w h.g (fun b hb hs => h.pre b hb fun s hs' => ahead_un h.closed hun (hs s hs')) (fun d hd hm => h.old_ hun hd hm) (depsF_of fun e he => by
      have h2 := hwait e he
      have h3 := K.early i o ho e he
      have h4 : e.on < ops.size := by have := (Array.getElem?_eq_some_iff.1 ho).1; omega
      exact h.facts e.on _ (Array.getElem?_eq_getElem h4) h2) (fun p hpp q1 q2 q3 q4 => hp p hpp (ahead_listed h.closed ho hlt hwait q1 q3) (ahead_listed h.closed ho hlt hwait q2 q4))
    rw [← h.is] at h1
    unfold wpOp
    simp only [ho]
    have lset : ∀ k, k ≠ i → (listed.setIfInBounds i true).getD k false = listed.getD k false := fun k hk => by
      simp only [Array.getD_eq_getD_getElem?, Array.getElem?_setIfInBounds, Ne.symm hk, if_false]
    have hdlt : ∀ d, o.dst = some d → d < a.tmps.size := fun d hd => by rw [h.tz]; exact hsz d (dst_mem ho hd)
    have next : ∀ a' w', (∃ v, a' = a.put o.dst v ∧ (fAt T i).at_ (upd (fun d => a.tmps.getD d undef) o.dst v) w' ∧ (w.grownBy w' none ∨ (Chg (fun b => W.heap.size ≤ b ∨ (i, b) ∈ touch) w w' ∧ keeps (fun d => a.tmps.getD d undef) w w' i T 0)) ∧ prHop T ps (fun d => a.tmps.getD d undef) w i v) → wpAny P .any ops Q fuel (listed.setIfInBounds i true) a' w' := fun a' w' ⟨v, ha, hv, hg, hpr⟩ => by
      subst ha
      refine ih _ _ _ (h.step K hsz hst ho hun hwait hv hg) (fun p hpp l1 l2 => ?_) (few_set hc hl)
      obtain ⟨⟨oi, hoi, hdi⟩, ⟨oj, hoj, hdj⟩, hij⟩ := hpo p hpp
      have gi := put_get a o.dst v p.di hdlt
      have gj := put_get a o.dst v p.dj hdlt
      rw [gi, gj]
      have hop' := hpr p hpp
      by_cases e1 : p.i = i
      · subst e1
        rw [lset p.j (fun e => hij e.symm)] at l2
        rw [ho] at hoi; injection hoi with hoi; subst hoi
        have ne : o.dst ≠ some p.dj := fun e => nodup_ne K.nodup (l := ops.toList) (i := p.i) (j := p.j) (by simpa using ho) (by simpa using hoj) hij (by rw [e]) hdj
        rw [upd_get _ _ _ _ ne, hdi]
        have hx : upd (fun d => a.tmps.getD d undef) (some p.di) v p.di = v := by simp [upd_some]
        rw [hx]
        exact hop'.1 rfl (h.facts p.j oj hoj l2)
      · rw [lset p.i e1] at l1
        have ne : o.dst ≠ some p.di := fun e => nodup_ne K.nodup (l := ops.toList) (i := p.i) (j := i) (by simpa using hoi) (by simpa using ho) e1 hdi e
        rw [upd_get _ _ _ _ ne]
        by_cases e2 : p.j = i
        · subst e2
          rw [ho] at hoj; injection hoj with hoj; subst hoj
          rw [hdj]
          have hx : upd (fun d => a.tmps.getD d undef) (some p.dj) v p.dj = v := by simp [upd_some]
          rw [hx]
          exact hop'.2 rfl (h.facts p.i oi hoi l1)
        · rw [lset p.j e2] at l2
          have ne' : o.dst ≠ some p.dj := fun e => nodup_ne K.nodup (l := ops.toList) (i := p.j) (j := i) (by simpa using hoj) (by simpa using ho) e2 hdj e
          rw [upd_get _ _ _ _ ne']
          exact hp p hpp l1 l2
    unfold wpList at h1
    split
    · rename_i hw
      rw [if_pos hw] at h1
      rcases h1 with h1 | h1
      · exact .inl (wp_only (Oper.wp_mono next h1))
      · exact (only_no h1.2).elim
    · rename_i hw
      rw [if_neg hw] at h1
      exact next _ _ h1
theorem region_reg7 {id : Nat} {w : World} (T : List Fact) (ps : List Pr) (touch : List (Nat × Nat)) (hm : P.follows .mixedOrders = true) (hB : regB ops (T.map (·.ts)) = true) (hps : prOk ops ps = true) (hsz : (dsts ops).all (fun d => d < a0.tmps.size) = true) (hst : stablesF T)
    (hh : hops7 P ops T ps w.drew a0 touch ops.toList 0)
    (fin : ∀ (f : Tmp → Value) (w' : World), Chg (fun b => ∃ s, (s, b) ∈ touch) w.drew w' → knowsF T f w' T → (∀ p ∈ ps, p.R (f p.di) (f p.dj)) → Q .normal (puts a0 (dsts ops) f) w') : (Code.region id ops true).wp P Q a0 w := by
  refine wp_region_any hm (reg7_any (W := w.drew) (T := T) (ps := ps) (RegOk.of hB) hps (fun d hd => by simpa using List.all_eq_true.1 hsz d hd) hst hh fin ops.size _ a0 _ ⟨Chg.refl _ _, fun _ _ _ => rfl, fun _ _ _ _ _ _ => rfl, by simp, rfl, rfl, fun _ _ => rfl, ?_, ?_⟩ ?_ ?_)
  · intro k o hk hl
    simp only [Array.getD_eq_getD_getElem?, Array.getElem?_replicate] at hl
    split at hl <;> simp at hl
  · intro k o hk hl
    simp only [Array.getD_eq_getD_getElem?, Array.getElem?_replicate] at hl
    split at hl <;> simp at hl
  · intro p hp hl
    simp only [Array.getD_eq_getD_getElem?, Array.getElem?_replicate] at hl
    split at hl <;> simp at hl
  · have := List.countP_le_length (p := fun b : Bool => !b) (l := (Array.replicate ops.size false).toList)
    simpa using this
end
end Go.Proofs.Ythaadgdeadbhkaa
