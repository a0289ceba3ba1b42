/-
  The general law on a region that draws its order, with operations that may write into blocks which were there before (touch: which operation into which), and with slots that are read in the region ahead of the operation that writes them: what such an operation waits for, at first hand or through others, sees block and slot as they were.
-/
import Derived.Test.YthdfkiaoahpjpaaMgFnConstantCircuits8
namespace Go.Proofs.Ythdfkiaoahpjpaa
open Go.RowKit
set_option linter.unusedVariables false
set_option linter.unusedSimpArgs false
def hop6 (P : Program) (ops : Array Oper) (T : List Fact) (W : World) (a0 : Act) (touch : List (Nat × Nat)) (o : Oper) (k : Nat) : Prop :=
  ∀ (f : Tmp → Value) (w : World), Chg (fun b => ∃ s, (s, b) ∈ touch) W w → (∀ b, b < W.heap.size → (∀ s, (s, b) ∈ touch → aheadB ops s k = true) → w.heap[b]? = W.heap[b]?) → (∀ d, oldB ops k d = true → d ∈ dsts ops → f d = a0.tmps.getD d undef) → depsF T f w (bindE o) →
    wpList P ops (Only fun a' w' => ∃ v, a' = (puts a0 (dsts ops) f).put o.dst v ∧ (fAt T k).at_ (upd f o.dst v) w' ∧ (w.grownBy w' none ∨ (Chg (fun b => W.heap.size ≤ b ∨ (k, b) ∈ touch) w w' ∧ keeps f w w' k T 0))) [o] (puts a0 (dsts ops) f) w
def hops6 (P : Program) (ops : Array Oper) (T : List Fact) (W : World) (a0 : Act) (touch : List (Nat × Nat)) : List Oper → Nat → Prop
  | [], _ => True
  | o :: l, k => hop6 P ops T W a0 touch o k ∧ hops6 P ops T W a0 touch l (k + 1)
theorem hops6_at {P : Program} {ops : Array Oper} {T : List Fact} {W : World} {a0 : Act} {touch : List (Nat × Nat)} : ∀ {l : List Oper} {k i : Nat} {o : Oper}, hops6 P ops T W a0 touch l k → l[i]? = some o → hop6 P ops T W a0 touch o (k + i)
  | [], _, _, _, _, h => by simp at h
  | x :: l, k, 0, o, h, hi => by simp at hi; subst hi; exact h.1
  | x :: l, k, i + 1, o, h, hi => by
    simp at hi
    have := hops6_at (k := k + 1) (i := i) h.2 hi
    rwa [show k + 1 + i = k + (i + 1) by omega] at this
structure GInv6 (ops : Array Oper) (T : List Fact) (W : World) (a0 : Act) (touch : List (Nat × Nat)) (listed : Array Bool) (a : Act) (w : World) : Prop where
  g : Chg (fun b => ∃ s, (s, b) ∈ touch) W w
  pre : ∀ b, b < W.heap.size → (∀ s, (s, b) ∈ touch → listed.getD s false = false) → w.heap[b]? = W.heap[b]?
  old : ∀ i o d, ops[i]? = some o → o.dst = some d → listed.getD i false = false → a.tmps.getD d undef = a0.tmps.getD d undef
  sz : listed.size = ops.size
  tz : a.tmps.size = a0.tmps.size
  df : a.defers = a0.defers
  out : ∀ t, t ∉ dsts ops → a.tmps[t]? = a0.tmps[t]?
  facts : ∀ k o, ops[k]? = some o → listed.getD k false = true → (fAt T k).at_ (fun d => a.tmps.getD d undef) w
  closed : ∀ k o, ops[k]? = some o → listed.getD k false = true → ∀ e ∈ bindE o, listed.getD e.on false = true
section
variable {P : Program} {ops : Array Oper} {T : List Fact} {W : World} {a0 : Act} {touch : List (Nat × Nat)} {Q : Exit → Act → World → Prop}
theorem GInv6.step {listed : Array Bool} {a : Act} {w : World} (K : RegOk ops T) (hsz : ∀ d ∈ dsts ops, d < a0.tmps.size) (hst : stablesF T) (h : GInv6 ops T W a0 touch listed a w) {i : Nat} {o : Oper} (hi : ops[i]? = some o)
    (hun : listed.getD i false = false) (hwait : ∀ e ∈ bindE o, listed.getD e.on false = true) {v : Value} {w' : World} (hv : (fAt T i).at_ (upd (fun d => a.tmps.getD d undef) o.dst v) w')
    (hg : w.grownBy w' none ∨ (Chg (fun b => W.heap.size ≤ b ∨ (i, b) ∈ touch) w w' ∧ keeps (fun d => a.tmps.getD d undef) w w' i T 0)) : GInv6 ops T W a0 touch (listed.setIfInBounds i true) (a.put o.dst v) w' := by
  have hdlt : ∀ d, o.dst = some d → d < a.tmps.size := fun d hd => by rw [h.tz]; exact hsz d (dst_mem hi hd)
  have hil : i < listed.size := by rw [h.sz]; exact (Array.getElem?_eq_some_iff.1 hi).1
  have lset : ∀ k, k ≠ i → (listed.setIfInBounds i true).getD k false = listed.getD k false := fun k hk => by
    simp only [Array.getD_eq_getD_getElem?, Array.getElem?_setIfInBounds, Ne.symm hk, if_false]
  have lold : ∀ k, listed.getD k false = true → (listed.setIfInBounds i true).getD k false = true := fun k hk => by
    by_cases e : k = i
    · subst e; simp [hil]
    · rw [lset k e]; exact hk
  have hf : (fun d => (a.put o.dst v).tmps.getD d undef) = upd (fun d => a.tmps.getD d undef) o.dst v := by
    funext t; exact put_get a o.dst v t hdlt
  refine ⟨?_, fun b hbW hs => ?_, fun j oj d hj hd hl => ?_, by simp [h.sz], ?_, ?_, fun t ht => ?_, fun k ok hk hl => ?_, fun k ok hk hl e he => ?_⟩
  · rcases hg with hg | ⟨hg, _⟩
    · exact h.g.trans (Chg.of hg fun g hg' => by simp at hg')
    · refine ⟨hg.os.trans h.g.os, hg.tape.trans h.g.tape, hg.output.trans h.g.output, Nat.le_trans h.g.size hg.size, fun b hb hs => ?_⟩
      rw [hg.block b (Nat.lt_of_lt_of_le hb h.g.size) fun hs' => ?_, h.g.block b hb hs]
      rcases hs' with h1 | h1
      · omega
      · exact hs ⟨i, h1⟩
  · have hb' : ∀ s, (s, b) ∈ touch → listed.getD s false = false := fun s hs' => by
      have h1 := hs s hs'
      cases hl : listed.getD s false with
      | false => rfl
      | true => rw [lold s hl] at h1; cases h1
    have hib : (i, b) ∉ touch := fun hi' => by have h1 := hs i hi'; simp [hil] at h1
    have h0 := h.pre b hbW hb'
    have hbw : b < w.heap.size := Nat.lt_of_lt_of_le hbW h.g.size
    rcases hg with hg | ⟨hg, _⟩
    · exact (hg.block b hbw (by simp)).trans h0
    · refine (hg.block b hbw fun hs' => ?_).trans h0
      rcases hs' with h1 | h1
      · omega
      · exact hib h1
  · have hji : j ≠ i := fun e => by subst e; simp [hil] at hl
    rw [lset j hji] at hl
    have hne : o.dst ≠ some d := fun hd' => nodup_ne K.nodup (l := ops.toList) (i := j) (j := i) (by simpa using hj) (by simpa using hi) hji hd hd'
    have h9 : (a.put o.dst v).tmps.getD d undef = upd (fun d => a.tmps.getD d undef) o.dst v d := congrFun hf d
    rw [h9, upd_get _ _ _ _ hne]
    exact h.old j oj d hj hd hl
  · rw [← h.tz]; cases o.dst <;> simp [Act.put]
  · rw [← h.df]; cases o.dst <;> rfl
  · rw [← h.out t ht]
    cases hd : o.dst with
    | none => rfl
    | some d =>
      have : d ≠ t := fun e => ht (e ▸ dst_mem hi hd)
      simp [Act.put, this]
  · rw [hf]
    by_cases hik : k = i
    · subst hik
      exact hv
    · rw [lset k hik] at hl
      have hold := h.facts k ok hk hl
      have hne : ∀ t ∈ (fAt T k).ts, o.dst ≠ some t := fun t ht hd => by
        rcases K.sup k ok hk t ht with h1 | ⟨e, he, o', ho', hd'⟩
        · exact nodup_ne K.nodup (l := ops.toList) (i := k) (j := i) (by simpa using hk) (by simpa using hi) hik h1 hd
        · have h2 := h.closed k ok hk hl e he
          have h3 : e.on ≠ i := fun x => by rw [x, hun] at h2; cases h2
          exact nodup_ne K.nodup (l := ops.toList) (i := e.on) (j := i) (by simpa using ho') (by simpa using hi) h3 hd' hd
      have hmap : (fAt T k).ts.map (upd (fun d => a.tmps.getD d undef) o.dst v) = (fAt T k).ts.map (fun d => a.tmps.getD d undef) := List.map_congr_left fun t ht => upd_get _ _ _ _ (hne t ht)
      unfold Fact.at_
      rw [hmap]
      rcases hg with hg | ⟨_, hk2⟩
      · exact stableF_at hst k _ _ _ hold hg
      · cases hT : T[k]? with
        | none => unfold fAt; rw [hT]; trivial
        | some F =>
          have e : fAt T k = F := by unfold fAt; rw [hT]; rfl
          rw [e] at hold ⊢
          exact keeps_at hk2 hT (by omega) hold
  · by_cases hik : k = i
    · subst hik
      obtain rfl : ok = o := by rw [hi] at hk; injection hk with hk; exact hk.symm
      exact lold _ (hwait e he)
    · rw [lset k hik] at hl
      exact lold _ (h.closed k ok hk hl e he)
theorem GInv6.is {listed : Array Bool} {a : Act} {w : World} (h : GInv6 ops T W a0 touch listed a w) : a = puts a0 (dsts ops) (fun d => a.tmps.getD d undef) := puts_is h.tz h.df h.out
theorem GInv6.old_ {listed : Array Bool} {a : Act} {w : World} (h : GInv6 ops T W a0 touch listed a w) {k d : Nat} (hk : listed.getD k false = false) (ho : oldB ops k d = true) (hd : d ∈ dsts ops) : a.tmps.getD d undef = a0.tmps.getD d undef := by
  unfold dsts at hd
  obtain ⟨o, ho', hd'⟩ := List.mem_filterMap.1 hd
  obtain ⟨i, hi⟩ := List.mem_iff_getElem?.1 ho'
  have hi' : ops[i]? = some o := by simpa using hi
  refine h.old i o d hi' hd' (ahead_un h.closed hk ?_)
  have := List.all_eq_true.1 ho (o, i) (by rw [List.mem_zipIdx_iff_getElem?]; simpa using hi')
  simpa [hd'] using this
theorem reg6_any (K : RegOk ops T) (hsz : ∀ d ∈ dsts ops, d < a0.tmps.size) (hst : stablesF T) (hh : hops6 P ops T W a0 touch ops.toList 0)
    (fin : ∀ (f : Tmp → Value) (w : World), Chg (fun b => ∃ s, (s, b) ∈ touch) W w → knowsF T f w T → Q .normal (puts a0 (dsts ops) f) w) :
    ∀ (fuel : Nat) (listed : Array Bool) (a : Act) (w : World), GInv6 ops T W a0 touch listed a w → listed.toList.countP (fun b => !b) ≤ fuel → wpAny P .any ops Q fuel listed a w := by
  have done : ∀ (listed : Array Bool) (a : Act) (w : World), GInv6 ops T W a0 touch listed a w → Region.ready .any ops listed = [] → Q .normal a w := fun listed a w h hr => by
    rw [h.is]
    refine fin _ w h.g (knowsF_of fun F hF => ?_)
    obtain ⟨k, hk⟩ := List.mem_iff_getElem?.1 hF
    have hkl : k < ops.size := Nat.lt_of_lt_of_le (List.getElem?_eq_some_iff.1 hk).1 K.len
    have := h.facts k ops[k] (Array.getElem?_eq_getElem hkl) (all_listedF K h.sz hr (k + 1) k (by omega) hkl)
    unfold fAt at this
    rw [hk] at this
    exact this
  intro fuel
  induction fuel with
  | zero =>
    intro listed a w h hc
    have hr : Region.ready .any ops listed = [] := by
      cases hr : Region.ready .any ops listed with
      | nil => rfl
      | cons i l =>
        exfalso
        have hi := (mem_ready.1 (show i ∈ Region.ready .any ops listed by rw [hr]; exact List.mem_cons_self ..)).1
        have h0 : listed.toList.countP (fun b => !b) = 0 := by omega
        rw [List.countP_eq_zero] at h0
        have hlt : i < listed.size := by
          rcases Nat.lt_or_ge i listed.size with h1 | h1
          · exact h1
          · simp [Array.getElem?_eq_none h1] at hi
        have hv : listed[i] = false := by simpa [hlt] using hi
        have := h0 listed[i] (Array.getElem_mem_toList hlt)
        simp [hv] at this
    exact ⟨hr, done listed a w h hr⟩
  | succ fuel ih =>
    intro listed a w h hc
    refine ⟨fun hr => done listed a w h hr, fun i hi => ?_⟩
    obtain ⟨hl, o, ho, hall⟩ := mem_ready.1 hi
    have hwait : ∀ e ∈ bindE o, listed.getD e.on false = true := fun e he => by
      obtain ⟨h1, h2⟩ := bind_mem.1 he
      exact hall e (by simpa using h1) h2
    have hun : listed.getD i false = false := by
      have hlt : i < listed.size := by rw [h.sz]; exact (Array.getElem?_eq_some_iff.1 ho).1
      simp [hlt] at hl ⊢
      exact hl
    have hop := hops6_at hh (i := i) (by simpa using ho)
    rw [Nat.zero_add] at hop
    have h1 := hop (fun d => a.tmps.getD d undef) w h.g (fun b hb hs => h.pre b hb fun s hs' => ahead_un h.closed hun (hs s hs')) (fun d hd hm => h.old_ hun hd hm) (depsF_of fun e he => by
      have h2 := hwait e he
      have h3 := K.early i o ho e he
      have h4 : e.on < ops.size := by have := (Array.getElem?_eq_some_iff.1 ho).1; omega
      exact h.facts e.on _ (Array.getElem?_eq_getElem h4) h2)
    rw [← h.is] at h1
    unfold wpOp
    simp only [ho]
    have next : ∀ a' w', (∃ v, a' = a.put o.dst v ∧ (fAt T i).at_ (upd (fun d => a.tmps.getD d undef) o.dst v) w' ∧ (w.grownBy w' none ∨ (Chg (fun b => W.heap.size ≤ b ∨ (i, b) ∈ touch) w w' ∧ keeps (fun d => a.tmps.getD d undef) w w' i T 0))) → wpAny P .any ops Q fuel (listed.setIfInBounds i true) a' w' := fun a' w' ⟨v, ha, hv, hg⟩ => by
      subst ha
      exact ih _ _ _ (h.step K hsz hst ho hun hwait hv hg) (few_set hc hl)
    unfold wpList at h1
    split
    · rename_i hw
      rw [if_pos hw] at h1
      rcases h1 with h1 | h1
      · exact .inl (wp_only (Oper.wp_mono next h1))
      · exact (only_no h1.2).elim
    · rename_i hw
      rw [if_neg hw] at h1
      exact next _ _ h1
theorem region_reg6 {id : Nat} {w : World} (T : List Fact) (touch : List (Nat × Nat)) (hm : P.follows .mixedOrders = true) (hB : regB ops (T.map (·.ts)) = true) (hsz : (dsts ops).all (fun d => d < a0.tmps.size) = true) (hst : stablesF T)
    (hh : hops6 P ops T w.drew a0 touch ops.toList 0)
    (fin : ∀ (f : Tmp → Value) (w' : World), Chg (fun b => ∃ s, (s, b) ∈ touch) w.drew w' → knowsF T f w' T → Q .normal (puts a0 (dsts ops) f) w') : (Code.region id ops true).wp P Q a0 w := by
  refine wp_region_any hm (reg6_any (W := w.drew) (T := T) (RegOk.of hB) (fun d hd => by simpa using List.all_eq_true.1 hsz d hd) hst hh fin ops.size _ a0 _ ⟨Chg.refl _ _, fun _ _ _ => rfl, fun _ _ _ _ _ _ => rfl, by simp, rfl, rfl, fun _ _ => rfl, ?_, ?_⟩ ?_)
  · intro k o hk hl
    simp only [Array.getD_eq_getD_getElem?, Array.getElem?_replicate] at hl
    split at hl <;> simp at hl
  · intro k o hk hl
    simp only [Array.getD_eq_getD_getElem?, Array.getElem?_replicate] at hl
    split at hl <;> simp at hl
  · have := List.countP_le_length (p := fun b : Bool => !b) (l := (Array.replicate ops.size false).toList)
    simpa using this
end
end Go.Proofs.Ythdfkiaoahpjpaa
