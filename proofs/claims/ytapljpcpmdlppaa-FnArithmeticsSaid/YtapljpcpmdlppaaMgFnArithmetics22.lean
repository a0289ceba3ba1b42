/-
  A region that draws its order, once more: one statement an operation, whatever order comes up; edges that do not bind are left out; a fact may speak of several temporaries; an operation may be a store into memory that is new since the region began: it says of each fact that it stands behind it too.
-/
import Derived.Test.YtapljpcpmdlppaaMgFnArithmetics2
namespace Go.Proofs.Ytapljpcpmdlppaa
open Go.RowKit
set_option linter.unusedVariables false
set_option linter.unusedSimpArgs false
/-- What is known behind an operation: of the values of some temporaries, and of the world. -/
structure Fact where
  ts : List Tmp
  R : List Value → World → Prop
def Fact.at_ (F : Fact) (f : Tmp → Value) (w : World) : Prop := F.R (F.ts.map f) w
/-- Of one temporary. -/
def onT (d : Tmp) (R : Value → World → Prop) : Fact := ⟨[d], fun l w => R (l.getD 0 undef) w⟩
def noF : Fact := ⟨[], fun _ _ => True⟩
theorem onT_at (d : Tmp) (R : Value → World → Prop) (f : Tmp → Value) (w : World) : (onT d R).at_ f w = R (f d) w := rfl
theorem noF_at (f : Tmp → Value) (w : World) : noF.at_ f w = True := rfl
def fAt (T : List Fact) (k : Nat) : Fact := (T[k]?).getD noF
def bindE (o : Oper) : List Edge := o.after.toList.filter (Region.binds .any)
/-- What is known of what an operation waits for. -/
def depsF (T : List Fact) (f : Tmp → Value) (w : World) : List Edge → Prop
  | [] => True
  | e :: es => (fAt T e.on).at_ f w ∧ depsF T f w es
/-- All facts but that of k stand behind the step. -/
def keeps (f : Tmp → Value) (w w' : World) (k : Nat) : List Fact → Nat → Prop
  | [], _ => True
  | F :: l, j => (j ≠ k → F.at_ f w → F.at_ f w') ∧ keeps f w w' k l (j + 1)
def upd (f : Tmp → Value) : Option Tmp → Value → Tmp → Value
  | some d, v => fun t => if t = d then v else f t
  | none, _ => f
theorem upd_some (f : Tmp → Value) (d : Tmp) (v : Value) (t : Tmp) : upd f (some d) v t = if t = d then v else f t := rfl
theorem upd_none (f : Tmp → Value) (v : Value) : upd f none v = f := rfl
def hopF (P : Program) (ops : Array Oper) (T : List Fact) (W : World) (a0 : Act) (o : Oper) (k : Nat) : Prop :=
  ∀ (f : Tmp → Value) (w : World), W.grownBy w none → depsF T f w (bindE o) →
    wpList P ops (Only fun a' w' => ∃ v, a' = (puts a0 (dsts ops) f).put o.dst v ∧ (fAt T k).at_ (upd f o.dst v) w' ∧ (w.grownBy w' none ∨ (o.dst = none ∧ W.grownBy w' none ∧ keeps f w w' k T 0))) [o] (puts a0 (dsts ops) f) w
def hopsF (P : Program) (ops : Array Oper) (T : List Fact) (W : World) (a0 : Act) : List Oper → Nat → Prop
  | [], _ => True
  | o :: l, k => hopF P ops T W a0 o k ∧ hopsF P ops T W a0 l (k + 1)
def knowsF (T : List Fact) (f : Tmp → Value) (w : World) : List Fact → Prop
  | [] => True
  | F :: l => F.at_ f w ∧ knowsF T f w l
def stableF (F : Fact) : Prop := ∀ l w w', F.R l w → w.grownBy w' none → F.R l w'
def stablesF (T : List Fact) : Prop := ∀ F ∈ T, stableF F
theorem stableF_on {d : Tmp} {R : Value → World → Prop} (h : stable R) : stableF (onT d R) := fun l w w' hr hg => h _ _ _ hr hg
theorem stableF_no : stableF noF := fun _ _ _ _ _ => trivial
theorem stableF_at {T : List Fact} (h : stablesF T) (k : Nat) : stableF (fAt T k) := by
  unfold fAt
  cases hk : T[k]? with
  | none => exact stableF_no
  | some F => exact h F (List.mem_of_getElem? hk)
/-- The order's form: what binds stands earlier; no temporary is written twice; a fact speaks of what its operation or those before it have written. -/
def regB (ops : Array Oper) (ts : List (List Tmp)) : Bool :=
  (ops.toList.zipIdx.all fun (o, i) => (bindE o).all fun e => e.on < i) && decide (dsts ops).Nodup &&
  (ops.toList.zipIdx.all fun (o, i) => ((ts[i]?).getD []).all fun t => o.dst == some t || (bindE o).any fun e => ((ops[e.on]?).bind (·.dst)) == some t) && decide (ts.length ≤ ops.size)

structure RInv (ops : Array Oper) (T : List Fact) (W : World) (a0 : Act) (listed : Array Bool) (a : Act) (w : World) : Prop where
  g : W.grownBy w none
  sz : listed.size = ops.size
  tz : a.tmps.size = a0.tmps.size
  df : a.defers = a0.defers
  out : ∀ t, t ∉ dsts ops → a.tmps[t]? = a0.tmps[t]?
  facts : ∀ k o, ops[k]? = some o → listed.getD k false = true → (fAt T k).at_ (fun d => a.tmps.getD d undef) w
  closed : ∀ k o, ops[k]? = some o → listed.getD k false = true → ∀ e ∈ bindE o, listed.getD e.on false = true

theorem keeps_at {f : Tmp → Value} {w w' : World} {k : Nat} : ∀ {l : List Fact} {i j : Nat} {F : Fact}, keeps f w w' k l i → l[j]? = some F → i + j ≠ k → F.at_ f w → F.at_ f w'
  | [], _, _, _, _, h, _ => by simp at h
  | G :: l, i, 0, F, hk, h, hne => by simp at h; subst h; exact hk.1 hne
  | G :: l, i, j + 1, F, hk, h, hne => by
    simp at h
    exact keeps_at (i := i + 1) (j := j) hk.2 h (by omega)
theorem hopsF_at {P : Program} {ops : Array Oper} {T : List Fact} {W : World} {a0 : Act} : ∀ {l : List Oper} {k i : Nat} {o : Oper}, hopsF P ops T W a0 l k → l[i]? = some o → hopF P ops T W a0 o (k + i)
  | [], _, _, _, _, h => by simp at h
  | x :: l, k, 0, o, h, hi => by simp at hi; subst hi; exact h.1
  | x :: l, k, i + 1, o, h, hi => by
    simp at hi
    have := hopsF_at (k := k + 1) (i := i) h.2 hi
    rwa [show k + 1 + i = k + (i + 1) by omega] at this
theorem depsF_of {T : List Fact} {f : Tmp → Value} {w : World} : ∀ {l : List Edge}, (∀ e ∈ l, (fAt T e.on).at_ f w) → depsF T f w l
  | [], _ => trivial
  | e :: l, h => ⟨h e (List.mem_cons_self ..), depsF_of fun e' he' => h e' (List.mem_cons_of_mem _ he')⟩
theorem knowsF_of {T : List Fact} {f : Tmp → Value} {w : World} : ∀ {l : List Fact}, (∀ F ∈ l, F.at_ f w) → knowsF T f w l
  | [], _ => trivial
  | F :: l, h => ⟨h F (List.mem_cons_self ..), knowsF_of fun G hG => h G (List.mem_cons_of_mem _ hG)⟩
theorem upd_get (f : Tmp → Value) (o : Option Tmp) (v : Value) (t : Tmp) (h : o ≠ some t) : upd f o v t = f t := by
  cases o with
  | none => rfl
  | some d => rw [upd_some, if_neg fun e => h (by rw [e])]
theorem put_get (a : Act) (o : Option Tmp) (v : Value) (t : Tmp) (h : ∀ d, o = some d → d < a.tmps.size) : (a.put o v).tmps.getD t undef = upd (fun d => a.tmps.getD d undef) o v t := by
  cases o with
  | none => rfl
  | some d =>
    have hd := h d rfl
    rw [upd_some]
    by_cases e : t = d
    · subst e; rw [if_pos rfl]; simp [Act.put, hd]
    · rw [if_neg e]
      have : d ≠ t := fun x => e x.symm
      simp [Act.put, this]
section
variable {P : Program} {ops : Array Oper} {T : List Fact} {W : World} {a0 : Act} {Q : Exit → Act → World → Prop}
structure RegOk (ops : Array Oper) (T : List Fact) : Prop where
  early : ∀ i o, ops[i]? = some o → ∀ e ∈ bindE o, e.on < i
  nodup : (dsts ops).Nodup
  sup : ∀ i o, ops[i]? = some o → ∀ t ∈ (fAt T i).ts, o.dst = some t ∨ ∃ e ∈ bindE o, ∃ o', ops[e.on]? = some o' ∧ o'.dst = some t
  len : T.length ≤ ops.size
theorem RegOk.of (h : regB ops (T.map (·.ts)) = true) : RegOk ops T := by
  simp only [regB, Bool.and_eq_true, decide_eq_true_eq, List.all_eq_true] at h
  obtain ⟨⟨⟨h1, h2⟩, h3⟩, h4⟩ := h
  refine ⟨fun i o hi e he => ?_, h2, fun i o hi t ht => ?_, by simpa using h4⟩
  · have := h1 (o, i) (by rw [List.mem_zipIdx_iff_getElem?]; simpa using hi) e he
    simpa using this
  · have hts : ((T.map (·.ts))[i]?).getD [] = (fAt T i).ts := by
      unfold fAt
      rw [List.getElem?_map]
      cases T[i]? <;> rfl
    have := h3 (o, i) (by rw [List.mem_zipIdx_iff_getElem?]; simpa using hi) t (by simp only; rw [hts]; exact ht)
    simp only [Bool.or_eq_true, beq_iff_eq, List.any_eq_true] at this
    rcases this with h | ⟨e, he, hd⟩
    · exact .inl h
    · refine .inr ⟨e, he, ?_⟩
      cases ho : ops[e.on]? with
      | none => rw [ho] at hd; cases hd
      | some o' => rw [ho] at hd; exact ⟨o', rfl, hd⟩
theorem RInv.step {listed : Array Bool} {a : Act} {w : World} (K : RegOk ops T) (hsz : ∀ d ∈ dsts ops, d < a0.tmps.size) (hst : stablesF T) (h : RInv ops T W a0 listed a w) {i : Nat} {o : Oper} (hi : ops[i]? = some o)
    (hun : listed.getD i false = false) (hwait : ∀ e ∈ bindE o, listed.getD e.on false = true) {v : Value} {w' : World} (hv : (fAt T i).at_ (upd (fun d => a.tmps.getD d undef) o.dst v) w')
    (hg : w.grownBy w' none ∨ (o.dst = none ∧ W.grownBy w' none ∧ keeps (fun d => a.tmps.getD d undef) w w' i T 0)) : RInv ops T W a0 (listed.setIfInBounds i true) (a.put o.dst v) w' := by
  have hdlt : ∀ d, o.dst = some d → d < a.tmps.size := fun d hd => by rw [h.tz]; exact hsz d (dst_mem hi hd)
  have hil : i < listed.size := by rw [h.sz]; exact (Array.getElem?_eq_some_iff.1 hi).1
  have lset : ∀ k, k ≠ i → (listed.setIfInBounds i true).getD k false = listed.getD k false := fun k hk => by
    simp only [Array.getD_eq_getD_getElem?, Array.getElem?_setIfInBounds, Ne.symm hk, if_false]
  have lold : ∀ k, listed.getD k false = true → (listed.setIfInBounds i true).getD k false = true := fun k hk => by
    by_cases e : k = i
    · subst e; simp [hil]
    · rw [lset k e]; exact hk
  refine ⟨?_, by simp [h.sz], ?_, ?_, fun t ht => ?_, fun k ok hk hl => ?_, fun k ok hk hl e he => ?_⟩
  · rcases hg with hg | ⟨_, hg, _⟩
    · exact gbT h.g hg
    · exact hg
  · rw [← h.tz]; cases o.dst <;> simp [Act.put]
  · rw [← h.df]; cases o.dst <;> rfl
  · rw [← h.out t ht]
    cases hd : o.dst with
    | none => rfl
    | some d =>
      have : d ≠ t := fun e => ht (e ▸ dst_mem hi hd)
      simp [Act.put, this]
  · have hf : (fun d => (a.put o.dst v).tmps.getD d undef) = upd (fun d => a.tmps.getD d undef) o.dst v := by
      funext t; exact put_get a o.dst v t hdlt
    rw [hf]
    by_cases hik : k = i
    · subst hik
      exact hv
    · rw [lset k hik] at hl
      have hold := h.facts k ok hk hl
      have hne : ∀ t ∈ (fAt T k).ts, o.dst ≠ some t := fun t ht hd => by
        rcases K.sup k ok hk t ht with h1 | ⟨e, he, o', ho', hd'⟩
        · exact nodup_ne K.nodup (l := ops.toList) (i := k) (j := i) (by simpa using hk) (by simpa using hi) hik h1 hd
        · have h2 := h.closed k ok hk hl e he
          have h3 : e.on ≠ i := fun x => by rw [x, hun] at h2; cases h2
          exact nodup_ne K.nodup (l := ops.toList) (i := e.on) (j := i) (by simpa using ho') (by simpa using hi) h3 hd' hd
      have hmap : (fAt T k).ts.map (upd (fun d => a.tmps.getD d undef) o.dst v) = (fAt T k).ts.map (fun d => a.tmps.getD d undef) := List.map_congr_left fun t ht => upd_get _ _ _ _ (hne t ht)
      unfold Fact.at_
      rw [hmap]
      rcases hg with hg | ⟨hd, _, hk2⟩
      · exact stableF_at hst k _ _ _ hold hg
      · cases hT : T[k]? with
        | none => unfold fAt; rw [hT]; trivial
        | some F =>
          have e : fAt T k = F := by unfold fAt; rw [hT]; rfl
          rw [e] at hold ⊢
          exact keeps_at hk2 hT (by omega) hold
  · by_cases hik : k = i
    · subst hik
      obtain rfl : ok = o := by rw [hi] at hk; injection hk with hk; exact hk.symm
      exact lold _ (hwait e he)
    · rw [lset k hik] at hl
      exact lold _ (h.closed k ok hk hl e he)
theorem RInv.is {listed : Array Bool} {a : Act} {w : World} (h : RInv ops T W a0 listed a w) : a = puts a0 (dsts ops) (fun d => a.tmps.getD d undef) := puts_is h.tz h.df h.out
theorem bind_mem {o : Oper} {e : Edge} : e ∈ bindE o ↔ e ∈ o.after.toList ∧ Region.binds .any e = true := List.mem_filter
theorem all_listedF (K : RegOk ops T) {listed : Array Bool} (hz : listed.size = ops.size) (hr : Region.ready .any ops listed = []) : ∀ n k, k < n → k < ops.size → listed.getD k false = true
  | 0, _, h, _ => absurd h (Nat.not_lt_zero _)
  | n + 1, k, h, hk => by
    cases hl : listed.getD k false with
    | true => rfl
    | false =>
      exfalso
      have : k ∈ Region.ready .any ops listed := by
        refine mem_ready.2 ⟨?_, ops[k], Array.getElem?_eq_getElem hk, fun e he hb => ?_⟩
        · have hk' : k < listed.size := by omega
          simp [hk'] at hl ⊢
          exact hl
        · have h2 := K.early k _ (Array.getElem?_eq_getElem hk) e (bind_mem.2 ⟨by simpa using he, hb⟩)
          exact all_listedF K hz hr n e.on (by omega) (by omega)
      rw [hr] at this
      cases this
theorem reg_any (K : RegOk ops T) (hsz : ∀ d ∈ dsts ops, d < a0.tmps.size) (hst : stablesF T) (hh : hopsF P ops T W a0 ops.toList 0)
    (fin : ∀ (f : Tmp → Value) (w : World), W.grownBy w none → knowsF T f w T → Q .normal (puts a0 (dsts ops) f) w) :
    ∀ (fuel : Nat) (listed : Array Bool) (a : Act) (w : World), RInv ops T W a0 listed a w → listed.toList.countP (fun b => !b) ≤ fuel → wpAny P .any ops Q fuel listed a w := by
  have done : ∀ (listed : Array Bool) (a : Act) (w : World), RInv ops T W a0 listed a w → Region.ready .any ops listed = [] → Q .normal a w := fun listed a w h hr => by
    rw [h.is]
    refine fin _ w h.g (knowsF_of fun F hF => ?_)
    obtain ⟨k, hk⟩ := List.mem_iff_getElem?.1 hF
    have hkl : k < ops.size := Nat.lt_of_lt_of_le (List.getElem?_eq_some_iff.1 hk).1 K.len
    have := h.facts k ops[k] (Array.getElem?_eq_getElem hkl) (all_listedF K h.sz hr (k + 1) k (by omega) hkl)
    unfold fAt at this
    rw [hk] at this
    exact this
  intro fuel
  induction fuel with
  | zero =>
    intro listed a w h hc
    have hr : Region.ready .any ops listed = [] := by
      cases hr : Region.ready .any ops listed with
      | nil => rfl
      | cons i l =>
        exfalso
        have hi := (mem_ready.1 (show i ∈ Region.ready .any ops listed by rw [hr]; exact List.mem_cons_self ..)).1
        have h0 : listed.toList.countP (fun b => !b) = 0 := by omega
        rw [List.countP_eq_zero] at h0
        have hlt : i < listed.size := by
          rcases Nat.lt_or_ge i listed.size with h1 | h1
          · exact h1
          · simp [Array.getElem?_eq_none h1] at hi
        have hv : listed[i] = false := by simpa [hlt] using hi
        have := h0 listed[i] (Array.getElem_mem_toList hlt)
        simp [hv] at this
    exact ⟨hr, done listed a w h hr⟩
  | succ fuel ih =>
    intro listed a w h hc
    refine ⟨fun hr => done listed a w h hr, fun i hi => ?_⟩
    obtain ⟨hl, o, ho, hall⟩ := mem_ready.1 hi
    have hwait : ∀ e ∈ bindE o, listed.getD e.on false = true := fun e he => by
      obtain ⟨h1, h2⟩ := bind_mem.1 he
      exact hall e (by simpa using h1) h2
    have hun : listed.getD i false = false := by
      have hlt : i < listed.size := by rw [h.sz]; exact (Array.getElem?_eq_some_iff.1 ho).1
      simp [hlt] at hl ⊢
      exact hl
    have hop := hopsF_at hh (i := i) (by simpa using ho)
    rw [Nat.zero_add] at hop
    have h1 := hop (fun d => a.tmps.getD d undef) w h.g (depsF_of fun e he => by
      have h2 := hwait e he
      have h3 := K.early i o ho e he
      have h4 : e.on < ops.size := by have := (Array.getElem?_eq_some_iff.1 ho).1; omega
      exact h.facts e.on _ (Array.getElem?_eq_getElem h4) h2)
    rw [← h.is] at h1
    unfold wpOp
    simp only [ho]
    have next : ∀ a' w', (∃ v, a' = a.put o.dst v ∧ (fAt T i).at_ (upd (fun d => a.tmps.getD d undef) o.dst v) w' ∧ (w.grownBy w' none ∨ (o.dst = none ∧ W.grownBy w' none ∧ keeps (fun d => a.tmps.getD d undef) w w' i T 0))) → wpAny P .any ops Q fuel (listed.setIfInBounds i true) a' w' := fun a' w' ⟨v, ha, hv, hg⟩ => by
      subst ha
      exact ih _ _ _ (h.step K hsz hst ho hun hwait hv hg) (few_set hc hl)
    unfold wpList at h1
    split
    · rename_i hw
      rw [if_pos hw] at h1
      rcases h1 with h1 | h1
      · exact .inl (wp_only (Oper.wp_mono next h1))
      · exact (only_no h1.2).elim
    · rename_i hw
      rw [if_neg hw] at h1
      exact next _ _ h1
/-- ONE STATEMENT AN OPERATION SERVES EVERY ORDER. -/
theorem region_reg {id : Nat} {w : World} (T : List Fact) (hm : P.follows .mixedOrders = true) (hB : regB ops (T.map (·.ts)) = true) (hsz : (dsts ops).all (fun d => d < a0.tmps.size) = true) (hst : stablesF T)
    (hh : hopsF P ops T w.drew a0 ops.toList 0)
    (fin : ∀ (f : Tmp → Value) (w' : World), w.drew.grownBy w' none → knowsF T f w' T → Q .normal (puts a0 (dsts ops) f) w') : (Code.region id ops true).wp P Q a0 w := by
  refine wp_region_any hm (reg_any (W := w.drew) (T := T) (RegOk.of hB) (fun d hd => by simpa using List.all_eq_true.1 hsz d hd) hst hh fin ops.size _ a0 _ ⟨gbR _ _, by simp, rfl, rfl, fun _ _ => rfl, ?_, ?_⟩ ?_)
  · intro k o hk hl
    simp only [Array.getD_eq_getD_getElem?, Array.getElem?_replicate] at hl
    split at hl <;> simp at hl
  · intro k o hk hl
    simp only [Array.getD_eq_getD_getElem?, Array.getElem?_replicate] at hl
    split at hl <;> simp at hl
  · have := List.countP_le_length (p := fun b : Bool => !b) (l := (Array.replicate ops.size false).toList)
    simpa using this
end
/-- A pointer to a block of its own of type t, not below lo, of n cells, whatever they are. -/
def isRoom (lo : Nat) (t : TypeId) (n : Nat) : Value → World → Prop := fun v w => ∃ g cs, v = .pointer (some ⟨g, 0, none⟩) ∧ lo ≤ g ∧ Blk w g t cs ∧ cs.size = n
theorem isRoom_st (lo : Nat) (t : TypeId) (n : Nat) : stable (isRoom lo t n) := fun _ _ _ ⟨g, cs, h1, h2, h3, h4⟩ hg => ⟨g, cs, h1, h2, h3.grow hg, h4⟩
theorem bd_data (n : Nat) : Region.binds .any ⟨n, .data⟩ = true := rfl
theorem bd_chain (n : Nat) : Region.binds .any ⟨n, .chain⟩ = true := rfl
theorem bd_guard (n : Nat) : Region.binds .any ⟨n, .guard⟩ = true := rfl
theorem bd_phase (n : Nat) : Region.binds .any ⟨n, .phase⟩ = true := rfl
theorem bd_text (n : Nat) (r : Departure) : Region.binds .any ⟨n, .textOnly r⟩ = false := rfl
theorem bd_gc (n : Nat) (r : Departure) : Region.binds .any ⟨n, .gcOnly r⟩ = false := rfl
theorem Blk.ne_ {w : World} {g g' : Nat} {t t' : TypeId} {cs cs' : Array Value} (h : Blk w g t cs) (h' : Blk w g' t' cs') (hne : t ≠ t') : g ≠ g' := by
  rintro rfl
  unfold Blk at h h'
  rw [h] at h'
  injection h' with h'
  injection h' with _ ht
  exact hne ht
theorem room_set {lo : Nat} {t : TypeId} {n : Nat} {v : Value} {w : World} (h : isRoom lo t n v w) (g j : Nat) (u : Value) : isRoom lo t n v (w.setCell ⟨g, j, none⟩ u) := by
  obtain ⟨g', cs, h1, h2, h3, h4⟩ := h
  by_cases e : g' = g
  · subst e
    exact ⟨g', _, h1, h2, h3.set_ j u, by simpa using h4⟩
  · exact ⟨g', cs, h1, h2, h3.far (p := ⟨g, j, none⟩) e u, h4⟩
theorem box_far {lo : Nat} {t t' : TypeId} {ds cs : Array Value} {v : Value} {w : World} {g : Nat} (hB : Blk w g t cs) (hne : t' ≠ t) (h : isBox lo t' ds v w) (j : Nat) (u : Value) : isBox lo t' ds v (w.setCell ⟨g, j, none⟩ u) := by
  obtain ⟨g', h1, h2, h3⟩ := h
  exact ⟨g', h1, h2, h3.far (p := ⟨g, j, none⟩) (h3.ne_ hB hne) u⟩
theorem room_cell {w : World} {g : Nat} {t : TypeId} {cs : Array Value} (hB : Blk w g t cs) {n : Nat} (hn : cs.size = n) (j : Nat) (hj : j < n) : ∃ u, w.cell? ⟨g, j, none⟩ = some u :=
  ⟨_, (hB.cell j).trans (Array.getElem?_eq_getElem (by omega))⟩
theorem fill2 {w : World} {g : Nat} {t : TypeId} {cs : Array Value} (hB : Blk w g t cs) (hn : cs.size = 2) (x y : Value) : Blk ((w.setCell ⟨g, 0, none⟩ x).setCell ⟨g, 1, none⟩ y) g t #[x, y] := by
  have h := (hB.set_ 0 x).set_ 1 y
  obtain ⟨l⟩ := cs
  match l, hn with
  | [a, b], _ => exact h
theorem fill3 {w : World} {g : Nat} {t : TypeId} {cs : Array Value} (hB : Blk w g t cs) (hn : cs.size = 3) (x y z : Value) : Blk (((w.setCell ⟨g, 0, none⟩ x).setCell ⟨g, 1, none⟩ y).setCell ⟨g, 2, none⟩ z) g t #[x, y, z] := by
  have h := ((hB.set_ 0 x).set_ 1 y).set_ 2 z
  obtain ⟨l⟩ := cs
  match l, hn with
  | [a, b, c], _ => exact h
theorem room_new {lo : Nat} {t : TypeId} {n : Nat} {w : World} {cs : Array Value} (hlo : lo ≤ w.heap.size) (hn : cs.size = n) : isRoom lo t n (.pointer (some ⟨w.heap.size, 0, none⟩)) (w.alloc (.cells cs t)) :=
  ⟨w.heap.size, cs, rfl, hlo, Blk.new w t cs, hn⟩
end Go.Proofs.Ytapljpcpmdlppaa
