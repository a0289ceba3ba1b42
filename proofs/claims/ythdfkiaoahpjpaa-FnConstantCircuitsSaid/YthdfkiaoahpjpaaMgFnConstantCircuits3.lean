/-
  A region that draws its order, once more: one statement an operation, whatever order comes up; edges that do not bind are left out; a fact may speak of several temporaries; an operation may be a store into memory that is new since the region began: it says of each fact that it stands behind it too.
-/
import Derived.Test.YthdfkiaoahpjpaaMgFnConstantCircuits2
namespace Go.Proofs.Ythdfkiaoahpjpaa
open Go.RowKit
set_option linter.unusedVariables false
set_option linter.unusedSimpArgs false
structure Fact where
  ts : List Tmp
  R : List Value → World → Prop
def Fact.at_ (F : Fact) (f : Tmp → Value) (w : World) : Prop := F.R (F.ts.map f) w
def onT (d : Tmp) (R : Value → World → Prop) : Fact := ⟨[d], fun l w => R (l.getD 0 undef) w⟩
def noF : Fact := ⟨[], fun _ _ => True⟩
theorem onT_at (d : Tmp) (R : Value → World → Prop) (f : Tmp → Value) (w : World) : (onT d R).at_ f w = R (f d) w := rfl
def fAt (T : List Fact) (k : Nat) : Fact := (T[k]?).getD noF
def bindE (o : Oper) : List Edge := o.after.toList.filter (Region.binds .any)
def depsF (T : List Fact) (f : Tmp → Value) (w : World) : List Edge → Prop
  | [] => True
  | e :: es => (fAt T e.on).at_ f w ∧ depsF T f w es
def keeps (f : Tmp → Value) (w w' : World) (k : Nat) : List Fact → Nat → Prop
  | [], _ => True
  | F :: l, j => (j ≠ k → F.at_ f w → F.at_ f w') ∧ keeps f w w' k l (j + 1)
def upd (f : Tmp → Value) : Option Tmp → Value → Tmp → Value
  | some d, v => fun t => if t = d then v else f t
  | none, _ => f
theorem upd_some (f : Tmp → Value) (d : Tmp) (v : Value) (t : Tmp) : upd f (some d) v t = if t = d then v else f t := rfl
def knowsF (T : List Fact) (f : Tmp → Value) (w : World) : List Fact → Prop
  | [] => True
  | F :: l => F.at_ f w ∧ knowsF T f w l
def stableF (F : Fact) : Prop := ∀ l w w', F.R l w → w.grownBy w' none → F.R l w'
def stablesF (T : List Fact) : Prop := ∀ F ∈ T, stableF F
theorem stableF_on {d : Tmp} {R : Value → World → Prop} (h : stable R) : stableF (onT d R) := fun l w w' hr hg => h _ _ _ hr hg
theorem stableF_no : stableF noF := fun _ _ _ _ _ => trivial
theorem stableF_at {T : List Fact} (h : stablesF T) (k : Nat) : stableF (fAt T k) := by
  unfold fAt
  cases hk : T[k]? with
  | none => exact stableF_no
  | some F => exact h F (List.mem_of_getElem? hk)
def regB (ops : Array Oper) (ts : List (List Tmp)) : Bool :=
  (ops.toList.zipIdx.all fun (o, i) => (bindE o).all fun e => e.on < i) && decide (dsts ops).Nodup &&
  (ops.toList.zipIdx.all fun (o, i) => ((ts[i]?).getD []).all fun t => o.dst == some t || (bindE o).any fun e => ((ops[e.on]?).bind (·.dst)) == some t) && decide (ts.length ≤ ops.size)
structure RInv (ops : Array Oper) (T : List Fact) (W : World) (a0 : Act) (listed : Array Bool) (a : Act) (w : World) : Prop where
  g : W.grownBy w none
  sz : listed.size = ops.size
  tz : a.tmps.size = a0.tmps.size
  df : a.defers = a0.defers
  out : ∀ t, t ∉ dsts ops → a.tmps[t]? = a0.tmps[t]?
  facts : ∀ k o, ops[k]? = some o → listed.getD k false = true → (fAt T k).at_ (fun d => a.tmps.getD d undef) w
  closed : ∀ k o, ops[k]? = some o → listed.getD k false = true → ∀ e ∈ bindE o, listed.getD e.on false = true
theorem keeps_at {f : Tmp → Value} {w w' : World} {k : Nat} : ∀ {l : List Fact} {i j : Nat} {F : Fact}, keeps f w w' k l i → l[j]? = some F → i + j ≠ k → F.at_ f w → F.at_ f w'
  | [], _, _, _, _, h, _ => by simp at h
  | G :: l, i, 0, F, hk, h, hne => by simp at h; subst h; exact hk.1 hne
  | G :: l, i, j + 1, F, hk, h, hne => by
    simp at h
    exact keeps_at (i := i + 1) (j := j) hk.2 h (by omega)
theorem depsF_of {T : List Fact} {f : Tmp → Value} {w : World} : ∀ {l : List Edge}, (∀ e ∈ l, (fAt T e.on).at_ f w) → depsF T f w l
  | [], _ => trivial
  | e :: l, h => ⟨h e (List.mem_cons_self ..), depsF_of fun e' he' => h e' (List.mem_cons_of_mem _ he')⟩
theorem knowsF_of {T : List Fact} {f : Tmp → Value} {w : World} : ∀ {l : List Fact}, (∀ F ∈ l, F.at_ f w) → knowsF T f w l
  | [], _ => trivial
  | F :: l, h => ⟨h F (List.mem_cons_self ..), knowsF_of fun G hG => h G (List.mem_cons_of_mem _ hG)⟩
theorem upd_get (f : Tmp → Value) (o : Option Tmp) (v : Value) (t : Tmp) (h : o ≠ some t) : upd f o v t = f t := by
  cases o with
  | none => rfl
  | some d => rw [upd_some, if_neg fun e => h (by rw [e])]
theorem put_get (a : Act) (o : Option Tmp) (v : Value) (t : Tmp) (h : ∀ d, o = some d → d < a.tmps.size) : (a.put o v).tmps.getD t undef = upd (fun d => a.tmps.getD d undef) o v t := by
  cases o with
  | none => rfl
  | some d =>
    have hd := h d rfl
    rw [upd_some]
    by_cases e : t = d
    · subst e; rw [if_pos rfl]; simp [Act.put, hd]
    · rw [if_neg e]
      have : d ≠ t := fun x => e x.symm
      simp [Act.put, this]
section
variable {P : Program} {ops : Array Oper} {T : List Fact} {W : World} {a0 : Act} {Q : Exit → Act → World → Prop}
structure RegOk (ops : Array Oper) (T : List Fact) : Prop where
  early : ∀ i o, ops[i]? = some o → ∀ e ∈ bindE o, e.on < i
  nodup : (dsts ops).Nodup
  sup : ∀ i o, ops[i]? = some o → ∀ t ∈ (fAt T i).ts, o.dst = some t ∨ ∃ e ∈ bindE o, ∃ o', ops[e.on]? = some o' ∧ o'.dst = some t
  len : T.length ≤ ops.size
theorem RegOk.of (h : regB ops (T.map (·.ts)) = true) : RegOk ops T := by
  simp only [regB, Bool.and_eq_true, decide_eq_true_eq, List.all_eq_true] at h
  obtain ⟨⟨⟨h1, h2⟩, h3⟩, h4⟩ := h
  refine ⟨fun i o hi e he => ?_, h2, fun i o hi t ht => ?_, by simpa using h4⟩
  · have := h1 (o, i) (by rw [List.mem_zipIdx_iff_getElem?]; simpa using hi) e he
    simpa using this
  · have hts : ((T.map (·.ts))[i]?).getD [] = (fAt T i).ts := by
      unfold fAt
      rw [List.getElem?_map]
      cases T[i]? <;> rfl
    have := h3 (o, i) (by rw [List.mem_zipIdx_iff_getElem?]; simpa using hi) t (by simp only; rw [hts]; exact ht)
    simp only [Bool.or_eq_true, beq_iff_eq, List.any_eq_true] at this
    rcases this with h | ⟨e, he, hd⟩
    · exact .inl h
    · refine .inr ⟨e, he, ?_⟩
      cases ho : ops[e.on]? with
      | none => rw [ho] at hd; cases hd
      | some o' => rw [ho] at hd; exact ⟨o', rfl, hd⟩
theorem RInv.step {listed : Array Bool} {a : Act} {w : World} (K : RegOk ops T) (hsz : ∀ d ∈ dsts ops, d < a0.tmps.size) (hst : stablesF T) (h : RInv ops T W a0 listed a w) {i : Nat} {o : Oper} (hi : ops[i]? = some o)
    (hun : listed.getD i false = false) (hwait : ∀ e ∈ bindE o, listed.getD e.on false = true) {v : Value} {w' : World} (hv : (fAt T i).at_ (upd (fun d => a.tmps.getD d undef) o.dst v) w')
    (hg : w.grownBy w' none ∨ (o.dst = none ∧ W.grownBy w' none ∧ keeps (fun d => a.tmps.getD d undef) w w' i T 0)) : RInv ops T W a0 (listed.setIfInBounds i true) (a.put o.dst v) w' := by
  have hdlt : ∀ d, o.dst = some d → d < a.tmps.size := fun d hd => by rw [h.tz]; exact hsz d (dst_mem hi hd)
  have hil : i < listed.size := by rw [h.sz]; exact (Array.getElem?_eq_some_iff.1 hi).1
  have lset : ∀ k, k ≠ i → (listed.setIfInBounds i true).getD k false = listed.getD k false := fun k hk => by
    simp only [Array.getD_eq_getD_getElem?, Array.getElem?_setIfInBounds, Ne.symm hk, if_false]
  have lold : ∀ k, listed.getD k false = true → (listed.setIfInBounds i true).getD k false = true := fun k hk => by
    by_cases e : k = i
    · subst e; simp [hil]
    · rw [lset k e]; exact hk
  refine ⟨?_, by simp [h.sz], ?_, ?_, fun t ht => ?_, fun k ok hk hl => ?_, fun k ok hk hl e he => ?_⟩
  · rcases hg with hg | ⟨_, hg, _⟩
    · exact gbT h.g hg
    · exact hg
  · rw [← h.tz]; cases o.dst <;> simp [Act.put]
  · rw [← h.df]; cases o.dst <;> rfl
  · rw [← h.out t ht]
    cases hd : o.dst with
    | none => rfl
    | some d =>
      have : d ≠ t := fun e => ht (e ▸ dst_mem hi hd)
      simp [Act.put, this]
  · have hf : (fun d => (a.put o.dst v).tmps.getD d undef) = upd (fun d => a.tmps.getD d undef) o.dst v := by
      funext t; exact put_get a o.dst v t hdlt
    rw [hf]
    by_cases hik : k = i
    · subst hik
      exact hv
    · rw [lset k hik] at hl
      have hold := h.facts k ok hk hl
      have hne : ∀ t ∈ (fAt T k).ts, o.dst ≠ some t := fun t ht hd => by
        rcases K.sup k ok hk t ht with h1 | ⟨e, he, o', ho', hd'⟩
        · exact nodup_ne K.nodup (l := ops.toList) (i := k) (j := i) (by simpa using hk) (by simpa using hi) hik h1 hd
        · have h2 := h.closed k ok hk hl e he
          have h3 : e.on ≠ i := fun x => by rw [x, hun] at h2; cases h2
          exact nodup_ne K.nodup (l := ops.toList) (i := e.on) (j := i) (by simpa using ho') (by simpa using hi) h3 hd' hd
      have hmap : (fAt T k).ts.map (upd (fun d => a.tmps.getD d undef) o.dst v) = (fAt T k).ts.map (fun d => a.tmps.getD d undef) := List.map_congr_left fun t ht => upd_get _ _ _ _ (hne t ht)
      unfold Fact.at_
      rw [hmap]
      rcases hg with hg | ⟨hd, _, hk2⟩
      · exact stableF_at hst k _ _ _ hold hg
      · cases hT : T[k]? with
        | none => unfold fAt; rw [hT]; trivial
        | some F =>
          have e : fAt T k = F := by unfold fAt; rw [hT]; rfl
          rw [e] at hold ⊢
          exact keeps_at hk2 hT (by omega) hold
  · by_cases hik : k = i
    · subst hik
      obtain rfl : ok = o := by rw [hi] at hk; injection hk with hk; exact hk.symm
      exact lold _ (hwait e he)
    · rw [lset k hik] at hl
      exact lold _ (h.closed k ok hk hl e he)
theorem RInv.is {listed : Array Bool} {a : Act} {w : World} (h : RInv ops T W a0 listed a w) : a = puts a0 (dsts ops) (fun d => a.tmps.getD d undef) := puts_is h.tz h.df h.out
theorem bind_mem {o : Oper} {e : Edge} : e ∈ bindE o ↔ e ∈ o.after.toList ∧ Region.binds .any e = true := List.mem_filter
theorem all_listedF (K : RegOk ops T) {listed : Array Bool} (hz : listed.size = ops.size) (hr : Region.ready .any ops listed = []) : ∀ n k, k < n → k < ops.size → listed.getD k false = true
  | 0, _, h, _ => absurd h (Nat.not_lt_zero _)
  | n + 1, k, h, hk => by
    cases hl : listed.getD k false with
    | true => rfl
    | false =>
      exfalso
      have : k ∈ Region.ready .any ops listed := by
        refine mem_ready.2 ⟨?_, ops[k], Array.getElem?_eq_getElem hk, fun e he hb => ?_⟩
        · have hk' : k < listed.size := by omega
          simp [hk'] at hl ⊢
          exact hl
        · have h2 := K.early k _ (Array.getElem?_eq_getElem hk) e (bind_mem.2 ⟨by simpa using he, hb⟩)
          exact all_listedF K hz hr n e.on (by omega) (by omega)
      rw [hr] at this
      cases this
end
theorem bd_data (n : Nat) : Region.binds .any ⟨n, .data⟩ = true := rfl
theorem bd_chain (n : Nat) : Region.binds .any ⟨n, .chain⟩ = true := rfl
theorem bd_guard (n : Nat) : Region.binds .any ⟨n, .guard⟩ = true := rfl
theorem bd_phase (n : Nat) : Region.binds .any ⟨n, .phase⟩ = true := rfl
theorem bd_text (n : Nat) (r : Departure) : Region.binds .any ⟨n, .textOnly r⟩ = false := rfl
theorem bd_gc (n : Nat) (r : Departure) : Region.binds .any ⟨n, .gcOnly r⟩ = false := rfl
end Go.Proofs.Ythdfkiaoahpjpaa
