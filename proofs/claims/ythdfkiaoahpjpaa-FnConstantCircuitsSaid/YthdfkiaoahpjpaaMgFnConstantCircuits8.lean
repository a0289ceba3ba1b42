/-
  The general law on a region that draws its order, with one operation s0 that may write into a block g0 which was there before, and with slots that are read in the region ahead of the operation that writes them: what such an operation waits for, at first hand or through others, sees block and slot as they were.
-/
import Derived.Test.YthdfkiaoahpjpaaMgFnConstantCircuits6
namespace Go.Proofs.Ythdfkiaoahpjpaa
open Go.RowKit
set_option linter.unusedVariables false
set_option linter.unusedSimpArgs false
def waitsT (ops : Array Oper) : Nat → Nat → List Nat
  | 0, _ => []
  | n + 1, s => waits ops s ++ (waits ops s).flatMap (waitsT ops n)
def aheadB (ops : Array Oper) (s k : Nat) : Bool := k == s || (waitsT ops ops.size s).contains k
def oldB (ops : Array Oper) (k d : Nat) : Bool := ops.toList.zipIdx.all fun (o, s) => !(o.dst == some d) || aheadB ops s k
structure GInv5 (ops : Array Oper) (T : List Fact) (W : World) (a0 : Act) (s0 g0 : Nat) (listed : Array Bool) (a : Act) (w : World) : Prop where
  g : Chg (fun b => b = g0) W w
  pre : listed.getD s0 false = false → W.grownBy w none
  old : ∀ i o d, ops[i]? = some o → o.dst = some d → listed.getD i false = false → a.tmps.getD d undef = a0.tmps.getD d undef
  sz : listed.size = ops.size
  tz : a.tmps.size = a0.tmps.size
  df : a.defers = a0.defers
  out : ∀ t, t ∉ dsts ops → a.tmps[t]? = a0.tmps[t]?
  facts : ∀ k o, ops[k]? = some o → listed.getD k false = true → (fAt T k).at_ (fun d => a.tmps.getD d undef) w
  closed : ∀ k o, ops[k]? = some o → listed.getD k false = true → ∀ e ∈ bindE o, listed.getD e.on false = true
section
variable {P : Program} {ops : Array Oper} {T : List Fact} {W : World} {a0 : Act} {s0 g0 : Nat} {Q : Exit → Act → World → Prop}
theorem listed_waits {listed : Array Bool} (hc : ∀ k o, ops[k]? = some o → listed.getD k false = true → ∀ e ∈ bindE o, listed.getD e.on false = true) {s k : Nat} (hs : listed.getD s false = true) (hk : k ∈ waits ops s) : listed.getD k false = true := by
  unfold waits at hk
  cases hos : ops[s]? with
  | none => rw [hos] at hk; cases hk
  | some os =>
    rw [hos] at hk
    obtain ⟨e, he, hei⟩ := List.mem_map.1 hk
    rw [← hei]
    exact hc s os hos hs e he
theorem listed_waitsT {listed : Array Bool} (hc : ∀ k o, ops[k]? = some o → listed.getD k false = true → ∀ e ∈ bindE o, listed.getD e.on false = true) : ∀ (n : Nat) {s k : Nat}, listed.getD s false = true → k ∈ waitsT ops n s → listed.getD k false = true
  | 0, _, _, _, hk => by cases hk
  | n + 1, s, k, hs, hk => by
    rcases List.mem_append.1 hk with hk | hk
    · exact listed_waits hc hs hk
    · obtain ⟨j, hj, hk⟩ := List.mem_flatMap.1 hk
      exact listed_waitsT hc n (listed_waits hc hs hj) hk
theorem ahead_un {listed : Array Bool} (hc : ∀ k o, ops[k]? = some o → listed.getD k false = true → ∀ e ∈ bindE o, listed.getD e.on false = true) {s k : Nat} (hk : listed.getD k false = false) (h : aheadB ops s k = true) : listed.getD s false = false := by
  cases hs : listed.getD s false with
  | false => rfl
  | true =>
    exfalso
    unfold aheadB at h
    rw [Bool.or_eq_true] at h
    rcases h with h | h
    · have : k = s := by simpa using h
      subst this; rw [hk] at hs; cases hs
    · have := listed_waitsT hc _ hs (by simpa using h)
      rw [hk] at this; cases this
theorem GInv5.step {listed : Array Bool} {a : Act} {w : World} (K : RegOk ops T) (hsz : ∀ d ∈ dsts ops, d < a0.tmps.size) (hst : stablesF T) (h : GInv5 ops T W a0 s0 g0 listed a w) {i : Nat} {o : Oper} (hi : ops[i]? = some o)
    (hun : listed.getD i false = false) (hwait : ∀ e ∈ bindE o, listed.getD e.on false = true) {v : Value} {w' : World} (hv : (fAt T i).at_ (upd (fun d => a.tmps.getD d undef) o.dst v) w')
    (hg : w.grownBy w' none ∨ (Chg (fun b => W.heap.size ≤ b ∨ (i = s0 ∧ b = g0)) w w' ∧ keeps (fun d => a.tmps.getD d undef) w w' i T 0)) : GInv5 ops T W a0 s0 g0 (listed.setIfInBounds i true) (a.put o.dst v) w' := by
  have hdlt : ∀ d, o.dst = some d → d < a.tmps.size := fun d hd => by rw [h.tz]; exact hsz d (dst_mem hi hd)
  have hil : i < listed.size := by rw [h.sz]; exact (Array.getElem?_eq_some_iff.1 hi).1
  have lset : ∀ k, k ≠ i → (listed.setIfInBounds i true).getD k false = listed.getD k false := fun k hk => by
    simp only [Array.getD_eq_getD_getElem?, Array.getElem?_setIfInBounds, Ne.symm hk, if_false]
  have lold : ∀ k, listed.getD k false = true → (listed.setIfInBounds i true).getD k false = true := fun k hk => by
    by_cases e : k = i
    · subst e; simp [hil]
    · rw [lset k e]; exact hk
  have hf : (fun d => (a.put o.dst v).tmps.getD d undef) = upd (fun d => a.tmps.getD d undef) o.dst v := by
    funext t; exact put_get a o.dst v t hdlt
  refine ⟨?_, fun hs => ?_, fun j oj d hj hd hl => ?_, by simp [h.sz], ?_, ?_, fun t ht => ?_, fun k ok hk hl => ?_, fun k ok hk hl e he => ?_⟩
  · rcases hg with hg | ⟨hg, _⟩
    · exact h.g.trans (Chg.of hg fun g hg' => by simp at hg')
    · refine ⟨hg.os.trans h.g.os, hg.tape.trans h.g.tape, hg.output.trans h.g.output, Nat.le_trans h.g.size hg.size, fun b hb hs => ?_⟩
      rw [hg.block b (Nat.lt_of_lt_of_le hb h.g.size) fun hs' => ?_, h.g.block b hb hs]
      rcases hs' with h1 | h1
      · omega
      · exact hs h1.2
  · have his : i ≠ s0 := fun e => by subst e; simp [hil] at hs
    rw [lset s0 (Ne.symm his)] at hs
    have h0 := h.pre hs
    rcases hg with hg | ⟨hg, _⟩
    · exact gbT h0 hg
    · refine ⟨hg.os.trans h0.os, hg.tape.trans h0.tape, hg.output.trans h0.output, Nat.le_trans h0.size hg.size, fun b hb hs => ?_⟩
      rw [hg.block b (Nat.lt_of_lt_of_le hb h0.size) fun hs' => ?_, h0.block b hb hs]
      rcases hs' with h1 | h1
      · omega
      · exact his h1.1
  · have hji : j ≠ i := fun e => by subst e; simp [hil] at hl
    rw [lset j hji] at hl
    have hne : o.dst ≠ some d := fun hd' => nodup_ne K.nodup (l := ops.toList) (i := j) (j := i) (by simpa using hj) (by simpa using hi) hji hd hd'
    have h9 : (a.put o.dst v).tmps.getD d undef = upd (fun d => a.tmps.getD d undef) o.dst v d := congrFun hf d
    rw [h9, upd_get _ _ _ _ hne]
    exact h.old j oj d hj hd hl
  · rw [← h.tz]; cases o.dst <;> simp [Act.put]
  · rw [← h.df]; cases o.dst <;> rfl
  · rw [← h.out t ht]
    cases hd : o.dst with
    | none => rfl
    | some d =>
      have : d ≠ t := fun e => ht (e ▸ dst_mem hi hd)
      simp [Act.put, this]
  · rw [hf]
    by_cases hik : k = i
    · subst hik
      exact hv
    · rw [lset k hik] at hl
      have hold := h.facts k ok hk hl
      have hne : ∀ t ∈ (fAt T k).ts, o.dst ≠ some t := fun t ht hd => by
        rcases K.sup k ok hk t ht with h1 | ⟨e, he, o', ho', hd'⟩
        · exact nodup_ne K.nodup (l := ops.toList) (i := k) (j := i) (by simpa using hk) (by simpa using hi) hik h1 hd
        · have h2 := h.closed k ok hk hl e he
          have h3 : e.on ≠ i := fun x => by rw [x, hun] at h2; cases h2
          exact nodup_ne K.nodup (l := ops.toList) (i := e.on) (j := i) (by simpa using ho') (by simpa using hi) h3 hd' hd
      have hmap : (fAt T k).ts.map (upd (fun d => a.tmps.getD d undef) o.dst v) = (fAt T k).ts.map (fun d => a.tmps.getD d undef) := List.map_congr_left fun t ht => upd_get _ _ _ _ (hne t ht)
      unfold Fact.at_
      rw [hmap]
      rcases hg with hg | ⟨_, hk2⟩
      · exact stableF_at hst k _ _ _ hold hg
      · cases hT : T[k]? with
        | none => unfold fAt; rw [hT]; trivial
        | some F =>
          have e : fAt T k = F := by unfold fAt; rw [hT]; rfl
          rw [e] at hold ⊢
          exact keeps_at hk2 hT (by omega) hold
  · by_cases hik : k = i
    · subst hik
      obtain rfl : ok = o := by rw [hi] at hk; injection hk with hk; exact hk.symm
      exact lold _ (hwait e he)
    · rw [lset k hik] at hl
      exact lold _ (h.closed k ok hk hl e he)
theorem GInv5.is {listed : Array Bool} {a : Act} {w : World} (h : GInv5 ops T W a0 s0 g0 listed a w) : a = puts a0 (dsts ops) (fun d => a.tmps.getD d undef) := puts_is h.tz h.df h.out
theorem GInv5.old_ {listed : Array Bool} {a : Act} {w : World} (h : GInv5 ops T W a0 s0 g0 listed a w) {k d : Nat} (hk : listed.getD k false = false) (ho : oldB ops k d = true) (hd : d ∈ dsts ops) : a.tmps.getD d undef = a0.tmps.getD d undef := by
  unfold dsts at hd
  obtain ⟨o, ho', hd'⟩ := List.mem_filterMap.1 hd
  obtain ⟨i, hi⟩ := List.mem_iff_getElem?.1 ho'
  have hi' : ops[i]? = some o := by simpa using hi
  refine h.old i o d hi' hd' (ahead_un h.closed hk ?_)
  have := List.all_eq_true.1 ho (o, i) (by rw [List.mem_zipIdx_iff_getElem?]; simpa using hi')
  simpa [hd'] using this
end
end Go.Proofs.Ythdfkiaoahpjpaa
