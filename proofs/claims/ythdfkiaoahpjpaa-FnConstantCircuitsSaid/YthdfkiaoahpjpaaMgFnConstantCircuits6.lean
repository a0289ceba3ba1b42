/-
  The general law on a region that draws its order, at its widest: operations may write into blocks that were there before (touch: which operation may write into which), also with a result (an append in place); what such an operation waits for sees the block as it was.
-/
import Derived.Test.YthdfkiaoahpjpaaMgFnConstantCircuits5
namespace Go.Proofs.Ythdfkiaoahpjpaa
open Go.RowKit
set_option linter.unusedVariables false
set_option linter.unusedSimpArgs false
structure GInv4 (ops : Array Oper) (T : List Fact) (W : World) (a0 : Act) (touch : List (Nat × Nat)) (listed : Array Bool) (a : Act) (w : World) : Prop where
  g : Chg (fun b => ∃ s, (s, b) ∈ touch) W w
  pre : ∀ b, b < W.heap.size → (∀ s, (s, b) ∈ touch → listed.getD s false = false) → w.heap[b]? = W.heap[b]?
  sz : listed.size = ops.size
  tz : a.tmps.size = a0.tmps.size
  df : a.defers = a0.defers
  out : ∀ t, t ∉ dsts ops → a.tmps[t]? = a0.tmps[t]?
  facts : ∀ k o, ops[k]? = some o → listed.getD k false = true → (fAt T k).at_ (fun d => a.tmps.getD d undef) w
  closed : ∀ k o, ops[k]? = some o → listed.getD k false = true → ∀ e ∈ bindE o, listed.getD e.on false = true
section
variable {P : Program} {ops : Array Oper} {T : List Fact} {W : World} {a0 : Act} {touch : List (Nat × Nat)} {Q : Exit → Act → World → Prop}
theorem GInv4.step {listed : Array Bool} {a : Act} {w : World} (K : RegOk ops T) (hsz : ∀ d ∈ dsts ops, d < a0.tmps.size) (hst : stablesF T) (h : GInv4 ops T W a0 touch listed a w) {i : Nat} {o : Oper} (hi : ops[i]? = some o)
    (hun : listed.getD i false = false) (hwait : ∀ e ∈ bindE o, listed.getD e.on false = true) {v : Value} {w' : World} (hv : (fAt T i).at_ (upd (fun d => a.tmps.getD d undef) o.dst v) w')
    (hg : w.grownBy w' none ∨ (Chg (fun b => W.heap.size ≤ b ∨ (i, b) ∈ touch) w w' ∧ keeps (fun d => a.tmps.getD d undef) w w' i T 0)) : GInv4 ops T W a0 touch (listed.setIfInBounds i true) (a.put o.dst v) w' := by
  have hdlt : ∀ d, o.dst = some d → d < a.tmps.size := fun d hd => by rw [h.tz]; exact hsz d (dst_mem hi hd)
  have hil : i < listed.size := by rw [h.sz]; exact (Array.getElem?_eq_some_iff.1 hi).1
  have lset : ∀ k, k ≠ i → (listed.setIfInBounds i true).getD k false = listed.getD k false := fun k hk => by
    simp only [Array.getD_eq_getD_getElem?, Array.getElem?_setIfInBounds, Ne.symm hk, if_false]
  have lold : ∀ k, listed.getD k false = true → (listed.setIfInBounds i true).getD k false = true := fun k hk => by
    by_cases e : k = i
    · subst e; simp [hil]
    · rw [lset k e]; exact hk
  refine ⟨?_, fun b hbW hb => ?_, by simp [h.sz], ?_, ?_, fun t ht => ?_, fun k ok hk hl => ?_, fun k ok hk hl e he => ?_⟩
  · rcases hg with hg | ⟨hg, _⟩
    · exact h.g.trans (Chg.of hg fun g hg' => by simp at hg')
    · refine ⟨hg.os.trans h.g.os, hg.tape.trans h.g.tape, hg.output.trans h.g.output, Nat.le_trans h.g.size hg.size, fun b hb hs => ?_⟩
      rw [hg.block b (Nat.lt_of_lt_of_le hb h.g.size) fun hs' => ?_, h.g.block b hb hs]
      rcases hs' with h1 | h1
      · omega
      · exact hs ⟨i, h1⟩
  · have hb' : ∀ s, (s, b) ∈ touch → listed.getD s false = false := fun s hs => by
      have h1 := hb s hs
      cases hl : listed.getD s false with
      | false => rfl
      | true => rw [lold s hl] at h1; cases h1
    have hib : (i, b) ∉ touch := fun hi' => by have h1 := hb i hi'; simp [hil] at h1
    have h0 := h.pre b hbW hb'
    have hbw : b < w.heap.size := Nat.lt_of_lt_of_le hbW h.g.size
    rcases hg with hg | ⟨hg, _⟩
    · exact (hg.block b hbw (by simp)).trans h0
    · refine (hg.block b hbw fun hs' => ?_).trans h0
      rcases hs' with h1 | h1
      · omega
      · exact hib h1
  · rw [← h.tz]; cases o.dst <;> simp [Act.put]
  · rw [← h.df]; cases o.dst <;> rfl
  · rw [← h.out t ht]
    cases hd : o.dst with
    | none => rfl
    | some d =>
      have : d ≠ t := fun e => ht (e ▸ dst_mem hi hd)
      simp [Act.put, this]
  · have hf : (fun d => (a.put o.dst v).tmps.getD d undef) = upd (fun d => a.tmps.getD d undef) o.dst v := by
      funext t; exact put_get a o.dst v t hdlt
    rw [hf]
    by_cases hik : k = i
    · subst hik
      exact hv
    · rw [lset k hik] at hl
      have hold := h.facts k ok hk hl
      have hne : ∀ t ∈ (fAt T k).ts, o.dst ≠ some t := fun t ht hd => by
        rcases K.sup k ok hk t ht with h1 | ⟨e, he, o', ho', hd'⟩
        · exact nodup_ne K.nodup (l := ops.toList) (i := k) (j := i) (by simpa using hk) (by simpa using hi) hik h1 hd
        · have h2 := h.closed k ok hk hl e he
          have h3 : e.on ≠ i := fun x => by rw [x, hun] at h2; cases h2
          exact nodup_ne K.nodup (l := ops.toList) (i := e.on) (j := i) (by simpa using ho') (by simpa using hi) h3 hd' hd
      have hmap : (fAt T k).ts.map (upd (fun d => a.tmps.getD d undef) o.dst v) = (fAt T k).ts.map (fun d => a.tmps.getD d undef) := List.map_congr_left fun t ht => upd_get _ _ _ _ (hne t ht)
      unfold Fact.at_
      rw [hmap]
      rcases hg with hg | ⟨_, hk2⟩
      · exact stableF_at hst k _ _ _ hold hg
      · cases hT : T[k]? with
        | none => unfold fAt; rw [hT]; trivial
        | some F =>
          have e : fAt T k = F := by unfold fAt; rw [hT]; rfl
          rw [e] at hold ⊢
          exact keeps_at hk2 hT (by omega) hold
  · by_cases hik : k = i
    · subst hik
      obtain rfl : ok = o := by rw [hi] at hk; injection hk with hk; exact hk.symm
      exact lold _ (hwait e he)
    · rw [lset k hik] at hl
      exact lold _ (h.closed k ok hk hl e he)
theorem GInv4.is {listed : Array Bool} {a : Act} {w : World} (h : GInv4 ops T W a0 touch listed a w) : a = puts a0 (dsts ops) (fun d => a.tmps.getD d undef) := puts_is h.tz h.df h.out
end
end Go.Proofs.Ythdfkiaoahpjpaa
