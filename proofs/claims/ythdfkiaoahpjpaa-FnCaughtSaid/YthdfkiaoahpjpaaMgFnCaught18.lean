/-
  A region that draws its order, of this form: some operations only read (each gives one value, whatever the order), and the others wait for each other in one chain (their values may be known too). The chain may write into the blocks of S alone, and what the readers read stands in all worlds that differ in S alone; nothing need wait for all.
-/
import Derived.Test.YthdfkiaoahpjpaaMgFnCaught8
import Derived.Test.YthdfkiaoahpjpaaMgFnCaught17
namespace Go.Proofs.Ythdfkiaoahpjpaa
open Go.RowKit
set_option linter.unusedVariables false
set_option linter.unusedSimpArgs false
inductive Ko where
  | rd (v : Value)
  | ch (v : Option Value)
def Ko.isCh : Ko → Bool
  | .ch _ => true
  | _ => false
def Ko.val : Ko → Option Value
  | .rd v => some v
  | .ch v => v
def isVal (ov : Option Value) (v : Value) : Prop := ∀ u, ov = some u → v = u
theorem isVal.no {v : Value} : isVal none v := fun u hu => by cases hu
def oAt (q : List Ko) (k : Nat) : Ko := (q[k]?).getD (.ch none)
def chainO (n : Nat) (q : List Ko) : List Nat := (List.range n).filter fun k => (oAt q k).isCh
def chainBO (ops : Array Oper) (q : List Ko) (ts : List (List Tmp)) : Bool :=
  regB ops [] &&
  ((List.range (chainO ops.size q).length).all fun j => j == 0 || (waits ops ((chainO ops.size q)[j]?.getD 0)).contains ((chainO ops.size q)[j - 1]?.getD 0)) &&
  ((List.range ((chainO ops.size q).length + 1)).all fun j => ((ts[j]?).getD []).all fun t => ((chainO ops.size q).take j).any fun k => dstAt ops k == some t)
def Ko.next (j : Nat) : Ko → Nat
  | .ch _ => j + 1
  | _ => j
def cntO (q : List Ko) (k : Nat) : Nat := ((List.range k).filter fun k => (oAt q k).isCh).length
theorem chainO_at {q : List Ko} : ∀ {n k : Nat}, k < n → (oAt q k).isCh = true → (chainO n q)[cntO q k]? = some k
  | 0, k, h, _ => by omega
  | n + 1, k, h, hq => by
    unfold chainO
    rw [List.range_succ, List.filter_append]
    rcases Nat.lt_or_ge k n with h1 | h1
    · have ih := chainO_at (n := n) h1 hq
      unfold chainO at ih
      rw [List.getElem?_append_left (List.getElem?_eq_some_iff.1 ih).1]
      exact ih
    · obtain rfl : k = n := by omega
      unfold cntO
      rw [List.getElem?_append_right (Nat.le_refl _)]
      simp [hq]
theorem chainO_mem {q : List Ko} {n j k : Nat} (h : (chainO n q)[j]? = some k) : k < n ∧ (oAt q k).isCh = true ∧ j = cntO q k := by
  have h1 := List.mem_of_getElem? h
  unfold chainO at h1
  rw [List.mem_filter] at h1
  simp only [List.mem_range] at h1
  refine ⟨h1.1, h1.2, ?_⟩
  have h2 := chainO_at h1.1 h1.2
  have hnd : (chainO n q).Nodup := List.Pairwise.filter _ List.nodup_range
  have l1 := (List.getElem?_eq_some_iff.1 h)
  have l2 := (List.getElem?_eq_some_iff.1 h2)
  obtain ⟨a1, b1⟩ := l1
  obtain ⟨a2, b2⟩ := l2
  exact (List.getElem_inj hnd).1 (b1.trans b2.symm)
structure GInvO (ops : Array Oper) (q : List Ko) (I : List Fact) (W : World) (a0 : Act) (S : Nat → Prop) (b : Nat) (listed : Array Bool) (a : Act) (w : World) : Prop where
  sz : listed.size = ops.size
  tz : a.tmps.size = a0.tmps.size
  df : a.defers = a0.defers
  out : ∀ t, t ∉ dsts ops → a.tmps[t]? = a0.tmps[t]?
  closed : ∀ k o, ops[k]? = some o → listed.getD k false = true → ∀ e ∈ bindE o, listed.getD e.on false = true
  chn : ∀ j k, (chainO ops.size q)[j]? = some k → (listed.getD k false = true ↔ j < b)
  le : b ≤ (chainO ops.size q).length
  ch : Chg S W w
  inv : (fAt I b).at_ (fun d => a.tmps.getD d undef) w
  old : ∀ i o d, ops[i]? = some o → o.dst = some d → listed.getD i false = false → a.tmps.getD d undef = a0.tmps.getD d undef
  qv : ∀ k d v, (oAt q k).val = some v → listed.getD k false = true → dstAt ops k = some d → a.tmps.getD d undef = v
section
variable {P : Program} {ops : Array Oper} {q : List Ko} {I : List Fact} {W : World} {a0 : Act} {S : Nat → Prop} {Q : Exit → Act → World → Prop}
structure ChainOkO (ops : Array Oper) (q : List Ko) (I : List Fact) : Prop where
  reg : RegOk ops []
  link : ∀ j k i o, (chainO ops.size q)[j + 1]? = some k → (chainO ops.size q)[j]? = some i → ops[k]? = some o → ∃ e ∈ bindE o, e.on = i
  sup : ∀ j, j ≤ (chainO ops.size q).length → ∀ t ∈ (fAt I j).ts, ∃ i k, i < j ∧ (chainO ops.size q)[i]? = some k ∧ dstAt ops k = some t
theorem ChainOkO.of (h : chainBO ops q (I.map (·.ts)) = true) : ChainOkO ops q I := by
  unfold chainBO at h
  simp only [Bool.and_eq_true] at h
  obtain ⟨⟨h1, h3⟩, h5⟩ := h
  refine ⟨RegOk.of (T := []) h1, fun j k i o hk hi ho => ?_, fun j hj t ht => ?_⟩
  · have := List.all_eq_true.1 h3 (j + 1) (by simpa using (List.getElem?_eq_some_iff.1 hk).1)
    rw [hk, Nat.add_sub_cancel, hi] at this
    simp only [Option.getD_some, Bool.or_eq_true] at this
    rcases this with h | h
    · simp at h
    · exact waits_mem ho h
  · have hts : ((I.map (·.ts))[j]?).getD [] = (fAt I j).ts := by
      unfold fAt
      rw [List.getElem?_map]
      cases I[j]? <;> rfl
    have h6 := List.all_eq_true.1 h5 j (by simp; omega)
    rw [hts] at h6
    have h7 := List.all_eq_true.1 h6 t ht
    obtain ⟨k, hk, hd⟩ := List.any_eq_true.1 h7
    obtain ⟨i, hi⟩ := List.mem_iff_getElem?.1 hk
    rw [List.getElem?_take] at hi
    split at hi
    · rename_i hij
      exact ⟨i, k, hij, hi, by simpa using hd⟩
    · cases hi
theorem GInvO.is {listed : Array Bool} {a : Act} {w : World} {b : Nat} (h : GInvO ops q I W a0 S b listed a w) : a = puts a0 (dsts ops) (fun d => a.tmps.getD d undef) := puts_is h.tz h.df h.out
theorem GInvO.step {listed : Array Bool} {a : Act} {w : World} {b b' : Nat} (K : ChainOkO ops q I) (hsz : ∀ d ∈ dsts ops, d < a0.tmps.size) (h : GInvO ops q I W a0 S b listed a w) {i : Nat} {o : Oper} (hi : ops[i]? = some o)
    (hun : listed.getD i false = false) (hwait : ∀ e ∈ bindE o, listed.getD e.on false = true) {v : Value} {w' : World} (hval : ∀ u, (oAt q i).val = some u → v = u)
    (hc : ((oAt q i).isCh = false ∧ w' = w ∧ b' = b) ∨ ((oAt q i).isCh = true ∧ cntO q i = b ∧ b' = b + 1 ∧ (fAt I (b + 1)).at_ (upd (fun d => a.tmps.getD d undef) o.dst v) w' ∧ Chg S w w')) :
    GInvO ops q I W a0 S b' (listed.setIfInBounds i true) (a.put o.dst v) w' := by
  have his : i < ops.size := (Array.getElem?_eq_some_iff.1 hi).1
  have hdlt : ∀ d, o.dst = some d → d < a.tmps.size := fun d hd => by rw [h.tz]; exact hsz d (dst_mem hi hd)
  have hil : i < listed.size := by rw [h.sz]; exact his
  have lset : ∀ k, k ≠ i → (listed.setIfInBounds i true).getD k false = listed.getD k false := fun k hk => by
    simp only [Array.getD_eq_getD_getElem?, Array.getElem?_setIfInBounds, Ne.symm hk, if_false]
  have lself : (listed.setIfInBounds i true).getD i false = true := by simp [hil]
  have lold : ∀ k, listed.getD k false = true → (listed.setIfInBounds i true).getD k false = true := fun k hk => by
    by_cases e : k = i
    · subst e; exact lself
    · rw [lset k e]; exact hk
  have hf : (fun d => (a.put o.dst v).tmps.getD d undef) = upd (fun d => a.tmps.getD d undef) o.dst v := by
    funext t; exact put_get a o.dst v t hdlt
  have hne : ∀ k d, k ≠ i → dstAt ops k = some d → o.dst ≠ some d := fun k d hk hd hd' => by
    unfold dstAt at hd
    cases hko : ops[k]? with
    | none => rw [hko] at hd; cases hd
    | some ok =>
      rw [hko] at hd
      exact nodup_ne K.reg.nodup (l := ops.toList) (i := k) (j := i) (by simpa using hko) (by simpa using hi) hk hd hd'
  have hupd : ∀ k d, k ≠ i → dstAt ops k = some d → (a.put o.dst v).tmps.getD d undef = a.tmps.getD d undef := fun k d hk hd => by
    have h9 : (a.put o.dst v).tmps.getD d undef = upd (fun d => a.tmps.getD d undef) o.dst v d := congrFun hf d
    rw [h9, upd_get _ _ _ _ (hne k d hk hd)]
  have hnc : b' = b ∧ (oAt q i).isCh = false ∨ b' = b + 1 ∧ (oAt q i).isCh = true ∧ cntO q i = b := by
    rcases hc with ⟨h1, _, h2⟩ | ⟨h1, h2, h3, _, _⟩
    · exact .inl ⟨h2, h1⟩
    · exact .inr ⟨h3, h1, h2⟩
  refine ⟨by simp [h.sz], ?_, ?_, fun t ht => ?_, fun k ok hk hl e he => ?_, fun j k hj => ?_, ?_, ?_, ?_, fun j oj d hj hd hl => ?_, fun k d u hq hl hd => ?_⟩
  · rw [← h.tz]; cases o.dst <;> simp [Act.put]
  · rw [← h.df]; cases o.dst <;> rfl
  · rw [← h.out t ht]
    cases hd : o.dst with
    | none => rfl
    | some d =>
      have : d ≠ t := fun e => ht (e ▸ dst_mem hi hd)
      simp [Act.put, this]
  · by_cases hik : k = i
    · subst hik
      obtain rfl : ok = o := by rw [hi] at hk; injection hk with hk; exact hk.symm
      exact lold _ (hwait e he)
    · rw [lset k hik] at hl
      exact lold _ (h.closed k ok hk hl e he)
  · rcases hnc with ⟨rfl, h1⟩ | ⟨rfl, h1, h2⟩
    · have hki : k ≠ i := fun e => by
        have h3 := (chainO_mem hj).2.1
        rw [e, h1] at h3
        cases h3
      rw [lset k hki]
      exact h.chn j k hj
    · by_cases hki : k = i
      · subst hki
        have := (chainO_mem hj).2.2
        simp only [lself, true_iff]
        omega
      · rw [lset k hki, h.chn j k hj]
        have h3 : j ≠ b := fun e => hki (by
          have h4 := chainO_at his h1
          rw [h2, ← e, hj] at h4
          injection h4)
        omega
  · rcases hnc with ⟨rfl, _⟩ | ⟨rfl, h1, h2⟩
    · exact h.le
    · have := (List.getElem?_eq_some_iff.1 (chainO_at his h1)).1
      omega
  · rcases hc with ⟨_, rfl, rfl⟩ | ⟨_, _, rfl, _, h5⟩
    · exact h.ch
    · exact h.ch.trans h5
  · rw [hf]
    rcases hc with ⟨h1, rfl, rfl⟩ | ⟨_, _, rfl, h4, _⟩
    · have same : (fAt I b').ts.map (upd (fun d => a.tmps.getD d undef) o.dst v) = (fAt I b').ts.map (fun d => a.tmps.getD d undef) := List.map_congr_left fun t ht => by
        obtain ⟨i', k', hi', hk', hd'⟩ := K.sup b' h.le t ht
        refine upd_get _ _ _ _ (hne k' t (fun e => ?_) hd')
        have h3 := (chainO_mem hk').2.1
        rw [e, h1] at h3
        cases h3
      unfold Fact.at_
      rw [same]
      exact h.inv
    · exact h4
  · have hji : j ≠ i := fun e => by subst e; simp [hil] at hl
    rw [lset j hji] at hl
    rw [hupd j d hji (by unfold dstAt; rw [hj]; exact hd)]
    exact h.old j oj d hj hd hl
  · by_cases hki : k = i
    · subst hki
      have h9 : (a.put o.dst v).tmps.getD d undef = upd (fun d => a.tmps.getD d undef) o.dst v d := congrFun hf d
      unfold dstAt at hd
      rw [hi] at hd
      have hd' : o.dst = some d := hd
      rw [h9, hd', upd_some, if_pos rfl]
      exact hval u hq
    · rw [lset k hki] at hl
      rw [hupd k d hki hd]
      exact h.qv k d u hq hl hd
end
end Go.Proofs.Ythdfkiaoahpjpaa
