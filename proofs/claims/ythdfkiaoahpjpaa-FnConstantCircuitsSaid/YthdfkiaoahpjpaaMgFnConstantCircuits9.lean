/-
  A region that draws its order, of this form: some operations only read (each gives one value, whatever the order), and the others wait for each other in one chain (their values may be known too). The chain may write into the blocks of S alone, and what the readers read stands in all worlds that differ in S alone; nothing need wait for all.
-/
import Derived.Test.YthdfkiaoahpjpaaMgFnConstantCircuits7
import Derived.Test.YthdfkiaoahpjpaaMgFnConstantCircuits8
namespace Go.Proofs.Ythdfkiaoahpjpaa
open Go.RowKit
set_option linter.unusedVariables false
set_option linter.unusedSimpArgs false
inductive Ko where
  | rd (v : Value)
  | ch (v : Option Value)
def Ko.isCh : Ko → Bool
  | .ch _ => true
  | _ => false
def Ko.val : Ko → Option Value
  | .rd v => some v
  | .ch v => v
def isVal (ov : Option Value) (v : Value) : Prop := ∀ u, ov = some u → v = u
theorem isVal.yes {v : Value} : isVal (some v) v := fun u hu => Option.some.inj hu
theorem isVal.no {v : Value} : isVal none v := fun u hu => by cases hu
def oAt (q : List Ko) (k : Nat) : Ko := (q[k]?).getD (.ch none)
def chainO (n : Nat) (q : List Ko) : List Nat := (List.range n).filter fun k => (oAt q k).isCh
def chainBO (ops : Array Oper) (q : List Ko) (ts : List (List Tmp)) : Bool :=
  regB ops [] &&
  ((List.range (chainO ops.size q).length).all fun j => j == 0 || (waits ops ((chainO ops.size q)[j]?.getD 0)).contains ((chainO ops.size q)[j - 1]?.getD 0)) &&
  ((List.range ((chainO ops.size q).length + 1)).all fun j => ((ts[j]?).getD []).all fun t => ((chainO ops.size q).take j).any fun k => dstAt ops k == some t)
def depsO (ops : Array Oper) (q : List Ko) (f : Tmp → Value) : List Edge → Prop
  | [] => True
  | e :: es => (match (oAt q e.on).val, dstAt ops e.on with | some v, some d => f d = v | _, _ => True) ∧ depsO ops q f es
def hopO (P : Program) (ops : Array Oper) (q : List Ko) (I : List Fact) (W : World) (a0 : Act) (S : Nat → Prop) (o : Oper) (k j : Nat) : Ko → Prop
  | .rd v => ∀ (f : Tmp → Value) (w : World), Chg S W w → (∀ d, oldB ops k d = true → d ∈ dsts ops → f d = a0.tmps.getD d undef) → depsO ops q f (bindE o) → wpList P ops (Only fun a' w' => a' = (puts a0 (dsts ops) f).put o.dst v ∧ w' = w) [o] (puts a0 (dsts ops) f) w
  | .ch ov => ∀ (f : Tmp → Value) (w : World), Chg S W w → (fAt I j).at_ f w → (∀ d, oldB ops k d = true → d ∈ dsts ops → f d = a0.tmps.getD d undef) → depsO ops q f (bindE o) →
    wpList P ops (Only fun a' w' => ∃ v, a' = (puts a0 (dsts ops) f).put o.dst v ∧ isVal ov v ∧ (fAt I (j + 1)).at_ (upd f o.dst v) w' ∧ Chg S w w') [o] (puts a0 (dsts ops) f) w
def Ko.next (j : Nat) : Ko → Nat
  | .ch _ => j + 1
  | _ => j
def hopsOK (P : Program) (ops : Array Oper) (q : List Ko) (I : List Fact) (W : World) (a0 : Act) (S : Nat → Prop) : List Oper → List Ko → Nat → Nat → Prop
  | [], _, _, _ => True
  | o :: l, [], k, j => hopO P ops q I W a0 S o k j (.ch none) ∧ hopsOK P ops q I W a0 S l [] (k + 1) (j + 1)
  | o :: l, x :: ks, k, j => hopO P ops q I W a0 S o k j x ∧ hopsOK P ops q I W a0 S l ks (k + 1) (x.next j)
def hopCO (P : Program) (ops : Array Oper) (q : List Ko) (I : List Fact) (W : World) (a0 : Act) (S : Nat → Prop) (o : Oper) (k j : Nat) : Prop := hopO P ops q I W a0 S o k j (oAt q k)
def hopsO (P : Program) (ops : Array Oper) (q : List Ko) (I : List Fact) (W : World) (a0 : Act) (S : Nat → Prop) : List Oper → Nat → Nat → Prop
  | [], _, _ => True
  | o :: l, k, j => hopCO P ops q I W a0 S o k j ∧ hopsO P ops q I W a0 S l (k + 1) (if (oAt q k).isCh then j + 1 else j)
theorem hopsO_ofK {P : Program} {ops : Array Oper} {q : List Ko} {I : List Fact} {W : World} {a0 : Act} {S : Nat → Prop} : ∀ {l : List Oper} {k j : Nat}, hopsOK P ops q I W a0 S l (q.drop k) k j → hopsO P ops q I W a0 S l k j
  | [], _, _, _ => trivial
  | o :: l, k, j, h => by
    cases hd : q.drop k with
    | nil =>
      have hk : oAt q k = .ch none := by
        unfold oAt
        rw [List.getElem?_eq_none (List.drop_eq_nil_iff.1 hd)]
        rfl
      rw [hd] at h
      refine ⟨by unfold hopCO; rw [hk]; exact h.1, ?_⟩
      rw [hk]
      exact hopsO_ofK (k := k + 1) (by
        have : q.drop (k + 1) = [] := List.drop_eq_nil_iff.2 (by have := List.drop_eq_nil_iff.1 hd; omega)
        rw [this]; exact h.2)
    | cons x ks =>
      have hl : k < q.length := by
        rcases Nat.lt_or_ge k q.length with h1 | h1
        · exact h1
        · rw [List.drop_eq_nil_iff.2 h1] at hd; cases hd
      have hkx := List.drop_eq_getElem_cons hl
      rw [hd] at hkx
      injection hkx with h1 h2
      have hk : oAt q k = x := by
        unfold oAt
        rw [List.getElem?_eq_getElem hl, h1]
        rfl
      rw [hd] at h
      refine ⟨by unfold hopCO; rw [hk]; exact h.1, ?_⟩
      rw [hk]
      refine hopsO_ofK (k := k + 1) ?_
      rw [← h2]
      have := h.2
      cases x <;> exact this
def cntO (q : List Ko) (k : Nat) : Nat := ((List.range k).filter fun k => (oAt q k).isCh).length
theorem cntO_succ (q : List Ko) (k : Nat) : cntO q (k + 1) = if (oAt q k).isCh then cntO q k + 1 else cntO q k := by
  unfold cntO
  rw [List.range_succ, List.filter_append, List.length_append]
  cases h : (oAt q k).isCh <;> simp [h]
theorem hopsO_at {P : Program} {ops : Array Oper} {q : List Ko} {I : List Fact} {W : World} {a0 : Act} {S : Nat → Prop} : ∀ {l : List Oper} {k i : Nat} {o : Oper}, hopsO P ops q I W a0 S l k (cntO q k) → l[i]? = some o → hopCO P ops q I W a0 S o (k + i) (cntO q (k + i))
  | [], _, _, _, _, h => by simp at h
  | x :: l, k, 0, o, h, hi => by simp at hi; subst hi; exact h.1
  | x :: l, k, i + 1, o, h, hi => by
    simp at hi
    have h2 := h.2
    rw [← cntO_succ] at h2
    have := hopsO_at (k := k + 1) (i := i) h2 hi
    rwa [show k + 1 + i = k + (i + 1) by omega] at this
theorem depsO_of {ops : Array Oper} {q : List Ko} {f : Tmp → Value} : ∀ {l : List Edge}, (∀ e ∈ l, ∀ v d, (oAt q e.on).val = some v → dstAt ops e.on = some d → f d = v) → depsO ops q f l
  | [], _ => trivial
  | e :: l, h => ⟨by split <;> first | trivial | (rename_i v d h1 h2; exact h e (List.mem_cons_self ..) v d h1 h2), depsO_of (fun e' he' => h e' (List.mem_cons_of_mem _ he'))⟩
theorem chainO_at {q : List Ko} : ∀ {n k : Nat}, k < n → (oAt q k).isCh = true → (chainO n q)[cntO q k]? = some k
  | 0, k, h, _ => by omega
  | n + 1, k, h, hq => by
    unfold chainO
    rw [List.range_succ, List.filter_append]
    rcases Nat.lt_or_ge k n with h1 | h1
    · have ih := chainO_at (n := n) h1 hq
      unfold chainO at ih
      rw [List.getElem?_append_left (List.getElem?_eq_some_iff.1 ih).1]
      exact ih
    · obtain rfl : k = n := by omega
      unfold cntO
      rw [List.getElem?_append_right (Nat.le_refl _)]
      simp [hq]
theorem chainO_mem {q : List Ko} {n j k : Nat} (h : (chainO n q)[j]? = some k) : k < n ∧ (oAt q k).isCh = true ∧ j = cntO q k := by
  have h1 := List.mem_of_getElem? h
  unfold chainO at h1
  rw [List.mem_filter] at h1
  simp only [List.mem_range] at h1
  refine ⟨h1.1, h1.2, ?_⟩
  have h2 := chainO_at h1.1 h1.2
  have hnd : (chainO n q).Nodup := List.Pairwise.filter _ List.nodup_range
  have l1 := (List.getElem?_eq_some_iff.1 h)
  have l2 := (List.getElem?_eq_some_iff.1 h2)
  obtain ⟨a1, b1⟩ := l1
  obtain ⟨a2, b2⟩ := l2
  exact (List.getElem_inj hnd).1 (b1.trans b2.symm)
structure GInvO (ops : Array Oper) (q : List Ko) (I : List Fact) (W : World) (a0 : Act) (S : Nat → Prop) (b : Nat) (listed : Array Bool) (a : Act) (w : World) : Prop where
  sz : listed.size = ops.size
  tz : a.tmps.size = a0.tmps.size
  df : a.defers = a0.defers
  out : ∀ t, t ∉ dsts ops → a.tmps[t]? = a0.tmps[t]?
  closed : ∀ k o, ops[k]? = some o → listed.getD k false = true → ∀ e ∈ bindE o, listed.getD e.on false = true
  chn : ∀ j k, (chainO ops.size q)[j]? = some k → (listed.getD k false = true ↔ j < b)
  le : b ≤ (chainO ops.size q).length
  ch : Chg S W w
  inv : (fAt I b).at_ (fun d => a.tmps.getD d undef) w
  old : ∀ i o d, ops[i]? = some o → o.dst = some d → listed.getD i false = false → a.tmps.getD d undef = a0.tmps.getD d undef
  qv : ∀ k d v, (oAt q k).val = some v → listed.getD k false = true → dstAt ops k = some d → a.tmps.getD d undef = v
section
variable {P : Program} {ops : Array Oper} {q : List Ko} {I : List Fact} {W : World} {a0 : Act} {S : Nat → Prop} {Q : Exit → Act → World → Prop}
structure ChainOkO (ops : Array Oper) (q : List Ko) (I : List Fact) : Prop where
  reg : RegOk ops []
  link : ∀ j k i o, (chainO ops.size q)[j + 1]? = some k → (chainO ops.size q)[j]? = some i → ops[k]? = some o → ∃ e ∈ bindE o, e.on = i
  sup : ∀ j, j ≤ (chainO ops.size q).length → ∀ t ∈ (fAt I j).ts, ∃ i k, i < j ∧ (chainO ops.size q)[i]? = some k ∧ dstAt ops k = some t
theorem ChainOkO.of (h : chainBO ops q (I.map (·.ts)) = true) : ChainOkO ops q I := by
  unfold chainBO at h
  simp only [Bool.and_eq_true] at h
  obtain ⟨⟨h1, h3⟩, h5⟩ := h
  refine ⟨RegOk.of (T := []) h1, fun j k i o hk hi ho => ?_, fun j hj t ht => ?_⟩
  · have := List.all_eq_true.1 h3 (j + 1) (by simpa using (List.getElem?_eq_some_iff.1 hk).1)
    rw [hk, Nat.add_sub_cancel, hi] at this
    simp only [Option.getD_some, Bool.or_eq_true] at this
    rcases this with h | h
    · simp at h
    · exact waits_mem ho h
  · have hts : ((I.map (·.ts))[j]?).getD [] = (fAt I j).ts := by
      unfold fAt
      rw [List.getElem?_map]
      cases I[j]? <;> rfl
    have h6 := List.all_eq_true.1 h5 j (by simp; omega)
    rw [hts] at h6
    have h7 := List.all_eq_true.1 h6 t ht
    obtain ⟨k, hk, hd⟩ := List.any_eq_true.1 h7
    obtain ⟨i, hi⟩ := List.mem_iff_getElem?.1 hk
    rw [List.getElem?_take] at hi
    split at hi
    · rename_i hij
      exact ⟨i, k, hij, hi, by simpa using hd⟩
    · cases hi
theorem GInvO.is {listed : Array Bool} {a : Act} {w : World} {b : Nat} (h : GInvO ops q I W a0 S b listed a w) : a = puts a0 (dsts ops) (fun d => a.tmps.getD d undef) := puts_is h.tz h.df h.out
theorem GInvO.step {listed : Array Bool} {a : Act} {w : World} {b b' : Nat} (K : ChainOkO ops q I) (hsz : ∀ d ∈ dsts ops, d < a0.tmps.size) (h : GInvO ops q I W a0 S b listed a w) {i : Nat} {o : Oper} (hi : ops[i]? = some o)
    (hun : listed.getD i false = false) (hwait : ∀ e ∈ bindE o, listed.getD e.on false = true) {v : Value} {w' : World} (hval : ∀ u, (oAt q i).val = some u → v = u)
    (hc : ((oAt q i).isCh = false ∧ w' = w ∧ b' = b) ∨ ((oAt q i).isCh = true ∧ cntO q i = b ∧ b' = b + 1 ∧ (fAt I (b + 1)).at_ (upd (fun d => a.tmps.getD d undef) o.dst v) w' ∧ Chg S w w')) :
    GInvO ops q I W a0 S b' (listed.setIfInBounds i true) (a.put o.dst v) w' := by
  have his : i < ops.size := (Array.getElem?_eq_some_iff.1 hi).1
  have hdlt : ∀ d, o.dst = some d → d < a.tmps.size := fun d hd => by rw [h.tz]; exact hsz d (dst_mem hi hd)
  have hil : i < listed.size := by rw [h.sz]; exact his
  have lset : ∀ k, k ≠ i → (listed.setIfInBounds i true).getD k false = listed.getD k false := fun k hk => by
    simp only [Array.getD_eq_getD_getElem?, Array.getElem?_setIfInBounds, Ne.symm hk, if_false]
  have lself : (listed.setIfInBounds i true).getD i false = true := by simp [hil]
  have lold : ∀ k, listed.getD k false = true → (listed.setIfInBounds i true).getD k false = true := fun k hk => by
    by_cases e : k = i
    · subst e; exact lself
    · rw [lset k e]; exact hk
  have hf : (fun d => (a.put o.dst v).tmps.getD d undef) = upd (fun d => a.tmps.getD d undef) o.dst v := by
    funext t; exact put_get a o.dst v t hdlt
  have hne : ∀ k d, k ≠ i → dstAt ops k = some d → o.dst ≠ some d := fun k d hk hd hd' => by
    unfold dstAt at hd
    cases hko : ops[k]? with
    | none => rw [hko] at hd; cases hd
    | some ok =>
      rw [hko] at hd
      exact nodup_ne K.reg.nodup (l := ops.toList) (i := k) (j := i) (by simpa using hko) (by simpa using hi) hk hd hd'
  have hupd : ∀ k d, k ≠ i → dstAt ops k = some d → (a.put o.dst v).tmps.getD d undef = a.tmps.getD d undef := fun k d hk hd => by
    have h9 : (a.put o.dst v).tmps.getD d undef = upd (fun d => a.tmps.getD d undef) o.dst v d := congrFun hf d
    rw [h9, upd_get _ _ _ _ (hne k d hk hd)]
  have hnc : b' = b ∧ (oAt q i).isCh = false ∨ b' = b + 1 ∧ (oAt q i).isCh = true ∧ cntO q i = b := by
    rcases hc with ⟨h1, _, h2⟩ | ⟨h1, h2, h3, _, _⟩
    · exact .inl ⟨h2, h1⟩
    · exact .inr ⟨h3, h1, h2⟩
  refine ⟨by simp [h.sz], ?_, ?_, fun t ht => ?_, fun k ok hk hl e he => ?_, fun j k hj => ?_, ?_, ?_, ?_, fun j oj d hj hd hl => ?_, fun k d u hq hl hd => ?_⟩
  · rw [← h.tz]; cases o.dst <;> simp [Act.put]
  · rw [← h.df]; cases o.dst <;> rfl
  · rw [← h.out t ht]
    cases hd : o.dst with
    | none => rfl
    | some d =>
      have : d ≠ t := fun e => ht (e ▸ dst_mem hi hd)
      simp [Act.put, this]
  · by_cases hik : k = i
    · subst hik
      obtain rfl : ok = o := by rw [hi] at hk; injection hk with hk; exact hk.symm
      exact lold _ (hwait e he)
    · rw [lset k hik] at hl
      exact lold _ (h.closed k ok hk hl e he)
  · rcases hnc with ⟨rfl, h1⟩ | ⟨rfl, h1, h2⟩
    · have hki : k ≠ i := fun e => by
        have h3 := (chainO_mem hj).2.1
        rw [e, h1] at h3
        cases h3
      rw [lset k hki]
      exact h.chn j k hj
    · by_cases hki : k = i
      · subst hki
        have := (chainO_mem hj).2.2
        simp only [lself, true_iff]
        omega
      · rw [lset k hki, h.chn j k hj]
        have h3 : j ≠ b := fun e => hki (by
          have h4 := chainO_at his h1
          rw [h2, ← e, hj] at h4
          injection h4)
        omega
  · rcases hnc with ⟨rfl, _⟩ | ⟨rfl, h1, h2⟩
    · exact h.le
    · have := (List.getElem?_eq_some_iff.1 (chainO_at his h1)).1
      omega
  · rcases hc with ⟨_, rfl, rfl⟩ | ⟨_, _, rfl, _, h5⟩
    · exact h.ch
    · exact h.ch.trans h5
  · rw [hf]
    rcases hc with ⟨h1, rfl, rfl⟩ | ⟨_, _, rfl, h4, _⟩
    · have same : (fAt I b').ts.map (upd (fun d => a.tmps.getD d undef) o.dst v) = (fAt I b').ts.map (fun d => a.tmps.getD d undef) := List.map_congr_left fun t ht => by
        obtain ⟨i', k', hi', hk', hd'⟩ := K.sup b' h.le t ht
        refine upd_get _ _ _ _ (hne k' t (fun e => ?_) hd')
        have h3 := (chainO_mem hk').2.1
        rw [e, h1] at h3
        cases h3
      unfold Fact.at_
      rw [same]
      exact h.inv
    · exact h4
  · have hji : j ≠ i := fun e => by subst e; simp [hil] at hl
    rw [lset j hji] at hl
    rw [hupd j d hji (by unfold dstAt; rw [hj]; exact hd)]
    exact h.old j oj d hj hd hl
  · by_cases hki : k = i
    · subst hki
      have h9 : (a.put o.dst v).tmps.getD d undef = upd (fun d => a.tmps.getD d undef) o.dst v d := congrFun hf d
      unfold dstAt at hd
      rw [hi] at hd
      have hd' : o.dst = some d := hd
      rw [h9, hd', upd_some, if_pos rfl]
      exact hval u hq
    · rw [lset k hki] at hl
      rw [hupd k d hki hd]
      exact h.qv k d u hq hl hd
theorem GInvO.old_ {listed : Array Bool} {a : Act} {w : World} {b : Nat} (h : GInvO ops q I W a0 S b listed a w) {k d : Nat} (hk : listed.getD k false = false) (ho : oldB ops k d = true) (hd : d ∈ dsts ops) : a.tmps.getD d undef = a0.tmps.getD d undef := by
  unfold dsts at hd
  obtain ⟨o, ho', hd'⟩ := List.mem_filterMap.1 hd
  obtain ⟨i, hi⟩ := List.mem_iff_getElem?.1 ho'
  have hi' : ops[i]? = some o := by simpa using hi
  refine h.old i o d hi' hd' (ahead_un h.closed hk ?_)
  have := List.all_eq_true.1 ho (o, i) (by rw [List.mem_zipIdx_iff_getElem?]; simpa using hi')
  simpa [hd'] using this
theorem regO_any (K : ChainOkO ops q I) (hsz : ∀ d ∈ dsts ops, d < a0.tmps.size) (hh : hopsO P ops q I W a0 S ops.toList 0 0)
    (fin : ∀ (f : Tmp → Value) (w : World), Chg S W w → (fAt I (chainO ops.size q).length).at_ f w → (∀ k d v, (oAt q k).val = some v → dstAt ops k = some d → f d = v) → Q .normal (puts a0 (dsts ops) f) w) :
    ∀ (fuel : Nat) (b : Nat) (listed : Array Bool) (a : Act) (w : World), GInvO ops q I W a0 S b listed a w → listed.toList.countP (fun b => !b) ≤ fuel → wpAny P .any ops Q fuel listed a w := by
  have done : ∀ (b : Nat) (listed : Array Bool) (a : Act) (w : World), GInvO ops q I W a0 S b listed a w → Region.ready .any ops listed = [] → Q .normal a w := fun b listed a w h hr => by
    have hall : ∀ k, k < ops.size → listed.getD k false = true := fun k hk => all_listedF K.reg h.sz hr (k + 1) k (by omega) hk
    have hb : b = (chainO ops.size q).length := by
      rcases Nat.lt_or_ge b (chainO ops.size q).length with h1 | h1
      · have hl : (chainO ops.size q)[b]? = some ((chainO ops.size q)[b]'h1) := List.getElem?_eq_getElem h1
        have h2 := (h.chn _ _ hl).1 (hall _ (chainO_mem hl).1)
        omega
      · have := h.le; omega
    subst hb
    rw [h.is]
    refine fin _ w h.ch h.inv fun k d v hq hd => h.qv k d v hq (hall k ?_) hd
    unfold dstAt at hd
    cases hk : ops[k]? with
    | none => rw [hk] at hd; cases hd
    | some _ => exact (Array.getElem?_eq_some_iff.1 hk).1
  intro fuel
  induction fuel with
  | zero =>
    intro b listed a w h hc
    have hr : Region.ready .any ops listed = [] := by
      cases hr : Region.ready .any ops listed with
      | nil => rfl
      | cons i l =>
        exfalso
        have hi := (mem_ready.1 (show i ∈ Region.ready .any ops listed by rw [hr]; exact List.mem_cons_self ..)).1
        have h0 : listed.toList.countP (fun b => !b) = 0 := by omega
        rw [List.countP_eq_zero] at h0
        have hlt : i < listed.size := by
          rcases Nat.lt_or_ge i listed.size with h1 | h1
          · exact h1
          · simp [Array.getElem?_eq_none h1] at hi
        have hv : listed[i] = false := by simpa [hlt] using hi
        have := h0 listed[i] (Array.getElem_mem_toList hlt)
        simp [hv] at this
    exact ⟨hr, done b listed a w h hr⟩
  | succ fuel ih =>
    intro b listed a w h hc
    refine ⟨fun hr => done b listed a w h hr, fun i hi => ?_⟩
    obtain ⟨hl, o, ho, hall⟩ := mem_ready.1 hi
    have hwait : ∀ e ∈ bindE o, listed.getD e.on false = true := fun e he => by
      obtain ⟨h1, h2⟩ := bind_mem.1 he
      exact hall e (by simpa using h1) h2
    have his : i < ops.size := (Array.getElem?_eq_some_iff.1 ho).1
    have hun : listed.getD i false = false := by
      have hlt : i < listed.size := by rw [h.sz]; exact his
      simp [hlt] at hl ⊢
      exact hl
    have hop := hopsO_at (k := 0) hh (i := i) (by simpa using ho)
    rw [Nat.zero_add] at hop
    have hdeps : depsO ops q (fun d => a.tmps.getD d undef) (bindE o) := depsO_of (fun e he v d hq hd => h.qv e.on d v hq (hwait e he) hd)
    unfold wpOp
    simp only [ho]
    cases hq : oAt q i with
    | rd v =>
      unfold hopCO at hop
      rw [hq] at hop
      unfold hopO at hop
      have h1 := hop (fun d => a.tmps.getD d undef) w h.ch (fun d h2 h3 => h.old_ hun h2 h3) hdeps
      rw [← h.is] at h1
      have next : ∀ a' w', (a' = a.put o.dst v ∧ w' = w) → wpAny P .any ops Q fuel (listed.setIfInBounds i true) a' w' := fun a' w' ⟨ha, hw⟩ => by
        subst ha; subst hw
        exact ih b _ _ _ (h.step K hsz ho hun hwait (fun u hu => by rw [hq] at hu; injection hu) (.inl ⟨by rw [hq]; rfl, rfl, rfl⟩)) (few_set hc hl)
      unfold wpList at h1
      split
      · rename_i hw
        rw [if_pos hw] at h1
        rcases h1 with h1 | h1
        · exact .inl (wp_only (Oper.wp_mono next h1))
        · exact (only_no h1.2).elim
      · rename_i hw
        rw [if_neg hw] at h1
        exact next _ _ h1
    | ch ov =>
      have hci9 : (oAt q i).isCh = true := by rw [hq]; rfl
      have hci : cntO q i = b := by
        have h4 := chainO_at his hci9
        rcases Nat.lt_trichotomy (cntO q i) b with h5 | h5 | h5
        · have := (h.chn _ _ h4).2 h5
          rw [hun] at this; cases this
        · exact h5
        · exfalso
          have h6 := (List.getElem?_eq_some_iff.1 h4).1
          have h7 : (chainO ops.size q)[cntO q i - 1]? = some ((chainO ops.size q)[cntO q i - 1]'(by omega)) := List.getElem?_eq_getElem (by omega)
          obtain ⟨e, he, h8⟩ := K.link (cntO q i - 1) i _ o (by rw [show cntO q i - 1 + 1 = cntO q i by omega]; exact h4) h7 ho
          have h9 := hwait e he
          rw [h8] at h9
          have := (h.chn _ _ h7).1 h9
          omega
      unfold hopCO at hop
      rw [hq, hci] at hop
      unfold hopO at hop
      have h1 := hop (fun d => a.tmps.getD d undef) w h.ch h.inv (fun d h2 h3 => h.old_ hun h2 h3) hdeps
      rw [← h.is] at h1
      have next : ∀ a' w', (∃ v, a' = a.put o.dst v ∧ isVal ov v ∧ (fAt I (b + 1)).at_ (upd (fun d => a.tmps.getD d undef) o.dst v) w' ∧ Chg S w w') → wpAny P .any ops Q fuel (listed.setIfInBounds i true) a' w' := fun a' w' ⟨v, ha, hv, hg, hcc⟩ => by
        subst ha
        exact ih (b + 1) _ _ _ (h.step K hsz ho hun hwait (fun u hu => hv u (by rw [hq] at hu; exact hu)) (.inr ⟨hci9, hci, rfl, hg, hcc⟩)) (few_set hc hl)
      unfold wpList at h1
      split
      · rename_i hw
        rw [if_pos hw] at h1
        rcases h1 with h1 | h1
        · exact .inl (wp_only (Oper.wp_mono next h1))
        · exact (only_no h1.2).elim
      · rename_i hw
        rw [if_neg hw] at h1
        exact next _ _ h1
def knowsO (ops : Array Oper) (f : Tmp → Value) : List Ko → Nat → Prop
  | [], _ => True
  | x :: l, k => (match x.val, dstAt ops k with | some v, some d => f d = v | _, _ => True) ∧ knowsO ops f l (k + 1)
theorem knowsO_of {f : Tmp → Value} : ∀ {l : List Ko} {k : Nat}, (∀ i d v, (oAt l i).val = some v → dstAt ops (k + i) = some d → f d = v) → knowsO ops f l k
  | [], _, _ => trivial
  | x :: l, k, h => ⟨by split <;> first | trivial | (rename_i v d h1 h2; exact h 0 d v h1 h2), knowsO_of fun i d v h1 h2 => h (i + 1) d v (by simpa [oAt] using h1) (by rw [show k + (i + 1) = k + 1 + i by omega]; exact h2)⟩
theorem region_open {id : Nat} {w : World} (q : List Ko) (S : Nat → Prop) (I : List Fact) (hm : P.follows .mixedOrders = true) (hB : chainBO ops q (I.map (·.ts)) = true) (hsz : (dsts ops).all (fun d => d < a0.tmps.size) = true)
    (n : Nat) (hn : (chainO ops.size q).length = n)
    (h0 : (fAt I 0).R [] w.drew) (h0' : (fAt I 0).ts = [])
    (hh : hopsOK P ops q I w.drew a0 S ops.toList q 0 0)
    (fin : ∀ (f : Tmp → Value) (w' : World), Chg S w.drew w' → (fAt I n).at_ f w' → knowsO ops f q 0 → Q .normal (puts a0 (dsts ops) f) w') : (Code.region id ops true).wp P Q a0 w := by
  subst hn
  refine wp_region_any hm (regO_any (W := w.drew) (ChainOkO.of hB) (fun d hd => by simpa using List.all_eq_true.1 hsz d hd) (hopsO_ofK (k := 0) hh) (fun f w' h0 h1 h2 => fin f w' h0 h1 (knowsO_of fun i d v h3 h4 => h2 i d v h3 (by simpa using h4))) ops.size 0 _ a0 _ ⟨by simp, rfl, rfl, fun _ _ => rfl, ?_, ?_, Nat.zero_le _, Chg.refl _ _, ?_, fun _ _ _ _ _ _ => rfl, ?_⟩ ?_)
  · intro k o hk hl
    simp only [Array.getD_eq_getD_getElem?, Array.getElem?_replicate] at hl
    split at hl <;> simp at hl
  · intro j k hj
    simp only [Array.getD_eq_getD_getElem?, Array.getElem?_replicate]
    constructor
    · intro h; split at h <;> simp at h
    · intro h; omega
  · unfold Fact.at_; rw [h0']; exact h0
  · intro k d v _ hl
    simp only [Array.getD_eq_getD_getElem?, Array.getElem?_replicate] at hl
    split at hl <;> simp at hl
  · have := List.countP_le_length (p := fun b : Bool => !b) (l := (Array.replicate ops.size false).toList)
    simpa using this
end
end Go.Proofs.Ythdfkiaoahpjpaa
