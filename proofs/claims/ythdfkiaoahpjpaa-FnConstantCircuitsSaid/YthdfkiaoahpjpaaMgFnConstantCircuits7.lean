/-
  A region that draws its order, of this form: some operations only read (each gives one value, whatever the order), and the others wait for each other in one chain, of which the last waits for all. The chain's operations may write where they like, as long as what the readers read stands (S: the old blocks that the chain may write into ahead of its last operation).
-/
import Derived.Test.YthdfkiaoahpjpaaMgFnConstantCircuits6
namespace Go.Proofs.Ythdfkiaoahpjpaa
open Go.RowKit
set_option linter.unusedVariables false
set_option linter.unusedSimpArgs false
inductive Kd where
  | rd (v : Value)
  | fl (R : Value → World → Prop)
  | ch
def Kd.isCh : Kd → Bool
  | .ch => true
  | _ => false
def kAt (q : List Kd) (k : Nat) : Kd := (q[k]?).getD .ch
def chainL (n : Nat) (q : List Kd) : List Nat := (List.range n).filter fun k => (kAt q k).isCh
def dstAt (ops : Array Oper) (k : Nat) : Option Tmp := (ops[k]?).bind (·.dst)
def chainB (ops : Array Oper) (q : List Kd) (ts : List (List Tmp)) : Bool :=
  regB ops [] && decide (0 < (chainL ops.size q).length) &&
  ((List.range (chainL ops.size q).length).all fun j => j == 0 || (waits ops ((chainL ops.size q)[j]?.getD 0)).contains ((chainL ops.size q)[j - 1]?.getD 0)) &&
  ((List.range ops.size).all fun k => k == ((chainL ops.size q)[(chainL ops.size q).length - 1]?.getD 0) || (waits ops ((chainL ops.size q)[(chainL ops.size q).length - 1]?.getD 0)).contains k) &&
  ((List.range (chainL ops.size q).length).all fun j => ((ts[j]?).getD []).all fun t => ((chainL ops.size q).take j).any fun k => dstAt ops k == some t)
def depsC (ops : Array Oper) (q : List Kd) (f : Tmp → Value) (w : World) : List Edge → Prop
  | [] => True
  | e :: es => (match kAt q e.on, dstAt ops e.on with | .rd v, some d => f d = v | .fl R, some d => R (f d) w | _, _ => True) ∧ depsC ops q f w es
def keepsC (ops : Array Oper) (f : Tmp → Value) (w w' : World) : List Kd → Nat → Prop
  | [], _ => True
  | x :: l, k => (match x, dstAt ops k with | .fl R, some d => R (f d) w → R (f d) w' | _, _ => True) ∧ keepsC ops f w w' l (k + 1)
def flOk (I : List Fact) : List Kd → Prop
  | [] => True
  | x :: l => (match x with | .fl R => stable R ∧ stablesF I | _ => True) ∧ flOk I l
def hopK (P : Program) (ops : Array Oper) (q : List Kd) (I : List Fact) (W : World) (a0 : Act) (S : Nat → Prop) (n : Nat) (o : Oper) (j : Nat) : Kd → Prop
  | .rd v => ∀ (f : Tmp → Value) (w : World), Chg S W w → depsC ops q f w (bindE o) → wpList P ops (Only fun a' w' => a' = (puts a0 (dsts ops) f).put o.dst v ∧ w' = w) [o] (puts a0 (dsts ops) f) w
  | .fl R => ∀ (f : Tmp → Value) (w : World), Chg S W w → depsC ops q f w (bindE o) →
    wpList P ops (Only fun a' w' => ∃ v, a' = (puts a0 (dsts ops) f).put o.dst v ∧ R v w' ∧ w.grownBy w' none) [o] (puts a0 (dsts ops) f) w
  | .ch => ∀ (f : Tmp → Value) (w : World), Chg S W w → (fAt I j).at_ f w → depsC ops q f w (bindE o) →
    wpList P ops (Only fun a' w' => ∃ v, a' = (puts a0 (dsts ops) f).put o.dst v ∧ (fAt I (j + 1)).at_ (upd f o.dst v) w' ∧ (j + 1 < n → Chg S w w' ∧ keepsC ops f w w' q 0)) [o] (puts a0 (dsts ops) f) w
def Kd.next (j : Nat) : Kd → Nat
  | .ch => j + 1
  | _ => j
def hopsK (P : Program) (ops : Array Oper) (q : List Kd) (I : List Fact) (W : World) (a0 : Act) (S : Nat → Prop) (n : Nat) : List Oper → List Kd → Nat → Prop
  | [], _, _ => True
  | o :: l, [], j => hopK P ops q I W a0 S n o j .ch ∧ hopsK P ops q I W a0 S n l [] (j + 1)
  | o :: l, x :: ks, j => hopK P ops q I W a0 S n o j x ∧ hopsK P ops q I W a0 S n l ks (x.next j)
def hopC (P : Program) (ops : Array Oper) (q : List Kd) (I : List Fact) (W : World) (a0 : Act) (S : Nat → Prop) (o : Oper) (k j n : Nat) : Prop := hopK P ops q I W a0 S n o j (kAt q k)
def hopsC (P : Program) (ops : Array Oper) (q : List Kd) (I : List Fact) (W : World) (a0 : Act) (S : Nat → Prop) (n : Nat) : List Oper → Nat → Nat → Prop
  | [], _, _ => True
  | o :: l, k, j => hopC P ops q I W a0 S o k j n ∧ hopsC P ops q I W a0 S n l (k + 1) (if (kAt q k).isCh then j + 1 else j)
theorem hopsC_ofK {P : Program} {ops : Array Oper} {q : List Kd} {I : List Fact} {W : World} {a0 : Act} {S : Nat → Prop} {n : Nat} : ∀ {l : List Oper} {k j : Nat}, hopsK P ops q I W a0 S n l (q.drop k) j → hopsC P ops q I W a0 S n l k j
  | [], _, _, _ => trivial
  | o :: l, k, j, h => by
    cases hd : q.drop k with
    | nil =>
      have hk : kAt q k = .ch := by
        unfold kAt
        rw [List.getElem?_eq_none (List.drop_eq_nil_iff.1 hd)]
        rfl
      rw [hd] at h
      refine ⟨by unfold hopC; rw [hk]; exact h.1, ?_⟩
      rw [hk]
      exact hopsC_ofK (k := k + 1) (by
        have : q.drop (k + 1) = [] := List.drop_eq_nil_iff.2 (by have := List.drop_eq_nil_iff.1 hd; omega)
        rw [this]; exact h.2)
    | cons x ks =>
      have hl : k < q.length := by
        rcases Nat.lt_or_ge k q.length with h1 | h1
        · exact h1
        · rw [List.drop_eq_nil_iff.2 h1] at hd; cases hd
      have hkx := List.drop_eq_getElem_cons hl
      rw [hd] at hkx
      injection hkx with h1 h2
      have hk : kAt q k = x := by
        unfold kAt
        rw [List.getElem?_eq_getElem hl, h1]
        rfl
      rw [hd] at h
      refine ⟨by unfold hopC; rw [hk]; exact h.1, ?_⟩
      rw [hk]
      refine hopsC_ofK (k := k + 1) ?_
      rw [← h2]
      have := h.2
      cases x <;> exact this
def cntC (q : List Kd) (k : Nat) : Nat := ((List.range k).filter fun k => (kAt q k).isCh).length
theorem cntC_succ (q : List Kd) (k : Nat) : cntC q (k + 1) = if (kAt q k).isCh then cntC q k + 1 else cntC q k := by
  unfold cntC
  rw [List.range_succ, List.filter_append, List.length_append]
  cases h : (kAt q k).isCh <;> simp [h]
theorem hopsC_at {P : Program} {ops : Array Oper} {q : List Kd} {I : List Fact} {W : World} {a0 : Act} {S : Nat → Prop} {n : Nat} : ∀ {l : List Oper} {k i : Nat} {o : Oper}, hopsC P ops q I W a0 S n l k (cntC q k) → l[i]? = some o → hopC P ops q I W a0 S o (k + i) (cntC q (k + i)) n
  | [], _, _, _, _, h => by simp at h
  | x :: l, k, 0, o, h, hi => by simp at hi; subst hi; exact h.1
  | x :: l, k, i + 1, o, h, hi => by
    simp at hi
    have h2 := h.2
    rw [← cntC_succ] at h2
    have := hopsC_at (k := k + 1) (i := i) h2 hi
    rwa [show k + 1 + i = k + (i + 1) by omega] at this
theorem depsC_of {ops : Array Oper} {q : List Kd} {f : Tmp → Value} {w : World} : ∀ {l : List Edge}, (∀ e ∈ l, ∀ v d, kAt q e.on = .rd v → dstAt ops e.on = some d → f d = v) → (∀ e ∈ l, ∀ R d, kAt q e.on = .fl R → dstAt ops e.on = some d → R (f d) w) → depsC ops q f w l
  | [], _, _ => trivial
  | e :: l, h, h' => ⟨by split <;> first | trivial | (rename_i v d h1 h2; first | exact h e (List.mem_cons_self ..) v d h1 h2 | exact h' e (List.mem_cons_self ..) v d h1 h2), depsC_of (fun e' he' => h e' (List.mem_cons_of_mem _ he')) (fun e' he' => h' e' (List.mem_cons_of_mem _ he'))⟩
theorem keepsC_at {ops : Array Oper} {f : Tmp → Value} {w w' : World} : ∀ {l : List Kd} {k i : Nat} {R : Value → World → Prop} {d : Tmp}, keepsC ops f w w' l k → kAt l i = .fl R → dstAt ops (k + i) = some d → R (f d) w → R (f d) w'
  | [], _, _, _, _, _, h, _, _ => by simp [kAt] at h
  | x :: l, k, 0, R, d, hk, h, hd, hR => by
    simp [kAt] at h
    subst h
    have := hk.1
    rw [show k + 0 = k from rfl] at hd
    simp only [hd] at this
    exact this hR
  | x :: l, k, i + 1, R, d, hk, h, hd, hR => keepsC_at (k := k + 1) (i := i) hk.2 (by simpa [kAt] using h) (by rw [show k + 1 + i = k + (i + 1) by omega]; exact hd) hR
theorem flOk_at {I : List Fact} : ∀ {l : List Kd} {i : Nat} {R : Value → World → Prop}, flOk I l → kAt l i = .fl R → stable R ∧ stablesF I
  | [], _, _, _, h => by simp [kAt] at h
  | x :: l, 0, R, hk, h => by
    simp [kAt] at h
    subst h
    exact hk.1
  | x :: l, i + 1, R, hk, h => flOk_at hk.2 (by simpa [kAt] using h)
theorem isCh_eq {x : Kd} : x.isCh = true ↔ x = .ch := by cases x <;> simp [Kd.isCh]
theorem chain_at {q : List Kd} : ∀ {n k : Nat}, k < n → kAt q k = .ch → (chainL n q)[cntC q k]? = some k
  | 0, k, h, _ => by omega
  | n + 1, k, h, hq => by
    unfold chainL
    rw [List.range_succ, List.filter_append]
    rcases Nat.lt_or_ge k n with h1 | h1
    · have ih := chain_at (n := n) h1 hq
      unfold chainL at ih
      rw [List.getElem?_append_left (List.getElem?_eq_some_iff.1 ih).1]
      exact ih
    · obtain rfl : k = n := by omega
      unfold cntC
      rw [List.getElem?_append_right (Nat.le_refl _)]
      simp [hq, Kd.isCh]
theorem chain_mem {q : List Kd} {n j k : Nat} (h : (chainL n q)[j]? = some k) : k < n ∧ kAt q k = .ch ∧ j = cntC q k := by
  have h1 := List.mem_of_getElem? h
  unfold chainL at h1
  rw [List.mem_filter] at h1
  simp only [List.mem_range, isCh_eq] at h1
  refine ⟨h1.1, h1.2, ?_⟩
  have h2 := chain_at h1.1 h1.2
  have hnd : (chainL n q).Nodup := List.Pairwise.filter _ List.nodup_range
  have l1 := (List.getElem?_eq_some_iff.1 h)
  have l2 := (List.getElem?_eq_some_iff.1 h2)
  obtain ⟨a1, b1⟩ := l1
  obtain ⟨a2, b2⟩ := l2
  exact (List.getElem_inj hnd).1 (b1.trans b2.symm)
structure GInvC (ops : Array Oper) (q : List Kd) (I : List Fact) (W : World) (a0 : Act) (S : Nat → Prop) (b : Nat) (listed : Array Bool) (a : Act) (w : World) : Prop where
  sz : listed.size = ops.size
  tz : a.tmps.size = a0.tmps.size
  df : a.defers = a0.defers
  out : ∀ t, t ∉ dsts ops → a.tmps[t]? = a0.tmps[t]?
  closed : ∀ k o, ops[k]? = some o → listed.getD k false = true → ∀ e ∈ bindE o, listed.getD e.on false = true
  chn : ∀ j k, (chainL ops.size q)[j]? = some k → (listed.getD k false = true ↔ j < b)
  le : b ≤ (chainL ops.size q).length
  ch : b < (chainL ops.size q).length → Chg S W w
  inv : (fAt I b).at_ (fun d => a.tmps.getD d undef) w
  qv : ∀ k d v, kAt q k = .rd v → listed.getD k false = true → dstAt ops k = some d → a.tmps.getD d undef = v
  fv : b < (chainL ops.size q).length → ∀ k d R, kAt q k = .fl R → listed.getD k false = true → dstAt ops k = some d → R (a.tmps.getD d undef) w
section
variable {P : Program} {ops : Array Oper} {q : List Kd} {I : List Fact} {W : World} {a0 : Act} {S : Nat → Prop} {Q : Exit → Act → World → Prop}
structure ChainOk (ops : Array Oper) (q : List Kd) (I : List Fact) : Prop where
  reg : RegOk ops []
  pos : 0 < (chainL ops.size q).length
  link : ∀ j k i o, (chainL ops.size q)[j + 1]? = some k → (chainL ops.size q)[j]? = some i → ops[k]? = some o → ∃ e ∈ bindE o, e.on = i
  last : ∀ l o, (chainL ops.size q)[(chainL ops.size q).length - 1]? = some l → ops[l]? = some o → ∀ k, k < ops.size → k = l ∨ ∃ e ∈ bindE o, e.on = k
  sup : ∀ j, j < (chainL ops.size q).length → ∀ t ∈ (fAt I j).ts, ∃ i k, i < j ∧ (chainL ops.size q)[i]? = some k ∧ dstAt ops k = some t
theorem waits_mem {ops : Array Oper} {k i : Nat} {o : Oper} (ho : ops[k]? = some o) (h : (waits ops k).contains i = true) : ∃ e ∈ bindE o, e.on = i := by
  unfold waits at h
  rw [ho] at h
  simpa using h
theorem ChainOk.of (h : chainB ops q (I.map (·.ts)) = true) : ChainOk ops q I := by
  unfold chainB at h
  simp only [Bool.and_eq_true, decide_eq_true_eq] at h
  obtain ⟨⟨⟨⟨h1, h2⟩, h3⟩, h4⟩, h5⟩ := h
  refine ⟨RegOk.of (T := []) h1, h2, fun j k i o hk hi ho => ?_, fun l o hl ho k hk => ?_, fun j hj t ht => ?_⟩
  · have := List.all_eq_true.1 h3 (j + 1) (by simpa using (List.getElem?_eq_some_iff.1 hk).1)
    rw [hk, Nat.add_sub_cancel, hi] at this
    simp only [Option.getD_some, Bool.or_eq_true] at this
    rcases this with h | h
    · simp at h
    · exact waits_mem ho h
  · have := List.all_eq_true.1 h4 k (by simpa using hk)
    rw [hl] at this
    simp only [Option.getD_some, Bool.or_eq_true] at this
    rcases this with h | h
    · exact .inl (by simpa using h)
    · exact .inr (waits_mem ho h)
  · have hts : ((I.map (·.ts))[j]?).getD [] = (fAt I j).ts := by
      unfold fAt
      rw [List.getElem?_map]
      cases I[j]? <;> rfl
    have h6 := List.all_eq_true.1 h5 j (by simp; omega)
    rw [hts] at h6
    have h7 := List.all_eq_true.1 h6 t ht
    obtain ⟨k, hk, hd⟩ := List.any_eq_true.1 h7
    obtain ⟨i, hi⟩ := List.mem_iff_getElem?.1 hk
    rw [List.getElem?_take] at hi
    split at hi
    · rename_i hij
      exact ⟨i, k, hij, hi, by simpa using hd⟩
    · cases hi
theorem GInvC.more {listed : Array Bool} {a : Act} {w : World} {b : Nat} (K : ChainOk ops q I) (h : GInvC ops q I W a0 S b listed a w) {i : Nat} (hi : i < ops.size) (hun : listed.getD i false = false) : b < (chainL ops.size q).length := by
  rcases Nat.lt_or_ge b (chainL ops.size q).length with h1 | h1
  · exact h1
  · exfalso
    have hp := K.pos
    have hl : (chainL ops.size q)[(chainL ops.size q).length - 1]? = some ((chainL ops.size q)[(chainL ops.size q).length - 1]'(by omega)) := List.getElem?_eq_getElem (by omega)
    have h2 := (h.chn _ _ hl).2 (by omega)
    have h3 := (chain_mem hl).1
    rcases K.last _ _ hl (Array.getElem?_eq_getElem h3) i hi with h4 | ⟨e, he, h4⟩
    · rw [← h4, hun] at h2; cases h2
    · have := h.closed _ _ (Array.getElem?_eq_getElem h3) h2 e he
      rw [h4, hun] at this; cases this
theorem GInvC.is {listed : Array Bool} {a : Act} {w : World} {b : Nat} (h : GInvC ops q I W a0 S b listed a w) : a = puts a0 (dsts ops) (fun d => a.tmps.getD d undef) := puts_is h.tz h.df h.out
theorem GInvC.step {listed : Array Bool} {a : Act} {w : World} {b b' : Nat} (K : ChainOk ops q I) (hO : flOk I q) (hsz : ∀ d ∈ dsts ops, d < a0.tmps.size) (h : GInvC ops q I W a0 S b listed a w) {i : Nat} {o : Oper} (hi : ops[i]? = some o)
    (hun : listed.getD i false = false) (hwait : ∀ e ∈ bindE o, listed.getD e.on false = true) {v : Value} {w' : World}
    (hc : (kAt q i = .rd v ∧ w' = w ∧ b' = b) ∨ (∃ R, kAt q i = .fl R ∧ w.grownBy w' none ∧ R v w' ∧ b' = b) ∨ (kAt q i = .ch ∧ cntC q i = b ∧ b' = b + 1 ∧ (fAt I (b + 1)).at_ (upd (fun d => a.tmps.getD d undef) o.dst v) w' ∧ (b + 1 < (chainL ops.size q).length → Chg S w w' ∧ keepsC ops (fun d => a.tmps.getD d undef) w w' q 0))) :
    GInvC ops q I W a0 S b' (listed.setIfInBounds i true) (a.put o.dst v) w' := by
  have his : i < ops.size := (Array.getElem?_eq_some_iff.1 hi).1
  have hbl := h.more K his hun
  have hdlt : ∀ d, o.dst = some d → d < a.tmps.size := fun d hd => by rw [h.tz]; exact hsz d (dst_mem hi hd)
  have hil : i < listed.size := by rw [h.sz]; exact his
  have lset : ∀ k, k ≠ i → (listed.setIfInBounds i true).getD k false = listed.getD k false := fun k hk => by
    simp only [Array.getD_eq_getD_getElem?, Array.getElem?_setIfInBounds, Ne.symm hk, if_false]
  have lself : (listed.setIfInBounds i true).getD i false = true := by simp [hil]
  have lold : ∀ k, listed.getD k false = true → (listed.setIfInBounds i true).getD k false = true := fun k hk => by
    by_cases e : k = i
    · subst e; exact lself
    · rw [lset k e]; exact hk
  have hf : (fun d => (a.put o.dst v).tmps.getD d undef) = upd (fun d => a.tmps.getD d undef) o.dst v := by
    funext t; exact put_get a o.dst v t hdlt
  have hne : ∀ k d, k ≠ i → dstAt ops k = some d → o.dst ≠ some d := fun k d hk hd hd' => by
    unfold dstAt at hd
    cases hko : ops[k]? with
    | none => rw [hko] at hd; cases hd
    | some ok =>
      rw [hko] at hd
      exact nodup_ne K.reg.nodup (l := ops.toList) (i := k) (j := i) (by simpa using hko) (by simpa using hi) hk hd hd'
  have hupd : ∀ k d, k ≠ i → dstAt ops k = some d → (a.put o.dst v).tmps.getD d undef = a.tmps.getD d undef := fun k d hk hd => by
    have h9 : (a.put o.dst v).tmps.getD d undef = upd (fun d => a.tmps.getD d undef) o.dst v d := congrFun hf d
    rw [h9, upd_get _ _ _ _ (hne k d hk hd)]
  have hnc : b' = b ∧ kAt q i ≠ .ch ∨ b' = b + 1 ∧ kAt q i = .ch ∧ cntC q i = b := by
    rcases hc with ⟨h1, _, h2⟩ | ⟨R, h1, _, _, h2⟩ | ⟨h1, h2, h3, _, _⟩
    · exact .inl ⟨h2, by rw [h1]; simp⟩
    · exact .inl ⟨h2, by rw [h1]; simp⟩
    · exact .inr ⟨h3, h1, h2⟩
  refine ⟨by simp [h.sz], ?_, ?_, fun t ht => ?_, fun k ok hk hl e he => ?_, fun j k hj => ?_, ?_, fun hlt => ?_, ?_, fun k d u hq hl hd => ?_, fun hlt k d R hq hl hd => ?_⟩
  · rw [← h.tz]; cases o.dst <;> simp [Act.put]
  · rw [← h.df]; cases o.dst <;> rfl
  · rw [← h.out t ht]
    cases hd : o.dst with
    | none => rfl
    | some d =>
      have : d ≠ t := fun e => ht (e ▸ dst_mem hi hd)
      simp [Act.put, this]
  · by_cases hik : k = i
    · subst hik
      obtain rfl : ok = o := by rw [hi] at hk; injection hk with hk; exact hk.symm
      exact lold _ (hwait e he)
    · rw [lset k hik] at hl
      exact lold _ (h.closed k ok hk hl e he)
  · rcases hnc with ⟨rfl, h1⟩ | ⟨rfl, h1, h2⟩
    · have hki : k ≠ i := fun e => h1 (by rw [← e]; exact (chain_mem hj).2.1)
      rw [lset k hki]
      exact h.chn j k hj
    · by_cases hki : k = i
      · subst hki
        have := (chain_mem hj).2.2
        simp only [lself, true_iff]
        omega
      · rw [lset k hki, h.chn j k hj]
        have h3 : j ≠ b := fun e => hki (by
          have h4 := chain_at his h1
          rw [h2, ← e, hj] at h4
          injection h4)
        omega
  · rcases hnc with ⟨rfl, _⟩ | ⟨rfl, _, _⟩
    · exact h.le
    · omega
  · rcases hc with ⟨_, rfl, rfl⟩ | ⟨_, _, h2, _, rfl⟩ | ⟨_, _, rfl, _, h5⟩
    · exact h.ch hlt
    · exact (h.ch hlt).trans (Chg.of h2 fun g hg' => by simp at hg')
    · exact (h.ch hbl).trans (h5 hlt).1
  · rw [hf]
    have same : kAt q i ≠ .ch → ∀ c, b = c → (fAt I c).ts.map (upd (fun d => a.tmps.getD d undef) o.dst v) = (fAt I c).ts.map (fun d => a.tmps.getD d undef) := fun h1 c hbc => List.map_congr_left fun t ht => by
      obtain ⟨i', k', hi', hk', hd'⟩ := K.sup c (hbc ▸ hbl) t ht
      refine upd_get _ _ _ _ (hne k' t (fun e => h1 ?_) hd')
      rw [← e]
      exact (chain_mem hk').2.1
    rcases hc with ⟨h1, rfl, rfl⟩ | ⟨R, h1, h2, _, rfl⟩ | ⟨_, _, rfl, h4, _⟩
    · unfold Fact.at_
      rw [same (by rw [h1]; simp) _ rfl]
      exact h.inv
    · unfold Fact.at_
      rw [same (by rw [h1]; simp) _ rfl]
      exact stableF_at (flOk_at hO h1).2 _ _ _ _ h.inv h2
    · exact h4
  · by_cases hki : k = i
    · subst hki
      rcases hc with ⟨h1, _, _⟩ | ⟨R, h1, _, _, _⟩ | ⟨h1, _, _, _, _⟩
      · rw [h1] at hq
        injection hq with hq
        subst hq
        have h9 : (a.put o.dst v).tmps.getD d undef = upd (fun d => a.tmps.getD d undef) o.dst v d := congrFun hf d
        unfold dstAt at hd
        rw [hi] at hd
        have hd' : o.dst = some d := hd
        rw [h9, hd', upd_some, if_pos rfl]
      · rw [h1] at hq; cases hq
      · rw [h1] at hq; cases hq
    · rw [lset k hki] at hl
      rw [hupd k d hki hd]
      exact h.qv k d u hq hl hd
  · by_cases hki : k = i
    · subst hki
      rcases hc with ⟨h1, _, _⟩ | ⟨R', h1, _, h3, _⟩ | ⟨h1, _, _, _, _⟩
      · rw [h1] at hq; cases hq
      · rw [h1] at hq
        injection hq with hq
        subst hq
        have h9 : (a.put o.dst v).tmps.getD d undef = upd (fun d => a.tmps.getD d undef) o.dst v d := congrFun hf d
        unfold dstAt at hd
        rw [hi] at hd
        have hd' : o.dst = some d := hd
        rw [h9, hd', upd_some, if_pos rfl]
        exact h3
      · rw [h1] at hq; cases hq
    · rw [lset k hki] at hl
      rw [hupd k d hki hd]
      have h6 := h.fv hbl k d R hq hl hd
      rcases hc with ⟨_, rfl, _⟩ | ⟨R', _, h2, _, _⟩ | ⟨_, _, rfl, _, h5⟩
      · exact h6
      · exact (flOk_at hO hq).1 _ _ _ h6 h2
      · exact keepsC_at (h5 hlt).2 hq (by rw [Nat.zero_add]; exact hd) h6
theorem regC_any (K : ChainOk ops q I) (hO : flOk I q) (hsz : ∀ d ∈ dsts ops, d < a0.tmps.size) (hh : hopsC P ops q I W a0 S (chainL ops.size q).length ops.toList 0 0)
    (fin : ∀ (f : Tmp → Value) (w : World), (fAt I (chainL ops.size q).length).at_ f w → (∀ k d v, kAt q k = .rd v → dstAt ops k = some d → f d = v) → Q .normal (puts a0 (dsts ops) f) w) :
    ∀ (fuel : Nat) (b : Nat) (listed : Array Bool) (a : Act) (w : World), GInvC ops q I W a0 S b listed a w → listed.toList.countP (fun b => !b) ≤ fuel → wpAny P .any ops Q fuel listed a w := by
  have done : ∀ (b : Nat) (listed : Array Bool) (a : Act) (w : World), GInvC ops q I W a0 S b listed a w → Region.ready .any ops listed = [] → Q .normal a w := fun b listed a w h hr => by
    have hall : ∀ k, k < ops.size → listed.getD k false = true := fun k hk => all_listedF K.reg h.sz hr (k + 1) k (by omega) hk
    have hp := K.pos
    have hl : (chainL ops.size q)[(chainL ops.size q).length - 1]? = some ((chainL ops.size q)[(chainL ops.size q).length - 1]'(by omega)) := List.getElem?_eq_getElem (by omega)
    have h2 := (h.chn _ _ hl).1 (hall _ (chain_mem hl).1)
    have h3 := h.le
    obtain rfl : b = (chainL ops.size q).length := by omega
    rw [h.is]
    refine fin _ w h.inv fun k d v hq hd => h.qv k d v hq (hall k ?_) hd
    unfold dstAt at hd
    cases hk : ops[k]? with
    | none => rw [hk] at hd; cases hd
    | some _ => exact (Array.getElem?_eq_some_iff.1 hk).1
  intro fuel
  induction fuel with
  | zero =>
    intro b listed a w h hc
    have hr : Region.ready .any ops listed = [] := by
      cases hr : Region.ready .any ops listed with
      | nil => rfl
      | cons i l =>
        exfalso
        have hi := (mem_ready.1 (show i ∈ Region.ready .any ops listed by rw [hr]; exact List.mem_cons_self ..)).1
        have h0 : listed.toList.countP (fun b => !b) = 0 := by omega
        rw [List.countP_eq_zero] at h0
        have hlt : i < listed.size := by
          rcases Nat.lt_or_ge i listed.size with h1 | h1
          · exact h1
          · simp [Array.getElem?_eq_none h1] at hi
        have hv : listed[i] = false := by simpa [hlt] using hi
        have := h0 listed[i] (Array.getElem_mem_toList hlt)
        simp [hv] at this
    exact ⟨hr, done b listed a w h hr⟩
  | succ fuel ih =>
    intro b listed a w h hc
    refine ⟨fun hr => done b listed a w h hr, fun i hi => ?_⟩
    obtain ⟨hl, o, ho, hall⟩ := mem_ready.1 hi
    have hwait : ∀ e ∈ bindE o, listed.getD e.on false = true := fun e he => by
      obtain ⟨h1, h2⟩ := bind_mem.1 he
      exact hall e (by simpa using h1) h2
    have his : i < ops.size := (Array.getElem?_eq_some_iff.1 ho).1
    have hun : listed.getD i false = false := by
      have hlt : i < listed.size := by rw [h.sz]; exact his
      simp [hlt] at hl ⊢
      exact hl
    have hbl := h.more K his hun
    have hop := hopsC_at (k := 0) hh (i := i) (by simpa using ho)
    rw [Nat.zero_add] at hop
    have hdeps : depsC ops q (fun d => a.tmps.getD d undef) w (bindE o) := depsC_of (fun e he v d hq hd => h.qv e.on d v hq (hwait e he) hd) (fun e he R d hq hd => h.fv hbl e.on d R hq (hwait e he) hd)
    unfold wpOp
    simp only [ho]
    cases hq : kAt q i with
    | rd v =>
      unfold hopC at hop
      rw [hq] at hop
      unfold hopK at hop
      have h1 := hop (fun d => a.tmps.getD d undef) w (h.ch hbl) hdeps
      rw [← h.is] at h1
      have next : ∀ a' w', (a' = a.put o.dst v ∧ w' = w) → wpAny P .any ops Q fuel (listed.setIfInBounds i true) a' w' := fun a' w' ⟨ha, hw⟩ => by
        subst ha; subst hw
        exact ih b _ _ _ (h.step K hO hsz ho hun hwait (.inl ⟨hq, rfl, rfl⟩)) (few_set hc hl)
      unfold wpList at h1
      split
      · rename_i hw
        rw [if_pos hw] at h1
        rcases h1 with h1 | h1
        · exact .inl (wp_only (Oper.wp_mono next h1))
        · exact (only_no h1.2).elim
      · rename_i hw
        rw [if_neg hw] at h1
        exact next _ _ h1
    | fl R =>
      unfold hopC at hop
      rw [hq] at hop
      unfold hopK at hop
      have h1 := hop (fun d => a.tmps.getD d undef) w (h.ch hbl) hdeps
      rw [← h.is] at h1
      have next : ∀ a' w', (∃ v, a' = a.put o.dst v ∧ R v w' ∧ w.grownBy w' none) → wpAny P .any ops Q fuel (listed.setIfInBounds i true) a' w' := fun a' w' ⟨v, ha, hv, hg⟩ => by
        subst ha
        exact ih b _ _ _ (h.step K hO hsz ho hun hwait (.inr (.inl ⟨R, hq, hg, hv, rfl⟩))) (few_set hc hl)
      unfold wpList at h1
      split
      · rename_i hw
        rw [if_pos hw] at h1
        rcases h1 with h1 | h1
        · exact .inl (wp_only (Oper.wp_mono next h1))
        · exact (only_no h1.2).elim
      · rename_i hw
        rw [if_neg hw] at h1
        exact next _ _ h1
    | ch =>
      have hci : cntC q i = b := by
        have h4 := chain_at his hq
        rcases Nat.lt_trichotomy (cntC q i) b with h5 | h5 | h5
        · have := (h.chn _ _ h4).2 h5
          rw [hun] at this; cases this
        · exact h5
        · exfalso
          have h6 := (List.getElem?_eq_some_iff.1 h4).1
          have h7 : (chainL ops.size q)[cntC q i - 1]? = some ((chainL ops.size q)[cntC q i - 1]'(by omega)) := List.getElem?_eq_getElem (by omega)
          obtain ⟨e, he, h8⟩ := K.link (cntC q i - 1) i _ o (by rw [show cntC q i - 1 + 1 = cntC q i by omega]; exact h4) h7 ho
          have h9 := hwait e he
          rw [h8] at h9
          have := (h.chn _ _ h7).1 h9
          omega
      unfold hopC at hop
      rw [hq, hci] at hop
      unfold hopK at hop
      have h1 := hop (fun d => a.tmps.getD d undef) w (h.ch hbl) h.inv hdeps
      rw [← h.is] at h1
      have next : ∀ a' w', (∃ v, a' = a.put o.dst v ∧ (fAt I (b + 1)).at_ (upd (fun d => a.tmps.getD d undef) o.dst v) w' ∧ (b + 1 < (chainL ops.size q).length → Chg S w w' ∧ keepsC ops (fun d => a.tmps.getD d undef) w w' q 0)) → wpAny P .any ops Q fuel (listed.setIfInBounds i true) a' w' := fun a' w' ⟨v, ha, hv, hg⟩ => by
        subst ha
        exact ih (b + 1) _ _ _ (h.step K hO hsz ho hun hwait (.inr (.inr ⟨hq, hci, rfl, hv, hg⟩))) (few_set hc hl)
      unfold wpList at h1
      split
      · rename_i hw
        rw [if_pos hw] at h1
        rcases h1 with h1 | h1
        · exact .inl (wp_only (Oper.wp_mono next h1))
        · exact (only_no h1.2).elim
      · rename_i hw
        rw [if_neg hw] at h1
        exact next _ _ h1
theorem stF_cons {F : Fact} {l : List Fact} (h : stableF F) (k : stablesF l) : stablesF (F :: l) := fun G hG => by
  rcases List.mem_cons.1 hG with rfl | hG
  · exact h
  · exact k G hG
theorem stF_nil : stablesF [] := fun G hG => by simp at hG
def knowsC (ops : Array Oper) (f : Tmp → Value) : List Kd → Nat → Prop
  | [], _ => True
  | x :: l, k => (match x, dstAt ops k with | .rd v, some d => f d = v | _, _ => True) ∧ knowsC ops f l (k + 1)
theorem knowsC_of {f : Tmp → Value} : ∀ {l : List Kd} {k : Nat}, (∀ i d v, kAt l i = .rd v → dstAt ops (k + i) = some d → f d = v) → knowsC ops f l k
  | [], _, _ => trivial
  | x :: l, k, h => ⟨by split <;> first | trivial | (rename_i v d h2; exact h 0 d v rfl h2), knowsC_of fun i d v h1 h2 => h (i + 1) d v (by simpa [kAt] using h1) (by rw [show k + (i + 1) = k + 1 + i by omega]; exact h2)⟩
theorem region_chain {id : Nat} {w : World} (q : List Kd) (S : Nat → Prop) (I : List Fact) (hm : P.follows .mixedOrders = true) (hB : chainB ops q (I.map (·.ts)) = true) (hsz : (dsts ops).all (fun d => d < a0.tmps.size) = true)
    (n : Nat) (hn : (chainL ops.size q).length = n) (hO : flOk I q)
    (h0 : (fAt I 0).R [] w.drew) (h0' : (fAt I 0).ts = [])
    (hh : hopsK P ops q I w.drew a0 S n ops.toList q 0)
    (fin : ∀ (f : Tmp → Value) (w' : World), (fAt I n).at_ f w' → knowsC ops f q 0 → Q .normal (puts a0 (dsts ops) f) w') : (Code.region id ops true).wp P Q a0 w := by
  subst hn
  refine wp_region_any hm (regC_any (W := w.drew) (ChainOk.of hB) hO (fun d hd => by simpa using List.all_eq_true.1 hsz d hd) (hopsC_ofK (k := 0) hh) (fun f w' h1 h2 => fin f w' h1 (knowsC_of fun i d v h3 h4 => h2 i d v h3 (by simpa using h4))) ops.size 0 _ a0 _ ⟨by simp, rfl, rfl, fun _ _ => rfl, ?_, ?_, Nat.zero_le _, fun _ => Chg.refl _ _, ?_, ?_, ?_⟩ ?_)
  · intro k o hk hl
    simp only [Array.getD_eq_getD_getElem?, Array.getElem?_replicate] at hl
    split at hl <;> simp at hl
  · intro j k hj
    simp only [Array.getD_eq_getD_getElem?, Array.getElem?_replicate]
    constructor
    · intro h; split at h <;> simp at h
    · intro h; omega
  · unfold Fact.at_; rw [h0']; exact h0
  · intro k d v _ hl
    simp only [Array.getD_eq_getD_getElem?, Array.getElem?_replicate] at hl
    split at hl <;> simp at hl
  · intro _ k d v _ hl
    simp only [Array.getD_eq_getD_getElem?, Array.getElem?_replicate] at hl
    split at hl <;> simp at hl
  · have := List.countP_le_length (p := fun b : Bool => !b) (l := (Array.replicate ops.size false).toList)
    simpa using this
end
end Go.Proofs.Ythdfkiaoahpjpaa
