/-
  A region that draws its order, whose operations only let the world grow (loads, calls that make memory, moves): one statement an operation, whatever order comes up.
  T: for each operation what is known of the value that it leaves in its temporary, stable under growth of the world. The last operation may be another (a store): it must wait for all the others.
-/
import Derived.Test.YthdfkiaoahpjpaaMgFnConstantCircuits0
import Derived.Still
namespace Go.Proofs.Ythdfkiaoahpjpaa
open Go.RowKit
def Only (K : Act → World → Prop) : Exit → Act → World → Prop
  | .normal, a, w => K a w
  | _, _, _ => False
theorem only_no {K : Act → World → Prop} : ¬ LetsOut (Only K) := fun ⟨_, _, h⟩ => h
theorem wp_only {P : Program} {o : Oper} {a : Act} {w : World} {K K' : Act → World → Prop} {Q : Exit → Act → World → Prop} (h : o.wp P a w K (Only K')) : o.wp P a w K Q := by
  unfold Oper.wp at *
  generalize (execOp a.eval o).run P w = r at *
  cases r with
  | ok n w' =>
    cases n <;> simp only [Oper.upon] at h ⊢ <;>
      first
        | exact h
        | exact Calls.mono h (fun e w'' he => by cases e <;> first | exact he | exact False.elim he | exact (only_no he).elim)
  | halt x w' => cases x <;> simp only [Oper.upon] at h ⊢ <;> exact h.elim
def puts (a : Act) : List Tmp → (Tmp → Value) → Act
  | [], _ => a
  | d :: ds, f => puts (a.put (some d) (f d)) ds f
theorem puts_size (f : Tmp → Value) : ∀ (ds : List Tmp) (a : Act), (puts a ds f).tmps.size = a.tmps.size ∧ (puts a ds f).defers = a.defers
  | [], _ => ⟨rfl, rfl⟩
  | d :: ds, a => by
    obtain ⟨h1, h2⟩ := puts_size f ds (a.put (some d) (f d))
    exact ⟨by rw [puts, h1]; simp [Act.put], by rw [puts, h2]; rfl⟩
theorem puts_get (f : Tmp → Value) : ∀ (ds : List Tmp) (a : Act) (t : Tmp), (puts a ds f).tmps[t]? = if t ∈ ds ∧ t < a.tmps.size then some (f t) else a.tmps[t]?
  | [], _, _ => by simp [puts]
  | d :: ds, a, t => by
    rw [puts, puts_get f ds]
    have hs : (a.put (some d) (f d)).tmps.size = a.tmps.size := by simp [Act.put]
    rw [hs]
    by_cases h1 : t ∈ ds ∧ t < a.tmps.size
    · rw [if_pos h1, if_pos ⟨List.mem_cons_of_mem _ h1.1, h1.2⟩]
    · rw [if_neg h1]
      show (a.tmps.setIfInBounds d (f d))[t]? = _
      rw [Array.getElem?_setIfInBounds]
      by_cases hd : d = t
      · subst hd
        by_cases hlt : d < a.tmps.size
        · simp [hlt]
        · simp [hlt]
      · rw [if_neg hd, if_neg]
        intro ⟨h2, h3⟩
        rcases List.mem_cons.1 h2 with h2 | h2
        · exact hd h2.symm
        · exact h1 ⟨h2, h3⟩
theorem puts_is {a a' : Act} {ds : List Tmp} (hz : a'.tmps.size = a.tmps.size) (hd : a'.defers = a.defers) (ho : ∀ t, t ∉ ds → a'.tmps[t]? = a.tmps[t]?) : a' = puts a ds (fun d => a'.tmps.getD d undef) := by
  have ht : a'.tmps = (puts a ds (fun d => a'.tmps.getD d undef)).tmps := by
    apply Array.ext_getElem?
    intro t
    rw [puts_get]
    split
    · rename_i h
      simp [hz, h.2]
    · rename_i h
      by_cases h1 : t ∈ ds
      · have : a.tmps.size ≤ t := by
          rcases Nat.lt_or_ge t a.tmps.size with h2 | h2
          · exact absurd ⟨h1, h2⟩ h
          · exact h2
        rw [Array.getElem?_eq_none (by omega), Array.getElem?_eq_none (by omega)]
      · exact ho t h1
  have h2 := (puts_size (fun d => a'.tmps.getD d undef) ds a).2
  generalize puts a ds (fun d => a'.tmps.getD d undef) = b at ht h2
  rw [hd.symm] at h2
  cases a'
  cases b
  simp only at ht h2
  rw [ht, h2]
def dsts (ops : Array Oper) : List Tmp := ops.toList.filterMap (·.dst)
def tAt (T : List (Value → World → Prop)) (k : Nat) : Value → World → Prop := (T[k]?).getD fun _ _ => True
def deps (ops : Array Oper) (T : List (Value → World → Prop)) (f : Tmp → Value) (w : World) : List Edge → Prop
  | [] => True
  | e :: es => (match (ops[e.on]?).bind (·.dst) with | some d => tAt T e.on (f d) w | none => True) ∧ deps ops T f w es
def hop (P : Program) (ops : Array Oper) (T : List (Value → World → Prop)) (W : World) (a0 : Act) (o : Oper) (k : Nat) : Prop :=
  ∀ (f : Tmp → Value) (w : World), W.grownBy w none → deps ops T f w o.after.toList →
    wpList P ops (Only fun a' w' => ∃ v, a' = (puts a0 (dsts ops) f).put o.dst v ∧ w.grownBy w' none ∧ tAt T k v w') [o] (puts a0 (dsts ops) f) w
def hops (P : Program) (ops : Array Oper) (T : List (Value → World → Prop)) (W : World) (a0 : Act) : List Oper → Nat → Prop
  | [], _ => True
  | o :: l, k => hop P ops T W a0 o k ∧ hops P ops T W a0 l (k + 1)
def knows (T : List (Value → World → Prop)) (f : Tmp → Value) (w : World) : List Oper → Nat → Prop
  | [], _ => True
  | o :: l, k => (match o.dst with | some d => tAt T k (f d) w | none => True) ∧ knows T f w l (k + 1)
def stable (R : Value → World → Prop) : Prop := ∀ v w w', R v w → w.grownBy w' none → R v w'
def stables (T : List (Value → World → Prop)) : Prop := ∀ R ∈ T, stable R
theorem stable_at {T : List (Value → World → Prop)} (h : stables T) (k : Nat) : stable (tAt T k) := by
  unfold tAt
  cases hk : T[k]? with
  | none => exact fun _ _ _ _ _ => trivial
  | some R => exact h R (List.mem_of_getElem? hk)
def growB (ops : Array Oper) : Bool := (ops.toList.zipIdx.all fun (o, i) => o.after.all fun e => e.on < i) && decide (dsts ops).Nodup && (ops.toList.all fun o => o.after.all fun e => Region.binds .any e)
structure GInv (ops : Array Oper) (T : List (Value → World → Prop)) (W : World) (a0 : Act) (listed : Array Bool) (a : Act) (w : World) : Prop where
  g : W.grownBy w none
  sz : listed.size = ops.size
  tz : a.tmps.size = a0.tmps.size
  df : a.defers = a0.defers
  out : ∀ t, t ∉ dsts ops → a.tmps[t]? = a0.tmps[t]?
  facts : ∀ k o d, ops[k]? = some o → listed.getD k false = true → o.dst = some d → tAt T k (a.tmps.getD d undef) w
theorem dst_mem {ops : Array Oper} {k : Nat} {o : Oper} {d : Tmp} (h : ops[k]? = some o) (hd : o.dst = some d) : d ∈ dsts ops :=
  List.mem_filterMap.2 ⟨o, Array.mem_toList_iff.2 (Array.mem_of_getElem? h), hd⟩
theorem nodup_ne : ∀ {l : List Oper}, (l.filterMap (·.dst)).Nodup → ∀ {i j : Nat} {x y : Oper} {d : Tmp}, l[i]? = some x → l[j]? = some y → i ≠ j → x.dst = some d → y.dst ≠ some d
  | [], _, i, _, _, _, _, hx, _, _, _ => by simp at hx
  | o :: l, h, i, j, x, y, d, hx, hy, hne, hd => by
    intro hd'
    have hl : (l.filterMap (·.dst)).Nodup := by
      cases ho : o.dst with
      | none => simpa [List.filterMap_cons, ho] using h
      | some e => simp only [List.filterMap_cons, ho, List.nodup_cons] at h; exact h.2
    cases i with
    | zero =>
      cases j with
      | zero => exact hne rfl
      | succ j =>
        simp at hx hy
        subst hx
        simp only [List.filterMap_cons, hd, List.nodup_cons] at h
        exact h.1 (List.mem_filterMap.2 ⟨y, List.mem_of_getElem? hy, hd'⟩)
    | succ i =>
      cases j with
      | zero =>
        simp at hx hy
        subst hy
        simp only [List.filterMap_cons, hd', List.nodup_cons] at h
        exact h.1 (List.mem_filterMap.2 ⟨x, List.mem_of_getElem? hx, hd⟩)
      | succ j =>
        simp at hx hy
        exact nodup_ne hl hx hy (by omega) hd hd'
theorem hops_at {P : Program} {ops : Array Oper} {T : List (Value → World → Prop)} {W : World} {a0 : Act} : ∀ {l : List Oper} {k i : Nat} {o : Oper}, hops P ops T W a0 l k → l[i]? = some o → hop P ops T W a0 o (k + i)
  | [], _, _, _, _, h => by simp at h
  | x :: l, k, 0, o, h, hi => by simp at hi; subst hi; exact h.1
  | x :: l, k, i + 1, o, h, hi => by
    simp at hi
    have := hops_at (k := k + 1) (i := i) h.2 hi
    rwa [show k + 1 + i = k + (i + 1) by omega] at this
theorem knows_of {T : List (Value → World → Prop)} {f : Tmp → Value} {w : World} : ∀ {l : List Oper} {k : Nat}, (∀ i o d, l[i]? = some o → o.dst = some d → tAt T (k + i) (f d) w) → knows T f w l k
  | [], _, _ => trivial
  | o :: l, k, h => by
    refine ⟨?_, knows_of fun i o' d hi hd => ?_⟩
    · cases hd : o.dst with
      | none => trivial
      | some d => exact h 0 o d rfl hd
    · have := h (i + 1) o' d (by simpa using hi) hd
      rwa [show k + (i + 1) = k + 1 + i by omega] at this
theorem deps_of {ops : Array Oper} {T : List (Value → World → Prop)} {f : Tmp → Value} {w : World} : ∀ {l : List Edge}, (∀ e ∈ l, ∀ o d, ops[e.on]? = some o → o.dst = some d → tAt T e.on (f d) w) → deps ops T f w l
  | [], _ => trivial
  | e :: l, h => by
    refine ⟨?_, deps_of fun e' he' => h e' (List.mem_cons_of_mem _ he')⟩
    cases ho : ops[e.on]? with
    | none => trivial
    | some o =>
      cases hd : o.dst with
      | none => simp [hd]
      | some d => simp only [Option.bind_some, hd]; exact h e (List.mem_cons_self ..) o d ho hd
section
variable {P : Program} {ops : Array Oper} {T : List (Value → World → Prop)} {W : World} {a0 : Act} {Q : Exit → Act → World → Prop}
theorem GInv.step {listed : Array Bool} {a : Act} {w : World} (hB : growB ops = true) (hsz : ∀ d ∈ dsts ops, d < a0.tmps.size) (hst : stables T) (h : GInv ops T W a0 listed a w) {i : Nat} {o : Oper} (hi : ops[i]? = some o)
    {v : Value} {w' : World} (hg : w.grownBy w' none) (hv : tAt T i v w') : GInv ops T W a0 (listed.setIfInBounds i true) (a.put o.dst v) w' := by
  have hnd : (dsts ops).Nodup := by simp only [growB, Bool.and_eq_true, decide_eq_true_eq] at hB; exact hB.1.2
  refine ⟨gbT h.g hg, by simp [h.sz], ?_, ?_, fun t ht => ?_, fun k ok d hk hl hd => ?_⟩
  · rw [← h.tz]; cases o.dst <;> simp [Act.put]
  · rw [← h.df]; cases o.dst <;> rfl
  · rw [← h.out t ht]
    cases hd : o.dst with
    | none => rfl
    | some d =>
      have : d ≠ t := fun e => ht (e ▸ dst_mem hi hd)
      simp [Act.put, this]
  · by_cases hik : i = k
    · subst hik
      obtain rfl : ok = o := by rw [hi] at hk; injection hk with hk; exact hk.symm
      have h1 : d < a.tmps.size := by rw [h.tz]; exact hsz d (dst_mem hi hd)
      have hz : (a.put (some d) v).tmps.getD d undef = v := by simp [Act.put, h1]
      rw [hd, hz]; exact hv
    · have hl' : listed.getD k false = true := by
        simp only [Array.getD_eq_getD_getElem?, Array.getElem?_setIfInBounds, hik, if_false] at hl ⊢
        exact hl
      have hne : o.dst ≠ some d := fun e => nodup_ne hnd (l := ops.toList) (i := k) (j := i) (by simpa using hk) (by simpa using hi) (Ne.symm hik) hd e
      have : (a.put o.dst v).tmps.getD d undef = a.tmps.getD d undef := by
        cases hod : o.dst with
        | none => rfl
        | some e =>
          have : e ≠ d := fun x => hne (by rw [hod, x])
          simp [Act.put, this]
      rw [this]
      exact stable_at hst k _ _ _ (h.facts k ok d hk hl' hd) hg
theorem GInv.is {listed : Array Bool} {a : Act} {w : World} (h : GInv ops T W a0 listed a w) : a = puts a0 (dsts ops) (fun d => a.tmps.getD d undef) := puts_is h.tz h.df h.out
theorem growB_binds (hB : growB ops = true) {i : Nat} {o : Oper} (hi : ops[i]? = some o) : ∀ e ∈ o.after, Region.binds .any e = true ∧ e.on < i := by
  simp only [growB, Bool.and_eq_true, List.all_eq_true, Array.all_eq_true_iff_forall_mem] at hB
  intro e he
  have h1 := hB.2 o (Array.mem_toList_iff.2 (Array.mem_of_getElem? hi)) e he
  have h2 := hB.1.1 (o, i) (by rw [List.mem_zipIdx_iff_getElem?]; simpa using hi) e he
  exact ⟨h1, by simpa using h2⟩
theorem all_listed (hB : growB ops = true) {listed : Array Bool} (hz : listed.size = ops.size) (hr : Region.ready .any ops listed = []) : ∀ n k, k < n → k < ops.size → listed.getD k false = true
  | 0, _, h, _ => absurd h (Nat.not_lt_zero _)
  | n + 1, k, h, hk => by
    cases hl : listed.getD k false with
    | true => rfl
    | false =>
      exfalso
      have : k ∈ Region.ready .any ops listed := by
        refine mem_ready.2 ⟨?_, ops[k], Array.getElem?_eq_getElem hk, fun e he _ => ?_⟩
        · have hk' : k < listed.size := by omega
          simp [hk'] at hl ⊢
          exact hl
        · have h2 := growB_binds hB (Array.getElem?_eq_getElem hk) e he
          exact all_listed hB hz hr n e.on (by omega) (by omega)
      rw [hr] at this
      cases this
theorem few_set {listed : Array Bool} {i n : Nat} (h : listed.toList.countP (fun b => !b) ≤ n + 1) (hi : listed.getD i true = false) : (listed.setIfInBounds i true).toList.countP (fun b => !b) ≤ n := by
  have hlt : i < listed.size := by
    rcases Nat.lt_or_ge i listed.size with h1 | h1
    · exact h1
    · simp [Array.getElem?_eq_none h1] at hi
  have hv : listed[i] = false := by simpa [hlt] using hi
  rw [Array.toList_setIfInBounds, List.countP_set (by simpa using hlt)]
  simp only [Array.getElem_toList, hv, Bool.not_false, if_true, Bool.not_true, Bool.false_eq_true, if_false]
  omega
theorem grow_any (hB : growB ops = true) (hsz : ∀ d ∈ dsts ops, d < a0.tmps.size) (hst : stables T) (hh : hops P ops T W a0 ops.toList 0)
    (fin : ∀ (f : Tmp → Value) (w : World), W.grownBy w none → knows T f w ops.toList 0 → Q .normal (puts a0 (dsts ops) f) w) :
    ∀ (fuel : Nat) (listed : Array Bool) (a : Act) (w : World), GInv ops T W a0 listed a w → listed.toList.countP (fun b => !b) ≤ fuel → wpAny P .any ops Q fuel listed a w := by
  have done : ∀ (listed : Array Bool) (a : Act) (w : World), GInv ops T W a0 listed a w → Region.ready .any ops listed = [] → Q .normal a w := fun listed a w h hr => by
    rw [h.is]
    refine fin _ w h.g (knows_of fun i o d hi hd => ?_)
    rw [Nat.zero_add]
    have hi' : ops[i]? = some o := by simpa using hi
    have hk : i < ops.size := (Array.getElem?_eq_some_iff.1 hi').1
    exact h.facts i o d hi' (all_listed hB h.sz hr (i + 1) i (by omega) hk) hd
  intro fuel
  induction fuel with
  | zero =>
    intro listed a w h hc
    have hr : Region.ready .any ops listed = [] := by
      cases hr : Region.ready .any ops listed with
      | nil => rfl
      | cons i l =>
        exfalso
        have hi := (mem_ready.1 (show i ∈ Region.ready .any ops listed by rw [hr]; exact List.mem_cons_self ..)).1
        have h0 : listed.toList.countP (fun b => !b) = 0 := by omega
        rw [List.countP_eq_zero] at h0
        have hlt : i < listed.size := by
          rcases Nat.lt_or_ge i listed.size with h1 | h1
          · exact h1
          · simp [Array.getElem?_eq_none h1] at hi
        have hv : listed[i] = false := by simpa [hlt] using hi
        have := h0 listed[i] (Array.getElem_mem_toList hlt)
        simp [hv] at this
    exact ⟨hr, done listed a w h hr⟩
  | succ fuel ih =>
    intro listed a w h hc
    refine ⟨fun hr => done listed a w h hr, fun i hi => ?_⟩
    obtain ⟨hl, o, ho, hall⟩ := mem_ready.1 hi
    have hop := hops_at hh (i := i) (by simpa using ho)
    rw [Nat.zero_add] at hop
    have h1 := hop (fun d => a.tmps.getD d undef) w h.g (deps_of fun e he o' d ho' hd => h.facts e.on o' d ho' (hall e (by simpa using he) ((growB_binds hB ho e (by simpa using he)).1)) hd)
    rw [← h.is] at h1
    unfold wpOp
    simp only [ho]
    have next : ∀ a' w', (∃ v, a' = a.put o.dst v ∧ w.grownBy w' none ∧ tAt T i v w') → wpAny P .any ops Q fuel (listed.setIfInBounds i true) a' w' := fun a' w' ⟨v, ha, hg, hv⟩ => by
      subst ha
      exact ih _ _ _ (h.step hB hsz hst ho hg hv) (few_set hc hl)
    unfold wpList at h1
    split
    · rename_i hw
      rw [if_pos hw] at h1
      rcases h1 with h1 | h1
      · exact .inl (wp_only (Oper.wp_mono next h1))
      · exact (only_no h1.2).elim
    · rename_i hw
      rw [if_neg hw] at h1
      exact next _ _ h1
theorem region_grow {id : Nat} {w : World} (T : List (Value → World → Prop)) (hm : P.follows .mixedOrders = true) (hB : growB ops = true) (hsz : (dsts ops).all (fun d => d < a0.tmps.size) = true) (hst : stables T)
    (hh : hops P ops T w.drew a0 ops.toList 0)
    (fin : ∀ (f : Tmp → Value) (w' : World), w.drew.grownBy w' none → knows T f w' ops.toList 0 → Q .normal (puts a0 (dsts ops) f) w') : (Code.region id ops true).wp P Q a0 w := by
  refine wp_region_any hm (grow_any (W := w.drew) (T := T) hB (fun d hd => by simpa using List.all_eq_true.1 hsz d hd) hst hh fin ops.size _ a0 _ ⟨gbR _ _, by simp, rfl, rfl, fun _ _ => rfl, ?_⟩ ?_)
  · intro k o d hk hl hd
    simp only [Array.getD_eq_getD_getElem?, Array.getElem?_replicate] at hl
    split at hl <;> simp at hl
  · have := List.countP_le_length (p := fun b : Bool => !b) (l := (Array.replicate ops.size false).toList)
    simpa using this
end
def isV (x : Value) : Value → World → Prop := fun v _ => v = x
theorem isV_st (x : Value) : stable (isV x) := fun _ _ _ h _ => h
def Blk (w : World) (g : Nat) (t : TypeId) (cs : Array Value) : Prop := w.heap[g]? = some (.cells cs t (0, 0))
section
variable {w w' : World} {g : Nat} {t : TypeId} {cs : Array Value}
theorem Blk.lt (h : Blk w g t cs) : g < w.heap.size := (Array.getElem?_eq_some_iff.1 h).1
theorem Blk.cell (h : Blk w g t cs) (i : Nat) : w.cell? ⟨g, i, none⟩ = cs[i]? := cell_of_row w g i cs t (0, 0) h
theorem Blk.frozen (h : Blk w g t cs) (i : Nat) : w.frozen? ⟨g, i, none⟩ = false := by
  unfold Blk at h
  simp [World.frozen?, h]
theorem Blk.new (w : World) (t : TypeId) (cs : Array Value) : Blk (w.alloc (.cells cs t)) w.heap.size t cs := heap_alloc_new w _
theorem Blk.grown {r : Option Nat} (h : Blk w g t cs) (hb : w.grownBy w' r) (hg : some g ≠ r) : Blk w' g t cs := (hb.block g h.lt hg).trans h
theorem Blk.grow (h : Blk w g t cs) (hb : w.grownBy w' none) : Blk w' g t cs := h.grown hb (by simp)
theorem Blk.set_ (h : Blk w g t cs) (i : Nat) (u : Value) : Blk (w.setCell ⟨g, i, none⟩ u) g t (cs.setIfInBounds i u) := by
  unfold Blk at h ⊢
  simp [World.setCell, Array.getElem?_modify, h]
end
end Go.Proofs.Ythdfkiaoahpjpaa
