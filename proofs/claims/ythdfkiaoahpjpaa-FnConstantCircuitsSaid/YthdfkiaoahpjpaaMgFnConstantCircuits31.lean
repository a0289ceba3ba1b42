/-
  Readers and one chain, whose last operation waits for all others at any distance (printed by wip/gen_regt.py).
-/
import Derived.Test.YthdfkiaoahpjpaaMgFnConstantCircuits7
import Derived.Test.YthdfkiaoahpjpaaMgFnConstantCircuits8
namespace Go.Proofs.Ythdfkiaoahpjpaa
open Go.RowKit
set_option linter.unusedVariables false
set_option linter.unusedSimpArgs false
def chainBT (ops : Array Oper) (q : List Kd) (ts : List (List Tmp)) : Bool :=
  regB ops [] && decide (0 < (chainL ops.size q).length) &&
  ((List.range (chainL ops.size q).length).all fun j => j == 0 || (waits ops ((chainL ops.size q)[j]?.getD 0)).contains ((chainL ops.size q)[j - 1]?.getD 0)) &&
  ((List.range ops.size).all fun k => k == ((chainL ops.size q)[(chainL ops.size q).length - 1]?.getD 0) || aheadB ops ((chainL ops.size q)[(chainL ops.size q).length - 1]?.getD 0) k) &&
  ((List.range (chainL ops.size q).length).all fun j => ((ts[j]?).getD []).all fun t => ((chainL ops.size q).take j).any fun k => dstAt ops k == some t)
structure ChainOkT (ops : Array Oper) (q : List Kd) (I : List Fact) : Prop where
  reg : RegOk ops []
  pos : 0 < (chainL ops.size q).length
  link : ∀ j k i o, (chainL ops.size q)[j + 1]? = some k → (chainL ops.size q)[j]? = some i → ops[k]? = some o → ∃ e ∈ bindE o, e.on = i
  last : ∀ l o, (chainL ops.size q)[(chainL ops.size q).length - 1]? = some l → ops[l]? = some o → ∀ k, k < ops.size → aheadB ops l k = true
  sup : ∀ j, j < (chainL ops.size q).length → ∀ t ∈ (fAt I j).ts, ∃ i k, i < j ∧ (chainL ops.size q)[i]? = some k ∧ dstAt ops k = some t
section
variable {P : Program} {ops : Array Oper} {q : List Kd} {I : List Fact} {W : World} {a0 : Act} {S : Nat → Prop} {Q : Exit → Act → World → Prop}
theorem ChainOkT.of (h : chainBT ops q (I.map (·.ts)) = true) : ChainOkT ops q I := by
  unfold chainBT at h
  simp only [Bool.and_eq_true, decide_eq_true_eq] at h
  obtain ⟨⟨⟨⟨h1, h2⟩, h3⟩, h4⟩, h5⟩ := h
  refine ⟨RegOk.of (T := []) h1, h2, fun j k i o hk hi ho => ?_, fun l o hl ho k hk => ?_, fun j hj t ht => ?_⟩
  · have := List.all_eq_true.1 h3 (j + 1) (by simpa using (List.getElem?_eq_some_iff.1 hk).1)
    rw [hk, Nat.add_sub_cancel, hi] at this
    simp only [Option.getD_some, Bool.or_eq_true] at this
    rcases this with h | h
    · simp at h
    · exact waits_mem ho h
  · have := List.all_eq_true.1 h4 k (by simpa using hk)
    rw [hl] at this
    simp only [Option.getD_some, Bool.or_eq_true] at this
    rcases this with h | h
    · have : k = l := by simpa using h
      subst this
      unfold aheadB
      simp
    · exact h
  · have hts : ((I.map (·.ts))[j]?).getD [] = (fAt I j).ts := by
      unfold fAt
      rw [List.getElem?_map]
      cases I[j]? <;> rfl
    have h6 := List.all_eq_true.1 h5 j (by simp; omega)
    rw [hts] at h6
    have h7 := List.all_eq_true.1 h6 t ht
    obtain ⟨k, hk, hd⟩ := List.any_eq_true.1 h7
    obtain ⟨i, hi⟩ := List.mem_iff_getElem?.1 hk
    rw [List.getElem?_take] at hi
    split at hi
    · rename_i hij
      exact ⟨i, k, hij, hi, by simpa using hd⟩
    · cases hi
theorem GInvC.moreT {listed : Array Bool} {a : Act} {w : World} {b : Nat} (K : ChainOkT ops q I) (h : GInvC ops q I W a0 S b listed a w) {i : Nat} (hi : i < ops.size) (hun : listed.getD i false = false) : b < (chainL ops.size q).length := by
  rcases Nat.lt_or_ge b (chainL ops.size q).length with h1 | h1
  · exact h1
  · exfalso
    have hp := K.pos
    have hl : (chainL ops.size q)[(chainL ops.size q).length - 1]? = some ((chainL ops.size q)[(chainL ops.size q).length - 1]'(by omega)) := List.getElem?_eq_getElem (by omega)
    have h2 := (h.chn _ _ hl).2 (by omega)
    have h3 := (chain_mem hl).1
    have h4 := K.last _ _ hl (Array.getElem?_eq_getElem h3) i hi
    rw [ahead_un h.closed hun h4] at h2
    cases h2
theorem GInvC.stepT {listed : Array Bool} {a : Act} {w : World} {b b' : Nat} (K : ChainOkT ops q I) (hO : flOk I q) (hsz : ∀ d ∈ dsts ops, d < a0.tmps.size) (h : GInvC ops q I W a0 S b listed a w) {i : Nat} {o : Oper} (hi : ops[i]? = some o)
    (hun : listed.getD i false = false) (hwait : ∀ e ∈ bindE o, listed.getD e.on false = true) {v : Value} {w' : World}
    (hc : (kAt q i = .rd v ∧ w' = w ∧ b' = b) ∨ (∃ R, kAt q i = .fl R ∧ w.grownBy w' none ∧ R v w' ∧ b' = b) ∨ (kAt q i = .ch ∧ cntC q i = b ∧ b' = b + 1 ∧ (fAt I (b + 1)).at_ (upd (fun d => a.tmps.getD d undef) o.dst v) w' ∧ (b + 1 < (chainL ops.size q).length → Chg S w w' ∧ keepsC ops (fun d => a.tmps.getD d undef) w w' q 0))) :
    GInvC ops q I W a0 S b' (listed.setIfInBounds i true) (a.put o.dst v) w' := by
  have his : i < ops.size := (Array.getElem?_eq_some_iff.1 hi).1
  have hbl := h.moreT K his hun
  have hdlt : ∀ d, o.dst = some d → d < a.tmps.size := fun d hd => by rw [h.tz]; exact hsz d (dst_mem hi hd)
  have hil : i < listed.size := by rw [h.sz]; exact his
  have lset : ∀ k, k ≠ i → (listed.setIfInBounds i true).getD k false = listed.getD k false := fun k hk => by
    simp only [Array.getD_eq_getD_getElem?, Array.getElem?_setIfInBounds, Ne.symm hk, if_false]
  have lself : (listed.setIfInBounds i true).getD i false = true := by simp [hil]
  have lold : ∀ k, listed.getD k false = true → (listed.setIfInBounds i true).getD k false = true := fun k hk => by
    by_cases e : k = i
    · subst e; exact lself
    · rw [lset k e]; exact hk
  have hf : (fun d => (a.put o.dst v).tmps.getD d undef) = upd (fun d => a.tmps.getD d undef) o.dst v := by
    funext t; exact put_get a o.dst v t hdlt
  have hne : ∀ k d, k ≠ i → dstAt ops k = some d → o.dst ≠ some d := fun k d hk hd hd' => by
    unfold dstAt at hd
    cases hko : ops[k]? with
    | none => rw [hko] at hd; cases hd
    | some ok =>
      rw [hko] at hd
      exact nodup_ne K.reg.nodup (l := ops.toList) (i := k) (j := i) (by simpa using hko) (by simpa using hi) hk hd hd'
  have hupd : ∀ k d, k ≠ i → dstAt ops k = some d → (a.put o.dst v).tmps.getD d undef = a.tmps.getD d undef := fun k d hk hd => by
    have h9 : (a.put o.dst v).tmps.getD d undef = upd (fun d => a.tmps.getD d undef) o.dst v d := congrFun hf d
    rw [h9, upd_get _ _ _ _ (hne k d hk hd)]
  have hnc : b' = b ∧ kAt q i ≠ .ch ∨ b' = b + 1 ∧ kAt q i = .ch ∧ cntC q i = b := by
    rcases hc with ⟨h1, _, h2⟩ | ⟨R, h1, _, _, h2⟩ | ⟨h1, h2, h3, _, _⟩
    · exact .inl ⟨h2, by rw [h1]; simp⟩
    · exact .inl ⟨h2, by rw [h1]; simp⟩
    · exact .inr ⟨h3, h1, h2⟩
  refine ⟨by simp [h.sz], ?_, ?_, fun t ht => ?_, fun k ok hk hl e he => ?_, fun j k hj => ?_, ?_, fun hlt => ?_, ?_, fun k d u hq hl hd => ?_, fun hlt k d R hq hl hd => ?_⟩
  · rw [← h.tz]; cases o.dst <;> simp [Act.put]
  · rw [← h.df]; cases o.dst <;> rfl
  · rw [← h.out t ht]
    cases hd : o.dst with
    | none => rfl
    | some d =>
      have : d ≠ t := fun e => ht (e ▸ dst_mem hi hd)
      simp [Act.put, this]
  · by_cases hik : k = i
    · subst hik
      obtain rfl : ok = o := by rw [hi] at hk; injection hk with hk; exact hk.symm
      exact lold _ (hwait e he)
    · rw [lset k hik] at hl
      exact lold _ (h.closed k ok hk hl e he)
  · rcases hnc with ⟨rfl, h1⟩ | ⟨rfl, h1, h2⟩
    · have hki : k ≠ i := fun e => h1 (by rw [← e]; exact (chain_mem hj).2.1)
      rw [lset k hki]
      exact h.chn j k hj
    · by_cases hki : k = i
      · subst hki
        have := (chain_mem hj).2.2
        simp only [lself, true_iff]
        omega
      · rw [lset k hki, h.chn j k hj]
        have h3 : j ≠ b := fun e => hki (by
          have h4 := chain_at his h1
          rw [h2, ← e, hj] at h4
          injection h4)
        omega
  · rcases hnc with ⟨rfl, _⟩ | ⟨rfl, _, _⟩
    · exact h.le
    · omega
  · rcases hc with ⟨_, rfl, rfl⟩ | ⟨_, _, h2, _, rfl⟩ | ⟨_, _, rfl, _, h5⟩
    · exact h.ch hlt
    · exact (h.ch hlt).trans (Chg.of h2 fun g hg' => by simp at hg')
    · exact (h.ch hbl).trans (h5 hlt).1
  · rw [hf]
    have same : kAt q i ≠ .ch → ∀ c, b = c → (fAt I c).ts.map (upd (fun d => a.tmps.getD d undef) o.dst v) = (fAt I c).ts.map (fun d => a.tmps.getD d undef) := fun h1 c hbc => List.map_congr_left fun t ht => by
      obtain ⟨i', k', hi', hk', hd'⟩ := K.sup c (hbc ▸ hbl) t ht
      refine upd_get _ _ _ _ (hne k' t (fun e => h1 ?_) hd')
      rw [← e]
      exact (chain_mem hk').2.1
    rcases hc with ⟨h1, rfl, rfl⟩ | ⟨R, h1, h2, _, rfl⟩ | ⟨_, _, rfl, h4, _⟩
    · unfold Fact.at_
      rw [same (by rw [h1]; simp) _ rfl]
      exact h.inv
    · unfold Fact.at_
      rw [same (by rw [h1]; simp) _ rfl]
      exact stableF_at (flOk_at hO h1).2 _ _ _ _ h.inv h2
    · exact h4
  · by_cases hki : k = i
    · subst hki
      rcases hc with ⟨h1, _, _⟩ | ⟨R, h1, _, _, _⟩ | ⟨h1, _, _, _, _⟩
      · rw [h1] at hq
        injection hq with hq
        subst hq
        have h9 : (a.put o.dst v).tmps.getD d undef = upd (fun d => a.tmps.getD d undef) o.dst v d := congrFun hf d
        unfold dstAt at hd
        rw [hi] at hd
        have hd' : o.dst = some d := hd
        rw [h9, hd', upd_some, if_pos rfl]
      · rw [h1] at hq; cases hq
      · rw [h1] at hq; cases hq
    · rw [lset k hki] at hl
      rw [hupd k d hki hd]
      exact h.qv k d u hq hl hd
  · by_cases hki : k = i
    · subst hki
      rcases hc with ⟨h1, _, _⟩ | ⟨R', h1, _, h3, _⟩ | ⟨h1, _, _, _, _⟩
      · rw [h1] at hq; cases hq
      · rw [h1] at hq
        injection hq with hq
        subst hq
        have h9 : (a.put o.dst v).tmps.getD d undef = upd (fun d => a.tmps.getD d undef) o.dst v d := congrFun hf d
        unfold dstAt at hd
        rw [hi] at hd
        have hd' : o.dst = some d := hd
        rw [h9, hd', upd_some, if_pos rfl]
        exact h3
      · rw [h1] at hq; cases hq
    · rw [lset k hki] at hl
      rw [hupd k d hki hd]
      have h6 := h.fv hbl k d R hq hl hd
      rcases hc with ⟨_, rfl, _⟩ | ⟨R', _, h2, _, _⟩ | ⟨_, _, rfl, _, h5⟩
      · exact h6
      · exact (flOk_at hO hq).1 _ _ _ h6 h2
      · exact keepsC_at (h5 hlt).2 hq (by rw [Nat.zero_add]; exact hd) h6
theorem regC_anyT (K : ChainOkT ops q I) (hO : flOk I q) (hsz : ∀ d ∈ dsts ops, d < a0.tmps.size) (hh : hopsC P ops q I W a0 S (chainL ops.size q).length ops.toList 0 0)
    (fin : ∀ (f : Tmp → Value) (w : World), (fAt I (chainL ops.size q).length).at_ f w → (∀ k d v, kAt q k = .rd v → dstAt ops k = some d → f d = v) → Q .normal (puts a0 (dsts ops) f) w) :
    ∀ (fuel : Nat) (b : Nat) (listed : Array Bool) (a : Act) (w : World), GInvC ops q I W a0 S b listed a w → listed.toList.countP (fun b => !b) ≤ fuel → wpAny P .any ops Q fuel listed a w := by
  have done : ∀ (b : Nat) (listed : Array Bool) (a : Act) (w : World), GInvC ops q I W a0 S b listed a w → Region.ready .any ops listed = [] → Q .normal a w := fun b listed a w h hr => by
    have hall : ∀ k, k < ops.size → listed.getD k false = true := fun k hk => all_listedF K.reg h.sz hr (k + 1) k (by omega) hk
    have hp := K.pos
    have hl : (chainL ops.size q)[(chainL ops.size q).length - 1]? = some ((chainL ops.size q)[(chainL ops.size q).length - 1]'(by omega)) := List.getElem?_eq_getElem (by omega)
    have h2 := (h.chn _ _ hl).1 (hall _ (chain_mem hl).1)
    have h3 := h.le
    obtain rfl : b = (chainL ops.size q).length := by omega
    rw [h.is]
    refine fin _ w h.inv fun k d v hq hd => h.qv k d v hq (hall k ?_) hd
    unfold dstAt at hd
    cases hk : ops[k]? with
    | none => rw [hk] at hd; cases hd
    | some _ => exact (Array.getElem?_eq_some_iff.1 hk).1
  intro fuel
  induction fuel with
  | zero =>
    intro b listed a w h hc
    have hr : Region.ready .any ops listed = [] := by
      cases hr : Region.ready .any ops listed with
      | nil => rfl
      | cons i l =>
        exfalso
        have hi := (mem_ready.1 (show i ∈ Region.ready .any ops listed by rw [hr]; exact List.mem_cons_self ..)).1
        have h0 : listed.toList.countP (fun b => !b) = 0 := by omega
        rw [List.countP_eq_zero] at h0
        have hlt : i < listed.size := by
          rcases Nat.lt_or_ge i listed.size with h1 | h1
          · exact h1
          · simp [Array.getElem?_eq_none h1] at hi
        have hv : listed[i] = false := by simpa [hlt] using hi
        have := h0 listed[i] (Array.getElem_mem_toList hlt)
        simp [hv] at this
    exact ⟨hr, done b listed a w h hr⟩
  | succ fuel ih =>
    intro b listed a w h hc
    refine ⟨fun hr => done b listed a w h hr, fun i hi => ?_⟩
    obtain ⟨hl, o, ho, hall⟩ := mem_ready.1 hi
    have hwait : ∀ e ∈ bindE o, listed.getD e.on false = true := fun e he => by
      obtain ⟨h1, h2⟩ := bind_mem.1 he
      exact hall e (by simpa using h1) h2
    have his : i < ops.size := (Array.getElem?_eq_some_iff.1 ho).1
    have hun : listed.getD i false = false := by
      have hlt : i < listed.size := by rw [h.sz]; exact his
      simp [hlt] at hl ⊢
      exact hl
    have hbl := h.moreT K his hun
    have hop := hopsC_at (k := 0) hh (i := i) (by simpa using ho)
    rw [Nat.zero_add] at hop
    have hdeps : depsC ops q (fun d => a.tmps.getD d undef) w (bindE o) := depsC_of (fun e he v d hq hd => h.qv e.on d v hq (hwait e he) hd) (fun e he R d hq hd => h.fv hbl e.on d R hq (hwait e he) hd)
    unfold wpOp
    simp only [ho]
    cases hq : kAt q i with
    | rd v =>
      unfold hopC at hop
      rw [hq] at hop
      unfold hopK at hop
      have h1 := hop (fun d => a.tmps.getD d undef) w (h.ch hbl) hdeps
      rw [← h.is] at h1
      have next : ∀ a' w', (a' = a.put o.dst v ∧ w' = w) → wpAny P .any ops Q fuel (listed.setIfInBounds i true) a' w' := fun a' w' ⟨ha, hw⟩ => by
        subst ha; subst hw
        exact ih b _ _ _ (h.stepT K hO hsz ho hun hwait (.inl ⟨hq, rfl, rfl⟩)) (few_set hc hl)
      unfold wpList at h1
      split
      · rename_i hw
        rw [if_pos hw] at h1
        rcases h1 with h1 | h1
        · exact .inl (wp_only (Oper.wp_mono next h1))
        · exact (only_no h1.2).elim
      · rename_i hw
        rw [if_neg hw] at h1
        exact next _ _ h1
    | fl R =>
      unfold hopC at hop
      rw [hq] at hop
      unfold hopK at hop
      have h1 := hop (fun d => a.tmps.getD d undef) w (h.ch hbl) hdeps
      rw [← h.is] at h1
      have next : ∀ a' w', (∃ v, a' = a.put o.dst v ∧ R v w' ∧ w.grownBy w' none) → wpAny P .any ops Q fuel (listed.setIfInBounds i true) a' w' := fun a' w' ⟨v, ha, hv, hg⟩ => by
        subst ha
        exact ih b _ _ _ (h.stepT K hO hsz ho hun hwait (.inr (.inl ⟨R, hq, hg, hv, rfl⟩))) (few_set hc hl)
      unfold wpList at h1
      split
      · rename_i hw
        rw [if_pos hw] at h1
        rcases h1 with h1 | h1
        · exact .inl (wp_only (Oper.wp_mono next h1))
        · exact (only_no h1.2).elim
      · rename_i hw
        rw [if_neg hw] at h1
        exact next _ _ h1
    | ch =>
      have hci : cntC q i = b := by
        have h4 := chain_at his hq
        rcases Nat.lt_trichotomy (cntC q i) b with h5 | h5 | h5
        · have := (h.chn _ _ h4).2 h5
          rw [hun] at this; cases this
        · exact h5
        · exfalso
          have h6 := (List.getElem?_eq_some_iff.1 h4).1
          have h7 : (chainL ops.size q)[cntC q i - 1]? = some ((chainL ops.size q)[cntC q i - 1]'(by omega)) := List.getElem?_eq_getElem (by omega)
          obtain ⟨e, he, h8⟩ := K.link (cntC q i - 1) i _ o (by rw [show cntC q i - 1 + 1 = cntC q i by omega]; exact h4) h7 ho
          have h9 := hwait e he
          rw [h8] at h9
          have := (h.chn _ _ h7).1 h9
          omega
      unfold hopC at hop
      rw [hq, hci] at hop
      unfold hopK at hop
      have h1 := hop (fun d => a.tmps.getD d undef) w (h.ch hbl) h.inv hdeps
      rw [← h.is] at h1
      have next : ∀ a' w', (∃ v, a' = a.put o.dst v ∧ (fAt I (b + 1)).at_ (upd (fun d => a.tmps.getD d undef) o.dst v) w' ∧ (b + 1 < (chainL ops.size q).length → Chg S w w' ∧ keepsC ops (fun d => a.tmps.getD d undef) w w' q 0)) → wpAny P .any ops Q fuel (listed.setIfInBounds i true) a' w' := fun a' w' ⟨v, ha, hv, hg⟩ => by
        subst ha
        exact ih (b + 1) _ _ _ (h.stepT K hO hsz ho hun hwait (.inr (.inr ⟨hq, hci, rfl, hv, hg⟩))) (few_set hc hl)
      unfold wpList at h1
      split
      · rename_i hw
        rw [if_pos hw] at h1
        rcases h1 with h1 | h1
        · exact .inl (wp_only (Oper.wp_mono next h1))
        · exact (only_no h1.2).elim
      · rename_i hw
        rw [if_neg hw] at h1
        exact next _ _ h1
theorem region_chainT {id : Nat} {w : World} (q : List Kd) (S : Nat → Prop) (I : List Fact) (hm : P.follows .mixedOrders = true) (hB : chainBT ops q (I.map (·.ts)) = true) (hsz : (dsts ops).all (fun d => d < a0.tmps.size) = true)
    (n : Nat) (hn : (chainL ops.size q).length = n) (hO : flOk I q)
    (h0 : (fAt I 0).R [] w.drew) (h0' : (fAt I 0).ts = [])
    (hh : hopsK P ops q I w.drew a0 S n ops.toList q 0)
    (fin : ∀ (f : Tmp → Value) (w' : World), (fAt I n).at_ f w' → knowsC ops f q 0 → Q .normal (puts a0 (dsts ops) f) w') : (Code.region id ops true).wp P Q a0 w := by
  subst hn
  refine wp_region_any hm (regC_anyT (W := w.drew) (ChainOkT.of hB) hO (fun d hd => by simpa using List.all_eq_true.1 hsz d hd) (hopsC_ofK (k := 0) hh) (fun f w' h1 h2 => fin f w' h1 (knowsC_of fun i d v h3 h4 => h2 i d v h3 (by simpa using h4))) ops.size 0 _ a0 _ ⟨by simp, rfl, rfl, fun _ _ => rfl, ?_, ?_, Nat.zero_le _, fun _ => Chg.refl _ _, ?_, ?_, ?_⟩ ?_)
  · intro k o hk hl
    simp only [Array.getD_eq_getD_getElem?, Array.getElem?_replicate] at hl
    split at hl <;> simp at hl
  · intro j k hj
    simp only [Array.getD_eq_getD_getElem?, Array.getElem?_replicate]
    constructor
    · intro h; split at h <;> simp at h
    · intro h; omega
  · unfold Fact.at_; rw [h0']; exact h0
  · intro k d v _ hl
    simp only [Array.getD_eq_getD_getElem?, Array.getElem?_replicate] at hl
    split at hl <;> simp at hl
  · intro _ k d v _ hl
    simp only [Array.getD_eq_getD_getElem?, Array.getElem?_replicate] at hl
    split at hl <;> simp at hl
  · have := List.countP_le_length (p := fun b : Bool => !b) (l := (Array.replicate ops.size false).toList)
    simpa using this
end
end Go.Proofs.Ythdfkiaoahpjpaa
