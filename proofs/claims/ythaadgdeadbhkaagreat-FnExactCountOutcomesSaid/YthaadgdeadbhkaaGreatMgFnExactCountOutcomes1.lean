/-
 A region that draws its order,whose operations only let the world grow (loads,calls that make memory,moves): one statement an operation,whatever order comes up.
 T: for each operation what is known of the value that it leaves in its temporary,stable under growth of the world. The last operation may be another (a store): it must wait for all the others.
-/
import Derived.Test.YthaadgdeadbhkaaGreatMgFnExactCountOutcomes0
import Derived.Still
import Derived.Laws.Rows
open Go.RowKit
set_option linter.unusedVariables false
set_option linter.unusedSimpArgs false
namespace Go.Proofs.YthaadgdeadbhkaaGreat
def Only (K:Act→World→Prop):Exit→Act→World→Prop
 | .normal,a,w=>K a w
 | _,_,_=>False
theorem XI {K:Act→World→Prop}:¬LetsOut (Only K):=fun ⟨_,_,h⟩=>h
theorem We {P:Program} {o:Oper} {a:Act} {w:World} {K K':Act→World→Prop} {Q:Exit→Act→World→Prop} (h:o.wp P a w K (Only K')):o.wp P a w K Q:=by
 unfold Oper.wp at *;generalize (execOp a.eval o).run P w=r at *
 cases r with
 | ok n w' =>
  cases n <;> simp only [Oper.upon] at h ⊢ <;>
   first
    | exact h
    | exact Calls.mono h (fun e w'' he=>by cases e <;> first | exact he | exact False.elim he | exact (XI he).elim)
 | halt x w'=>cases x <;> simp only [Oper.upon] at h ⊢ <;> exact h.elim
def puts (a:Act):List Tmp→(Tmp→Value)→Act
 | [],_=>a
 | d :: ds,f=>puts (a.put (some d) (f d)) ds f
theorem puts_size (f:Tmp→Value):∀(ds:List Tmp) (a:Act),(puts a ds f).tmps.size=a.tmps.size∧(puts a ds f).defers=a.defers
 | [],_=>⟨rfl,rfl⟩
 | d :: ds,a=>by
  obtain ⟨h1,h2⟩:=puts_size f ds (a.put (some d) (f d));exact ⟨by rw [puts,h1];simp [Act.put],by rw [puts,h2];rfl⟩
theorem puts_get (f:Tmp→Value):∀(ds:List Tmp) (a:Act) (t:Tmp),(puts a ds f).tmps[t]?=if t∈ds∧t<a.tmps.size then some (f t) else a.tmps[t]?
 | [],_,_=>by simp [puts]
 | d :: ds,a,t=>by
  rw [puts,puts_get f ds];have hs:(a.put (some d) (f d)).tmps.size=a.tmps.size:=by simp [Act.put]
  rw [hs]
  by_cases h1:t∈ds∧t<a.tmps.size
  ·rw [if_pos h1,if_pos ⟨List.mem_cons_of_mem _ h1.1,h1.2⟩]
  ·rw [if_neg h1]
   show (a.tmps.setIfInBounds d (f d))[t]?=_
   rw [Array.getElem?_setIfInBounds]
   by_cases hd:d=t
   ·subst hd
    by_cases hlt:d<a.tmps.size
    ·simp [hlt]
    ·simp [hlt]
   ·rw [if_neg hd,if_neg]
    intro ⟨h2,h3⟩
    rcases List.mem_cons.1 h2 with h2 | h2
    ·exact hd h2.symm
    ·exact h1 ⟨h2,h3⟩
theorem Ub {a a':Act} {ds:List Tmp} (hz:a'.tmps.size=a.tmps.size) (hd:a'.defers=a.defers) (ho:∀t,t∉ds→a'.tmps[t]?=a.tmps[t]?):a'=puts a ds (fun d=>a'.tmps.getD d undef):=by
 have ht:a'.tmps=(puts a ds (fun d=>a'.tmps.getD d undef)).tmps:=by
  apply Array.ext_getElem?;intro t;rw [puts_get]
  split
  ·rename_i h
   simp [hz,h.2]
  ·rename_i h
   by_cases h1:t∈ds
   ·have:a.tmps.size≤t:=by
     rcases Nat.lt_or_ge t a.tmps.size with h2 | h2
     ·exact absurd ⟨h1,h2⟩ h
     ·exact h2
    rw [Array.getElem?_eq_none (by omega),Array.getElem?_eq_none (by omega)]
   ·exact ho t h1
 have h2:=(puts_size (fun d=>a'.tmps.getD d undef) ds a).2;generalize puts a ds (fun d=>a'.tmps.getD d undef)=b at ht h2;rw [hd.symm] at h2
 cases a'
 cases b
 simp only at ht h2;rw [ht,h2]
def dsts (ops:Array Oper):List Tmp:=ops.toList.filterMap (·.dst)
def tAt (T:List (Value→World→Prop)) (k:Nat):Value→World→Prop:=(T[k]?).getD fun _ _=>True
def deps (ops:Array Oper) (T:List (Value→World→Prop)) (f:Tmp→Value) (w:World):List Edge→Prop
 | []=>True
 | e :: es=>(match (ops[e.on]?).bind (·.dst) with | some d=>tAt T e.on (f d) w | none=>True)∧deps ops T f w es
def hop (P:Program) (ops:Array Oper) (T:List (Value→World→Prop)) (W:World) (a0:Act) (o:Oper) (k:Nat):Prop :=
 ∀(f:Tmp→Value) (w:World),W.grownBy w none→deps ops T f w o.after.toList →
  wpList P ops (Only fun a' w'=>∃v,a'=(puts a0 (dsts ops) f).put o.dst v∧w.grownBy w' none∧tAt T k v w') [o] (puts a0 (dsts ops) f) w
def hops (P:Program) (ops:Array Oper) (T:List (Value→World→Prop)) (W:World) (a0:Act):List Oper→Nat→Prop
 | [],_=>True
 | o :: l,k=>hop P ops T W a0 o k∧hops P ops T W a0 l (k+1)
def knows (T:List (Value→World→Prop)) (f:Tmp→Value) (w:World):List Oper→Nat→Prop
 | [],_=>True
 | o :: l,k=>(match o.dst with | some d=>tAt T k (f d) w | none=>True)∧knows T f w l (k+1)
def stable (R:Value→World→Prop):Prop:=∀v w w',R v w→w.grownBy w' none→R v w'
def ZM (T:List (Value→World→Prop)):Prop:=∀R∈T,stable R
theorem stable_at {T:List (Value→World→Prop)} (h:ZM T) (k:Nat):stable (tAt T k):=by
 unfold tAt
 cases hk:T[k]? with
 | none=>exact fun _ _ _ _ _=>trivial
 | some R=>exact h R (List.mem_of_getElem? hk)
def growB (ops:Array Oper):Bool:=(ops.toList.zipIdx.all fun (o,i)=>o.after.all fun e=>e.on<i)&&decide (dsts ops).Nodup&&(ops.toList.all fun o=>o.after.all fun e=>Region.binds .any e)
structure GInv (ops:Array Oper) (T:List (Value→World→Prop)) (W:World) (a0:Act) (listed:Array Bool) (a:Act) (w:World):Prop where
 g:W.grownBy w none
 sz:listed.size=ops.size
 tz:a.tmps.size=a0.tmps.size
 df:a.defers=a0.defers
 out:∀t,t∉dsts ops→a.tmps[t]?=a0.tmps[t]?
 facts:∀k o d,ops[k]?=some o→listed.getD k false=true→o.dst=some d→tAt T k (a.tmps.getD d undef) w
theorem YM {ops:Array Oper} {k:Nat} {o:Oper} {d:Tmp} (h:ops[k]?=some o) (hd:o.dst=some d):d∈dsts ops :=
 List.mem_filterMap.2 ⟨o,Array.mem_toList_iff.2 (Array.mem_of_getElem? h),hd⟩
theorem Ym:∀{l:List Oper},(l.filterMap (·.dst)).Nodup→∀{i j:Nat} {x y:Oper} {d:Tmp},l[i]?=some x→l[j]?=some y→i≠j→x.dst=some d→y.dst≠some d
 | [],_,i,_,_,_,_,hx,_,_,_=>by simp at hx
 | o :: l,h,i,j,x,y,d,hx,hy,hne,hd=>by
  intro hd'
  have hl:(l.filterMap (·.dst)).Nodup:=by
   cases ho:o.dst with
   | none=>simpa [zB,ho] using h
   | some e=>simp only [zB,ho,List.nodup_cons] at h;exact h.2
  cases i with
  | zero =>
   cases j with
   | zero=>exact hne rfl
   | succ j =>
    simp at hx hy;subst hx;simp only [zB,hd,List.nodup_cons] at h;exact h.1 (List.mem_filterMap.2 ⟨y,List.mem_of_getElem? hy,hd'⟩)
  | succ i =>
   cases j with
   | zero =>
    simp at hx hy;subst hy;simp only [zB,hd',List.nodup_cons] at h;exact h.1 (List.mem_filterMap.2 ⟨x,List.mem_of_getElem? hx,hd⟩)
   | succ j =>
    simp at hx hy;exact Ym hl hx hy (by omega) hd hd'
theorem hops_at {P:Program} {ops:Array Oper} {T:List (Value→World→Prop)} {W:World} {a0:Act}:∀{l:List Oper} {k i:Nat} {o:Oper},hops P ops T W a0 l k→l[i]?=some o→hop P ops T W a0 o (k+i)
 | [],_,_,_,_,h=>by simp at h
 | x :: l,k,0,o,h,hi=>by simp at hi;subst hi;exact h.1
 | x :: l,k,i+1,o,h,hi=>by
  simp at hi;have:=hops_at (k:=k+1) (i:=i) h.2 hi
  rwa [show k+1+i=k+(i+1) by omega] at this
theorem knows_of {T:List (Value→World→Prop)} {f:Tmp→Value} {w:World}:∀{l:List Oper} {k:Nat},(∀i o d,l[i]?=some o→o.dst=some d→tAt T (k+i) (f d) w)→knows T f w l k
 | [],_,_=>trivial
 | o :: l,k,h=>by
  refine ⟨?_,knows_of fun i o' d hi hd => ?_⟩
  ·cases hd:o.dst with
   | none=>trivial
   | some d=>exact h 0 o d rfl hd
  ·have:=h (i+1) o' d (by simpa using hi) hd
   rwa [show k+(i+1)=k+1+i by omega] at this
theorem deps_of {ops:Array Oper} {T:List (Value→World→Prop)} {f:Tmp→Value} {w:World}:∀{l:List Edge},(∀e∈l,∀o d,ops[e.on]?=some o→o.dst=some d→tAt T e.on (f d) w)→deps ops T f w l
 | [],_=>trivial
 | e :: l,h=>by
  refine ⟨?_,deps_of fun e' he'=>h e' (List.mem_cons_of_mem _ he')⟩
  cases ho:ops[e.on]? with
  | none=>trivial
  | some o =>
   cases hd:o.dst with
   | none=>simp [hd]
   | some d=>simp only [Option.bind_some,hd];exact h e (List.mem_cons_self ..) o d ho hd
section
variable {P:Program} {ops:Array Oper} {T:List (Value→World→Prop)} {W:World} {a0:Act} {Q:Exit→Act→World→Prop}
theorem GInv.step {listed:Array Bool} {a:Act} {w:World} (hB:growB ops=true) (hsz:∀d∈dsts ops,d<a0.tmps.size) (hst:ZM T) (h:GInv ops T W a0 listed a w) {i:Nat} {o:Oper} (hi:ops[i]?=some o)
  {v:Value} {w':World} (hg:w.grownBy w' none) (hv:tAt T i v w'):GInv ops T W a0 (listed.setIfInBounds i true) (a.put o.dst v) w':=by
 have hnd:(dsts ops).Nodup:=by simp only [growB,Bool.and_eq_true,decide_eq_true_eq] at hB;exact hB.1.2
 refine ⟨gbT h.g hg,by simp [h.sz], ?_, ?_,fun t ht => ?_,fun k ok d hk hl hd => ?_⟩
 ·rw [← h.tz];cases o.dst <;> simp [Act.put]
 ·rw [← h.df];cases o.dst <;> rfl
 ·rw [← h.out t ht]
  cases hd:o.dst with
  | none=>rfl
  | some d =>
   have:d≠t:=fun e=>ht (e ▸ YM hi hd);simp [Act.put,this]
 ·by_cases hik:i=k
  ·subst hik
   obtain rfl:ok=o:=by rw [hi] at hk;injection hk with hk;exact hk.symm
   have h1:d<a.tmps.size:=by rw [h.tz];exact hsz d (YM hi hd)
   have hz:(a.put (some d) v).tmps.getD d undef=v:=by simp [Act.put,h1]
   rw [hd,hz];exact hv
  ·have hl':listed.getD k false=true:=by
    simp only [Array.getD_eq_getD_getElem?,Array.getElem?_setIfInBounds,hik,if_false] at hl ⊢;exact hl
   have hne:o.dst≠some d:=fun e=>Ym hnd (l:=ops.toList) (i:=k) (j:=i) (by simpa using hk) (by simpa using hi) (Ne.symm hik) hd e
   have:(a.put o.dst v).tmps.getD d undef=a.tmps.getD d undef:=by
    cases hod:o.dst with
    | none=>rfl
    | some e =>
     have:e≠d:=fun x=>hne (by rw [hod,x]);simp [Act.put,this]
   rw [this];exact stable_at hst k _ _ _ (h.facts k ok d hk hl' hd) hg
theorem GInv.is {listed:Array Bool} {a:Act} {w:World} (h:GInv ops T W a0 listed a w):a=puts a0 (dsts ops) (fun d=>a.tmps.getD d undef):=Ub h.tz h.df h.out
theorem Kl (hB:growB ops=true) {i:Nat} {o:Oper} (hi:ops[i]?=some o):∀e∈o.after,Region.binds .any e=true∧e.on<i:=by
 simp only [growB,Bool.and_eq_true,List.all_eq_true,Array.all_eq_true_iff_forall_mem] at hB;intro e he;have h1:=hB.2 o (Array.mem_toList_iff.2 (Array.mem_of_getElem? hi)) e he;have h2:=hB.1.1 (o,i) (by rw [List.mem_zipIdx_iff_getElem?];simpa using hi) e he;exact ⟨h1,by simpa using h2⟩
theorem all_listed (hB:growB ops=true) {listed:Array Bool} (hz:listed.size=ops.size) (hr:Region.ready .any ops listed=[]):∀n k,k<n→k<ops.size→listed.getD k false=true
 | 0,_,h,_=>absurd h (Nat.not_lt_zero _)
 | n+1,k,h,hk=>by
  cases hl:listed.getD k false with
  | true=>rfl
  | false =>
   exfalso
   have:k∈Region.ready .any ops listed:=by
    refine mem_ready.2 ⟨?_,ops[k],Array.getElem?_eq_getElem hk,fun e he _ => ?_⟩
    ·have hk':k<listed.size:=by omega
     simp [hk'] at hl ⊢;exact hl
    ·have h2:=Kl hB (Array.getElem?_eq_getElem hk) e he
     exact all_listed hB hz hr n e.on (by omega) (by omega)
   rw [hr] at this
   cases this
theorem Ww {listed:Array Bool} {i n:Nat} (h:listed.toList.countP (fun b=>!b)≤n+1) (hi:listed.getD i true=false):(listed.setIfInBounds i true).toList.countP (fun b=>!b)≤n:=by
 have hlt:i<listed.size:=by
  rcases Nat.lt_or_ge i listed.size with h1 | h1
  ·exact h1
  ·simp [Array.getElem?_eq_none h1] at hi
 have hv:listed[i]=false:=by simpa [hlt] using hi
 rw [Array.toList_setIfInBounds,List.countP_set (by simpa using hlt)];simp only [Array.getElem_toList,hv,Bool.not_false,if_true,Bool.not_true,Bool.false_eq_true,if_false];omega
theorem grow_any (hB:growB ops=true) (hsz:∀d∈dsts ops,d<a0.tmps.size) (hst:ZM T) (hh:hops P ops T W a0 ops.toList 0)
  (fin:∀(f:Tmp→Value) (w:World),W.grownBy w none→knows T f w ops.toList 0→Q .normal (puts a0 (dsts ops) f) w) :
  ∀(fuel:Nat) (listed:Array Bool) (a:Act) (w:World),GInv ops T W a0 listed a w→listed.toList.countP (fun b=>!b)≤fuel→wpAny P .any ops Q fuel listed a w:=by
 have done:∀(listed:Array Bool) (a:Act) (w:World),GInv ops T W a0 listed a w→Region.ready .any ops listed=[]→Q .normal a w:=fun listed a w h hr=>by
  rw [h.is];refine fin _ w h.g (knows_of fun i o d hi hd => ?_);rw [Nat.zero_add];have hi':ops[i]?=some o:=by simpa using hi
  have hk:i<ops.size:=(Array.getElem?_eq_some_iff.1 hi').1;exact h.facts i o d hi' (all_listed hB h.sz hr (i+1) i (by omega) hk) hd
 intro fuel
 induction fuel with
 | zero =>
  intro listed a w h hc
  have hr:Region.ready .any ops listed=[]:=by
   cases hr:Region.ready .any ops listed with
   | nil=>rfl
   | cons i l =>
    exfalso
    have hi:=(mem_ready.1 (show i∈Region.ready .any ops listed by rw [hr];exact List.mem_cons_self ..)).1;have h0:listed.toList.countP (fun b=>!b)=0:=by omega
    rw [List.countP_eq_zero] at h0
    have hlt:i<listed.size:=by
     rcases Nat.lt_or_ge i listed.size with h1 | h1
     ·exact h1
     ·simp [Array.getElem?_eq_none h1] at hi
    have hv:listed[i]=false:=by simpa [hlt] using hi
    have:=h0 listed[i] (Array.getElem_mem_toList hlt);simp [hv] at this
  exact ⟨hr,done listed a w h hr⟩
 | succ fuel ih =>
  intro listed a w h hc;refine ⟨fun hr=>done listed a w h hr,fun i hi => ?_⟩;obtain ⟨hl,o,ho,hall⟩:=mem_ready.1 hi;have hop:=hops_at hh (i:=i) (by simpa using ho);rw [Nat.zero_add] at hop;have h1:=hop (fun d=>a.tmps.getD d undef) w h.g (deps_of fun e he o' d ho' hd=>h.facts e.on o' d ho' (hall e (by simpa using he) ((Kl hB ho e (by simpa using he)).1)) hd);rw [← h.is] at h1;unfold wpOp;simp only [ho]
  have next:∀a' w',(∃v,a'=a.put o.dst v∧w.grownBy w' none∧tAt T i v w')→wpAny P .any ops Q fuel (listed.setIfInBounds i true) a' w':=fun a' w' ⟨v,ha,hg,hv⟩=>by
   subst ha;exact ih _ _ _ (h.step hB hsz hst ho hg hv) (Ww hc hl)
  unfold wpList at h1
  split
  ·rename_i hw
   rw [if_pos hw] at h1
   rcases h1 with h1 | h1
   ·exact .inl (We (Oper.wp_mono next h1))
   ·exact (XI h1.2).elim
  ·rename_i hw
   rw [if_neg hw] at h1;exact next _ _ h1
theorem Zv {id:Nat} {w:World} (T:List (Value→World→Prop)) (hm:P.follows .mixedOrders=true) (hB:growB ops=true) (hsz:(dsts ops).all (fun d=>d<a0.tmps.size)=true) (hst:ZM T)
  (hh:hops P ops T w.drew a0 ops.toList 0)
  (fin:∀(f:Tmp→Value) (w':World),w.drew.grownBy w' none→knows T f w' ops.toList 0→Q .normal (puts a0 (dsts ops) f) w'):(Code.region id ops true).wp P Q a0 w:=by
 refine wp_region_any hm (grow_any (W:=w.drew) (T:=T) hB (fun d hd=>by simpa using List.all_eq_true.1 hsz d hd) hst hh fin ops.size _ a0 _ ⟨gbR _ _,by simp,rfl,rfl,fun _ _=>rfl, ?_⟩ ?_)
 ·intro k o d hk hl hd
  simp only [Array.getD_eq_getD_getElem?,Array.getElem?_replicate] at hl
  split at hl <;> simp at hl
 ·have:=List.countP_le_length (p:=fun b:Bool=>!b) (l:=(Array.replicate ops.size false).toList)
  simpa using this
end
def isV (x:Value):Value→World→Prop:=fun v _=>v=x
theorem Zb (x:Value):stable (isV x):=fun _ _ _ h _=>h
def Blk (w:World) (g:Nat) (t:TypeId) (cs:Array Value):Prop:=w.heap[g]?=some (.cells cs t (0,0))
section
variable {w w':World} {g:Nat} {t:TypeId} {cs:Array Value}
theorem Blk.lt (h:Blk w g t cs):g<w.heap.size:=(Array.getElem?_eq_some_iff.1 h).1
theorem Blk.cell (h:Blk w g t cs) (i:Nat):w.cell? ⟨g,i,none⟩=cs[i]?:=cell_of_row w g i cs t (0,0) h
theorem Blk.frozen (h:Blk w g t cs) (i:Nat):w.frozen? ⟨g,i,none⟩=false:=by
 unfold Blk at h;simp [World.frozen?,h]
theorem Blk.new (w:World) (t:TypeId) (cs:Array Value):Blk (w.alloc (.cells cs t)) w.heap.size t cs:=heap_alloc_new w _
theorem Blk.grown {r:Option Nat} (h:Blk w g t cs) (hb:w.grownBy w' r) (hg:some g≠r):Blk w' g t cs:=(hb.block g h.lt hg).trans h
theorem Blk.grow (h:Blk w g t cs) (hb:w.grownBy w' none):Blk w' g t cs:=h.grown hb (by simp)
theorem Blk.set_ (h:Blk w g t cs) (i:Nat) (u:Value):Blk (w.setCell ⟨g,i,none⟩ u) g t (cs.setIfInBounds i u):=by
 unfold Blk at h ⊢;simp [World.setCell,Array.getElem?_modify,h]
theorem Blk.far (h:Blk w g t cs) {p:Addr} (hp:g≠p.block) (u:Value):Blk (w.setCell p u) g t cs:=(Below.heap_setCell w p u g hp).trans h
end
def isBox (lo:Nat) (t:TypeId) (cs:Array Value):Value→World→Prop:=fun v w=>∃g,v=.pointer (some ⟨g,0,none⟩)∧lo≤g∧Blk w g t cs
theorem Xh (lo:Nat) (t:TypeId) (cs:Array Value):stable (isBox lo t cs):=fun _ _ _ ⟨g,h1,h2,h3⟩ hg=>⟨g,h1,h2,h3.grow hg⟩
theorem Blk.new' (w:World) (t:TypeId) (cs:Array Value) (g:Nat) (h:w.heap.size=g):Blk (w.alloc (.cells cs t)) g t cs:=h ▸ Blk.new w t cs
def isSt:TypeDesc→Bool
 | .struct _=>true
 | .array _ _=>true
 | _=>false
structure St (P:Program) (T:TypeId) (n:Nat):Prop where
 hu:∃d,P.underlying T=some d∧isSt d=true
 hi:(P.info? T).map (·.size)=some n
section
variable {P:Program} {fn:Func} {R:Ending→World→Prop} {a:Act} {w:World}
theorem Km {T t:TypeId} {g:Nat} {cs:Array Value} {n:Nat} (S:St P T n) (B:Blk w g t cs) (hn:cs.size=n):(loadVar T ⟨g,0,none⟩).run P w=.ok (.agg cs) w:=by
 obtain ⟨⟨d,hu,hd⟩,hi⟩:=S;exact run_loadVar_row w g t T cs (0,0) d B hu (by cases d <;> first | rfl | cases hd) (by rw [hi,hn])
theorem YJ {p:Tmp} {T:TypeId} {g n:Nat} {cs:Array Value} (h:fn.results=#[.cell p T]) (hp:a.tmps.getD p undef=.pointer (some ⟨g,0,none⟩)) (S:St P T n) (B:Blk w g T cs) (hn:cs.size=n)
  (hd:a.defers=[]) (hR:R (.returned (.agg cs)) w):bodyPost P fn R .ret a w:=by
 refine bodyPost_ret (v:=.agg cs) ?_ hd hR;have hp':a.tmps[p]?.getD undef=.pointer (some ⟨g,0,none⟩):=by simpa using hp
 simp [results,h,hp',asAddr,Km S B hn]
theorem Xq {p r:Tmp} {T:TypeId} {g n:Nat} {cs:Array Value} (h:fn.results=#[.cell p T,.tmp r]) (hp:a.tmps.getD p undef=.pointer (some ⟨g,0,none⟩)) (S:St P T n) (B:Blk w g T cs) (hn:cs.size=n)
  (hd:a.defers=[]) (hR:R (.returned (.tuple #[.agg cs,a.tmps.getD r undef])) w):bodyPost P fn R .ret a w:=by
 refine bodyPost_ret (v:=.tuple #[.agg cs,a.tmps.getD r undef]) ?_ hd hR;have hp':a.tmps[p]?.getD undef=.pointer (some ⟨g,0,none⟩):=by simpa using hp
 simp [results,h,hp',asAddr,Km S B hn]
theorem ret_cc {p q:Tmp} {T U:TypeId} {g m n n':Nat} {cs ds:Array Value} (h:fn.results=#[.cell p T,.cell q U]) (hp:a.tmps.getD p undef=.pointer (some ⟨g,0,none⟩)) (S:St P T n) (B:Blk w g T cs) (hn:cs.size=n)
  (hq:a.tmps.getD q undef=.pointer (some ⟨m,0,none⟩)) (S':St P U n') (B':Blk w m U ds) (hn':ds.size=n')
  (hd:a.defers=[]) (hR:R (.returned (.tuple #[.agg cs,.agg ds])) w):bodyPost P fn R .ret a w:=by
 refine bodyPost_ret (v:=.tuple #[.agg cs,.agg ds]) ?_ hd hR;have hp':a.tmps[p]?.getD undef=.pointer (some ⟨g,0,none⟩):=by simpa using hp
 have hq':a.tmps[q]?.getD undef=.pointer (some ⟨m,0,none⟩):=by simpa using hq
 simp [results,h,hp',hq',asAddr,Km S B hn,Km S' B' hn']
theorem Kn {p r:Tmp} {T:TypeId} {g n:Nat} {cs:Array Value} (h:fn.results=#[.tmp r,.cell p T]) (hp:a.tmps.getD p undef=.pointer (some ⟨g,0,none⟩)) (S:St P T n) (B:Blk w g T cs) (hn:cs.size=n)
  (hd:a.defers=[]) (hR:R (.returned (.tuple #[a.tmps.getD r undef,.agg cs])) w):bodyPost P fn R .ret a w:=by
 refine bodyPost_ret (v:=.tuple #[a.tmps.getD r undef,.agg cs]) ?_ hd hR;have hp':a.tmps[p]?.getD undef=.pointer (some ⟨g,0,none⟩):=by simpa using hp
 simp [results,h,hp',asAddr,Km S B hn]
end
theorem Blk.c9 {w:World} {g:Nat} {T:TypeId} {a0 a1 a2 a3 a4 a5 a6 a7 a8:Value} (h:Blk w g T #[a0,a1,a2,a3,a4,a5,a6,a7,a8]):w.cell? ⟨g,0,none⟩=some a0∧w.cell? ⟨g,1,none⟩=some a1∧w.cell? ⟨g,2,none⟩=some a2∧w.cell? ⟨g,3,none⟩=some a3∧w.cell? ⟨g,4,none⟩=some a4∧w.cell? ⟨g,5,none⟩=some a5∧w.cell? ⟨g,6,none⟩=some a6∧w.cell? ⟨g,7,none⟩=some a7∧w.cell? ⟨g,8,none⟩=some a8 :=
 ⟨by simpa using h.cell 0,by simpa using h.cell 1,by simpa using h.cell 2,by simpa using h.cell 3,by simpa using h.cell 4,by simpa using h.cell 5,by simpa using h.cell 6,by simpa using h.cell 7,by simpa using h.cell 8⟩
theorem Blk.f9 {w:World} {g:Nat} {T:TypeId} {cs:Array Value} (h:Blk w g T cs):w.frozen? ⟨g,0,none⟩=false∧w.frozen? ⟨g,1,none⟩=false∧w.frozen? ⟨g,2,none⟩=false∧w.frozen? ⟨g,3,none⟩=false∧w.frozen? ⟨g,4,none⟩=false∧w.frozen? ⟨g,5,none⟩=false∧w.frozen? ⟨g,6,none⟩=false∧w.frozen? ⟨g,7,none⟩=false∧w.frozen? ⟨g,8,none⟩=false :=
 ⟨h.frozen 0,h.frozen 1,h.frozen 2,h.frozen 3,h.frozen 4,h.frozen 5,h.frozen 6,h.frozen 7,h.frozen 8⟩
structure Fact where
 ts:List Tmp
 R:List Value→World→Prop
def Fact.at_ (F:Fact) (f:Tmp→Value) (w:World):Prop:=F.R (F.ts.map f) w
def onT (d:Tmp) (R:Value→World→Prop):Fact:=⟨[d],fun l w=>R (l.getD 0 undef) w⟩
def noF:Fact:=⟨[],fun _ _=>True⟩
theorem Zy (d:Tmp) (R:Value→World→Prop) (f:Tmp→Value) (w:World):(onT d R).at_ f w=R (f d) w:=rfl
def fAt (T:List Fact) (k:Nat):Fact:=(T[k]?).getD noF
def bindE (o:Oper):List Edge:=o.after.toList.filter (Region.binds .any)
def depsF (T:List Fact) (f:Tmp→Value) (w:World):List Edge→Prop
 | []=>True
 | e :: es=>(fAt T e.on).at_ f w∧depsF T f w es
def keeps (f:Tmp→Value) (w w':World) (k:Nat):List Fact→Nat→Prop
 | [],_=>True
 | F :: l,j=>(j≠k→F.at_ f w→F.at_ f w')∧keeps f w w' k l (j+1)
def upd (f:Tmp→Value):Option Tmp→Value→Tmp→Value
 | some d,v=>fun t=>if t=d then v else f t
 | none,_=>f
theorem Zn (f:Tmp→Value) (d:Tmp) (v:Value) (t:Tmp):upd f (some d) v t=if t=d then v else f t:=rfl
def knowsF (T:List Fact) (f:Tmp→Value) (w:World):List Fact→Prop
 | []=>True
 | F :: l=>F.at_ f w∧knowsF T f w l
def Uc (F:Fact):Prop:=∀l w w',F.R l w→w.grownBy w' none→F.R l w'
def Zw (T:List Fact):Prop:=∀F∈T,Uc F
theorem Zh {d:Tmp} {R:Value→World→Prop} (h:stable R):Uc (onT d R):=fun l w w' hr hg=>h _ _ _ hr hg
theorem stableF_no:Uc noF:=fun _ _ _ _ _=>trivial
theorem Xr {T:List Fact} (h:Zw T) (k:Nat):Uc (fAt T k):=by
 unfold fAt
 cases hk:T[k]? with
 | none=>exact stableF_no
 | some F=>exact h F (List.mem_of_getElem? hk)
def regB (ops:Array Oper) (ts:List (List Tmp)):Bool :=
 (ops.toList.zipIdx.all fun (o,i)=>(bindE o).all fun e=>e.on<i)&&decide (dsts ops).Nodup &&
 (ops.toList.zipIdx.all fun (o,i)=>((ts[i]?).getD []).all fun t=>o.dst == some t||(bindE o).any fun e=>((ops[e.on]?).bind (·.dst)) == some t)&&decide (ts.length≤ops.size)
structure RInv (ops:Array Oper) (T:List Fact) (W:World) (a0:Act) (listed:Array Bool) (a:Act) (w:World):Prop where
 g:W.grownBy w none
 sz:listed.size=ops.size
 tz:a.tmps.size=a0.tmps.size
 df:a.defers=a0.defers
 out:∀t,t∉dsts ops→a.tmps[t]?=a0.tmps[t]?
 facts:∀k o,ops[k]?=some o→listed.getD k false=true→(fAt T k).at_ (fun d=>a.tmps.getD d undef) w
 closed:∀k o,ops[k]?=some o→listed.getD k false=true→∀e∈bindE o,listed.getD e.on false=true
theorem VB {f:Tmp→Value} {w w':World} {k:Nat}:∀{l:List Fact} {i j:Nat} {F:Fact},keeps f w w' k l i→l[j]?=some F→i+j≠k→F.at_ f w→F.at_ f w'
 | [],_,_,_,_,h,_=>by simp at h
 | G :: l,i,0,F,hk,h,hne=>by simp at h;subst h;exact hk.1 hne
 | G :: l,i,j+1,F,hk,h,hne=>by
  simp at h;exact VB (i:=i+1) (j:=j) hk.2 h (by omega)
theorem QW {T:List Fact} {f:Tmp→Value} {w:World}:∀{l:List Edge},(∀e∈l,(fAt T e.on).at_ f w)→depsF T f w l
 | [],_=>trivial
 | e :: l,h=>⟨h e (List.mem_cons_self ..),QW fun e' he'=>h e' (List.mem_cons_of_mem _ he')⟩
theorem Ux {T:List Fact} {f:Tmp→Value} {w:World}:∀{l:List Fact},(∀F∈l,F.at_ f w)→knowsF T f w l
 | [],_=>trivial
 | F :: l,h=>⟨h F (List.mem_cons_self ..),Ux fun G hG=>h G (List.mem_cons_of_mem _ hG)⟩
theorem Xi (f:Tmp→Value) (o:Option Tmp) (v:Value) (t:Tmp) (h:o≠some t):upd f o v t=f t:=by
 cases o with
 | none=>rfl
 | some d=>rw [Zn,if_neg fun e=>h (by rw [e])]
theorem Vd (a:Act) (o:Option Tmp) (v:Value) (t:Tmp) (h:∀d,o=some d→d<a.tmps.size):(a.put o v).tmps.getD t undef=upd (fun d=>a.tmps.getD d undef) o v t:=by
 cases o with
 | none=>rfl
 | some d =>
  have hd:=h d rfl;rw [Zn]
  by_cases e:t=d
  ·subst e;rw [if_pos rfl];simp [Act.put,hd]
  ·rw [if_neg e]
   have:d≠t:=fun x=>e x.symm;simp [Act.put,this]
section
variable {P:Program} {ops:Array Oper} {T:List Fact} {W:World} {a0:Act} {Q:Exit→Act→World→Prop}
structure RegOk (ops:Array Oper) (T:List Fact):Prop where
 early:∀i o,ops[i]?=some o→∀e∈bindE o,e.on<i
 nodup:(dsts ops).Nodup
 sup:∀i o,ops[i]?=some o→∀t∈(fAt T i).ts,o.dst=some t∨∃e∈bindE o,∃o',ops[e.on]?=some o'∧o'.dst=some t
 len:T.length≤ops.size
theorem RegOk.of (h:regB ops (T.map (·.ts))=true):RegOk ops T:=by
 simp only [regB,Bool.and_eq_true,decide_eq_true_eq,List.all_eq_true] at h;obtain ⟨⟨⟨h1,h2⟩,h3⟩,h4⟩:=h;refine ⟨fun i o hi e he => ?_,h2,fun i o hi t ht => ?_,by simpa using h4⟩
 ·have:=h1 (o,i) (by rw [List.mem_zipIdx_iff_getElem?];simpa using hi) e he
  simpa using this
 ·have hts:((T.map (·.ts))[i]?).getD []=(fAt T i).ts:=by
   unfold fAt;rw [List.getElem?_map]
   cases T[i]? <;> rfl
  have:=h3 (o,i) (by rw [List.mem_zipIdx_iff_getElem?];simpa using hi) t (by simp only;rw [hts];exact ht);simp only [Bool.or_eq_true,beq_iff_eq,List.any_eq_true] at this
  rcases this with h | ⟨e,he,hd⟩
  ·exact .inl h
  ·refine .inr ⟨e,he, ?_⟩
   cases ho:ops[e.on]? with
   | none=>rw [ho] at hd;cases hd
   | some o'=>rw [ho] at hd;exact ⟨o',rfl,hd⟩
theorem RInv.step {listed:Array Bool} {a:Act} {w:World} (K:RegOk ops T) (hsz:∀d∈dsts ops,d<a0.tmps.size) (hst:Zw T) (h:RInv ops T W a0 listed a w) {i:Nat} {o:Oper} (hi:ops[i]?=some o)
  (hun:listed.getD i false=false) (hwait:∀e∈bindE o,listed.getD e.on false=true) {v:Value} {w':World} (hv:(fAt T i).at_ (upd (fun d=>a.tmps.getD d undef) o.dst v) w')
  (hg:w.grownBy w' none∨(o.dst=none∧W.grownBy w' none∧keeps (fun d=>a.tmps.getD d undef) w w' i T 0)):RInv ops T W a0 (listed.setIfInBounds i true) (a.put o.dst v) w':=by
 have hdlt:∀d,o.dst=some d→d<a.tmps.size:=fun d hd=>by rw [h.tz];exact hsz d (YM hi hd)
 have hil:i<listed.size:=by rw [h.sz];exact (Array.getElem?_eq_some_iff.1 hi).1
 have lset:∀k,k≠i→(listed.setIfInBounds i true).getD k false=listed.getD k false:=fun k hk=>by
  simp only [Array.getD_eq_getD_getElem?,Array.getElem?_setIfInBounds,Ne.symm hk,if_false]
 have lold:∀k,listed.getD k false=true→(listed.setIfInBounds i true).getD k false=true:=fun k hk=>by
  by_cases e:k=i
  ·subst e;simp [hil]
  ·rw [lset k e];exact hk
 refine ⟨?_,by simp [h.sz], ?_, ?_,fun t ht => ?_,fun k ok hk hl => ?_,fun k ok hk hl e he => ?_⟩
 ·rcases hg with hg | ⟨_,hg,_⟩
  ·exact gbT h.g hg
  ·exact hg
 ·rw [← h.tz];cases o.dst <;> simp [Act.put]
 ·rw [← h.df];cases o.dst <;> rfl
 ·rw [← h.out t ht]
  cases hd:o.dst with
  | none=>rfl
  | some d =>
   have:d≠t:=fun e=>ht (e ▸ YM hi hd);simp [Act.put,this]
 ·have hf:(fun d=>(a.put o.dst v).tmps.getD d undef)=upd (fun d=>a.tmps.getD d undef) o.dst v:=by
   funext t;exact Vd a o.dst v t hdlt
  rw [hf]
  by_cases hik:k=i
  ·subst hik
   exact hv
  ·rw [lset k hik] at hl
   have hold:=h.facts k ok hk hl
   have hne:∀t∈(fAt T k).ts,o.dst≠some t:=fun t ht hd=>by
    rcases K.sup k ok hk t ht with h1 | ⟨e,he,o',ho',hd'⟩
    ·exact Ym K.nodup (l:=ops.toList) (i:=k) (j:=i) (by simpa using hk) (by simpa using hi) hik h1 hd
    ·have h2:=h.closed k ok hk hl e he
     have h3:e.on≠i:=fun x=>by rw [x,hun] at h2;cases h2
     exact Ym K.nodup (l:=ops.toList) (i:=e.on) (j:=i) (by simpa using ho') (by simpa using hi) h3 hd' hd
   have hmap:(fAt T k).ts.map (upd (fun d=>a.tmps.getD d undef) o.dst v)=(fAt T k).ts.map (fun d=>a.tmps.getD d undef):=List.map_congr_left fun t ht=>Xi _ _ _ _ (hne t ht);unfold Fact.at_;rw [hmap]
   rcases hg with hg | ⟨hd,_,hk2⟩
   ·exact Xr hst k _ _ _ hold hg
   ·cases hT:T[k]? with
    | none=>unfold fAt;rw [hT];trivial
    | some F =>
     have e:fAt T k=F:=by unfold fAt;rw [hT];rfl
     rw [e] at hold ⊢;exact VB hk2 hT (by omega) hold
 ·by_cases hik:k=i
  ·subst hik
   obtain rfl:ok=o:=by rw [hi] at hk;injection hk with hk;exact hk.symm
   exact lold _ (hwait e he)
  ·rw [lset k hik] at hl
   exact lold _ (h.closed k ok hk hl e he)
theorem RInv.is {listed:Array Bool} {a:Act} {w:World} (h:RInv ops T W a0 listed a w):a=puts a0 (dsts ops) (fun d=>a.tmps.getD d undef):=Ub h.tz h.df h.out
theorem bind_mem {o:Oper} {e:Edge}:e∈bindE o ↔ e∈o.after.toList∧Region.binds .any e=true:=List.mem_filter
theorem YN (K:RegOk ops T) {listed:Array Bool} (hz:listed.size=ops.size) (hr:Region.ready .any ops listed=[]):∀n k,k<n→k<ops.size→listed.getD k false=true
 | 0,_,h,_=>absurd h (Nat.not_lt_zero _)
 | n+1,k,h,hk=>by
  cases hl:listed.getD k false with
  | true=>rfl
  | false =>
   exfalso
   have:k∈Region.ready .any ops listed:=by
    refine mem_ready.2 ⟨?_,ops[k],Array.getElem?_eq_getElem hk,fun e he hb => ?_⟩
    ·have hk':k<listed.size:=by omega
     simp [hk'] at hl ⊢;exact hl
    ·have h2:=K.early k _ (Array.getElem?_eq_getElem hk) e (bind_mem.2 ⟨by simpa using he,hb⟩)
     exact YN K hz hr n e.on (by omega) (by omega)
   rw [hr] at this
   cases this
end
theorem Zz (n:Nat):Region.binds .any ⟨n,.data⟩=true:=rfl
theorem Zq (n:Nat):Region.binds .any ⟨n,.chain⟩=true:=rfl
theorem Zr (n:Nat):Region.binds .any ⟨n,.guard⟩=true:=rfl
theorem Zs (n:Nat):Region.binds .any ⟨n,.phase⟩=true:=rfl
theorem ZA (n:Nat) (r:Departure):Region.binds .any ⟨n,.textOnly r⟩=false:=rfl
theorem ZW (n:Nat) (r:Departure):Region.binds .any ⟨n,.gcOnly r⟩=false:=rfl
def waits (ops:Array Oper) (s:Nat):List Nat:=match ops[s]? with | some o=>(bindE o).map (·.on) | none=>[]
structure GInv2 (ops:Array Oper) (T:List Fact) (W:World) (a0:Act) (r:Option Nat) (s:Nat) (listed:Array Bool) (a:Act) (w:World):Prop where
 g:W.grownBy w r
 pre:listed.getD s false=false→W.grownBy w none
 sz:listed.size=ops.size
 tz:a.tmps.size=a0.tmps.size
 df:a.defers=a0.defers
 out:∀t,t∉dsts ops→a.tmps[t]?=a0.tmps[t]?
 facts:∀k o,ops[k]?=some o→listed.getD k false=true→(fAt T k).at_ (fun d=>a.tmps.getD d undef) w
 closed:∀k o,ops[k]?=some o→listed.getD k false=true→∀e∈bindE o,listed.getD e.on false=true
section
variable {P:Program} {ops:Array Oper} {T:List Fact} {W:World} {a0:Act} {r:Option Nat} {s:Nat} {Q:Exit→Act→World→Prop}
theorem GInv2.step {listed:Array Bool} {a:Act} {w:World} (K:RegOk ops T) (hsz:∀d∈dsts ops,d<a0.tmps.size) (hst:Zw T) (h:GInv2 ops T W a0 r s listed a w) {i:Nat} {o:Oper} (hi:ops[i]?=some o)
  (hun:listed.getD i false=false) (hwait:∀e∈bindE o,listed.getD e.on false=true) {v:Value} {w':World} (hv:(fAt T i).at_ (upd (fun d=>a.tmps.getD d undef) o.dst v) w')
  (hg:w.grownBy w' none∨(o.dst=none∧W.grownBy w' r∧(i≠s→W.grownBy w none→W.grownBy w' none)∧keeps (fun d=>a.tmps.getD d undef) w w' i T 0)):GInv2 ops T W a0 r s (listed.setIfInBounds i true) (a.put o.dst v) w':=by
 have hdlt:∀d,o.dst=some d→d<a.tmps.size:=fun d hd=>by rw [h.tz];exact hsz d (YM hi hd)
 have hil:i<listed.size:=by rw [h.sz];exact (Array.getElem?_eq_some_iff.1 hi).1
 have lset:∀k,k≠i→(listed.setIfInBounds i true).getD k false=listed.getD k false:=fun k hk=>by
  simp only [Array.getD_eq_getD_getElem?,Array.getElem?_setIfInBounds,Ne.symm hk,if_false]
 have lold:∀k,listed.getD k false=true→(listed.setIfInBounds i true).getD k false=true:=fun k hk=>by
  by_cases e:k=i
  ·subst e;simp [hil]
  ·rw [lset k e];exact hk
 refine ⟨?_,fun hs => ?_,by simp [h.sz], ?_, ?_,fun t ht => ?_,fun k ok hk hl => ?_,fun k ok hk hl e he => ?_⟩
 ·rcases hg with hg | ⟨_,hg,_⟩
  ·exact gbT h.g (gbW hg)
  ·exact hg
 ·have hsi:i≠s:=fun e=>by subst e;simp [hil] at hs
  rw [lset s (Ne.symm hsi)] at hs
  rcases hg with hg | ⟨_,_,hg,_⟩
  ·exact gbT (h.pre hs) hg
  ·exact hg hsi (h.pre hs)
 ·rw [← h.tz];cases o.dst <;> simp [Act.put]
 ·rw [← h.df];cases o.dst <;> rfl
 ·rw [← h.out t ht]
  cases hd:o.dst with
  | none=>rfl
  | some d =>
   have:d≠t:=fun e=>ht (e ▸ YM hi hd);simp [Act.put,this]
 ·have hf:(fun d=>(a.put o.dst v).tmps.getD d undef)=upd (fun d=>a.tmps.getD d undef) o.dst v:=by
   funext t;exact Vd a o.dst v t hdlt
  rw [hf]
  by_cases hik:k=i
  ·subst hik
   exact hv
  ·rw [lset k hik] at hl
   have hold:=h.facts k ok hk hl
   have hne:∀t∈(fAt T k).ts,o.dst≠some t:=fun t ht hd=>by
    rcases K.sup k ok hk t ht with h1 | ⟨e,he,o',ho',hd'⟩
    ·exact Ym K.nodup (l:=ops.toList) (i:=k) (j:=i) (by simpa using hk) (by simpa using hi) hik h1 hd
    ·have h2:=h.closed k ok hk hl e he
     have h3:e.on≠i:=fun x=>by rw [x,hun] at h2;cases h2
     exact Ym K.nodup (l:=ops.toList) (i:=e.on) (j:=i) (by simpa using ho') (by simpa using hi) h3 hd' hd
   have hmap:(fAt T k).ts.map (upd (fun d=>a.tmps.getD d undef) o.dst v)=(fAt T k).ts.map (fun d=>a.tmps.getD d undef):=List.map_congr_left fun t ht=>Xi _ _ _ _ (hne t ht);unfold Fact.at_;rw [hmap]
   rcases hg with hg | ⟨hd,_,_,hk2⟩
   ·exact Xr hst k _ _ _ hold hg
   ·cases hT:T[k]? with
    | none=>unfold fAt;rw [hT];trivial
    | some F =>
     have e:fAt T k=F:=by unfold fAt;rw [hT];rfl
     rw [e] at hold ⊢;exact VB hk2 hT (by omega) hold
 ·by_cases hik:k=i
  ·subst hik
   obtain rfl:ok=o:=by rw [hi] at hk;injection hk with hk;exact hk.symm
   exact lold _ (hwait e he)
  ·rw [lset k hik] at hl
   exact lold _ (h.closed k ok hk hl e he)
theorem GInv2.is {listed:Array Bool} {a:Act} {w:World} (h:GInv2 ops T W a0 r s listed a w):a=puts a0 (dsts ops) (fun d=>a.tmps.getD d undef):=Ub h.tz h.df h.out
end
section
variable {α β:Type} {F:α→List β} {sz:Nat}
theorem YT (hF:∀x,(F x).length=sz) (xs:List α):(xs.flatMap F).length=xs.length*sz:=by
 induction xs with
 | nil=>simp
 | cons x xs ih=>rw [List.flatMap_cons,List.length_append,hF,ih,List.length_cons,Nat.succ_mul];omega
theorem Ve (hF:∀x,(F x).length=sz):∀(xs:List α) (i j:Nat),j<sz→(xs.flatMap F)[i*sz+j]?=xs[i]?.bind fun x=>(F x)[j]?
 | [],i,j,_=>by simp
 | x :: xs,0,j,hj=>by
  rw [List.flatMap_cons,List.getElem?_append_left (by rw [hF];omega)];simp
 | x :: xs,i+1,j,hj=>by
  rw [List.flatMap_cons,List.getElem?_append_right (by rw [hF,Nat.succ_mul];omega),hF,show (i+1)*sz+j - sz=i*sz+j by rw [Nat.succ_mul];omega,Ve hF xs i j hj];simp
theorem Ko (hF:∀x,(F x).length=sz) (hs:0<sz) (xs:List α) (m:Nat):(xs.flatMap F)[m]?=xs[m / sz]?.bind fun x=>(F x)[m % sz]?:=by
 have:=Ve hF xs (m / sz) (m % sz) (Nat.mod_lt _ hs)
 rwa [show m / sz*sz+m % sz=m by rw [Nat.mul_comm];exact Nat.div_add_mod m sz] at this
theorem flat_ext (hF:∀x,(F x).length=sz) {xs:List α} {l:List β} (hl:l.length=xs.length*sz) (h:∀i j x,xs[i]?=some x→j<sz→l[i*sz+j]?=(F x)[j]?):l=xs.flatMap F:=by
 apply List.ext_getElem?;intro m
 rcases Nat.eq_zero_or_pos sz with h0 | hs
 ·subst h0
  have h1:l=[]:=List.eq_nil_of_length_eq_zero (by simpa using hl);have h2:xs.flatMap F=[]:=List.eq_nil_of_length_eq_zero (by rw [YT hF];simp);rw [h1,h2]
 ·rw [Ko hF hs]
  have e:m / sz*sz+m % sz=m:=by rw [Nat.mul_comm];exact Nat.div_add_mod m sz
  cases hx:xs[m / sz]? with
  | some x=>rw [Option.bind_some,← h _ _ x hx (Nat.mod_lt _ hs),e]
  | none =>
   rw [Option.bind_none,List.getElem?_eq_none];rw [hl];have h1:xs.length≤m / sz:=by simpa using hx
   have:=Nat.mul_le_mul_right sz h1;have:=Nat.div_mul_le_self m sz;omega
theorem UX {i n j sz:Nat} (hi:i<n) (hj:j<sz):i*sz+j<n*sz:=by
 have:(i+1)*sz≤n*sz:=Nat.mul_le_mul_right sz hi;rw [Nat.succ_mul] at this;omega
theorem flat_set3 {F:α→List β} (hF:∀x,(F x).length=3) (ys:List α) (k:Nat) (hk:k<ys.length) (x:α) (a b c:β) (hx:F x=[a,b,c]):(((ys.flatMap F).set (k*3) a).set (k*3+1) b).set (k*3+2) c=(ys.set k x).flatMap F:=by
 refine flat_ext hF (by simp [YT hF]) fun i j y hy hj => ?_;have hl:=YT hF ys;have hin:i<ys.length:=by have:=(List.getElem?_eq_some_iff.1 hy).1;simpa using this
 simp only [List.getElem?_set,List.length_set] at *;rw [Ve hF ys i j hj,hl]
 by_cases e:k=i
 ·subst e
  rw [if_pos rfl,if_pos hk] at hy;injection hy with hy;subst hy;rw [hx]
  rcases (show j=0∨j=1∨j=2 by omega) with rfl | rfl | rfl
  ·rw [if_neg (by omega),if_neg (by omega),if_pos (by omega),if_pos (by omega)];rfl
  ·rw [if_neg (by omega),if_pos rfl,if_pos (by omega)];rfl
  ·rw [if_pos rfl,if_pos (by omega)];rfl
 ·rw [if_neg e] at hy
  rw [if_neg (by omega),if_neg (by omega),if_neg (by omega),hy];rfl
theorem fillD_step (d:α) (xs:List α) (k:Nat) (h:k<xs.length):(xs.take k ++ List.replicate (xs.length - k) d).set k xs[k]=xs.take (k+1) ++ List.replicate (xs.length - (k+1)) d:=by
 rw [List.set_append_right _ _ (by simp;omega)];rw [List.length_take,Nat.min_eq_left (by omega),Nat.sub_self,show xs.length - k=(xs.length - (k+1))+1 by omega,List.replicate_succ,zD,List.take_succ_eq_append_getElem h,List.append_assoc];rfl
end
structure FL {α:Type} (F:α→List Value) (sz:Nat) (w:World) (A:Option Addr) (n:Nat) (xs:List α):Prop where
 len:xs.length=n
 rd:Rd w sz A n (xs.flatMap F)
section
variable {α:Type} {F:α→List Value} {sz:Nat} {w w':World} {A:Option Addr} {n:Nat} {xs:List α}
theorem FL.grown {r:Option Nat} (h:FL F sz w A n xs) (hg:w.grownBy w' r) (hr:Off A r):FL F sz w' A n xs:=⟨h.len,h.rd.grown hg hr⟩
theorem FL.grow (h:FL F sz w A n xs) (hg:w.grownBy w' none):FL F sz w' A n xs:=⟨h.len,h.rd.grow hg⟩
theorem FL.cell (hF:∀x,(F x).length=sz) (h:FL F sz w A n xs) {k:Nat} (hk:k<n) (hs:0<sz) :
  ∃(b o:Nat) (x:α),A=some ⟨b,o,none⟩∧b<w.heap.size∧xs[k]?=some x∧∀j,j<sz→w.cell? ⟨b,o+(k*sz+j),none⟩=(F x)[j]?:=by
 obtain ⟨b,o,rfl,hb,hc⟩:=h.rd.2 (by omega);have hl:=h.len;refine ⟨b,o,xs[k],rfl,hb,List.getElem?_eq_getElem (by omega),fun j hj => ?_⟩;rw [hc _ (UX hk hj),Ve hF xs k j hj,List.getElem?_eq_getElem (by omega)];rfl
theorem FL.ofOwn {base c:Nat} {e:TypeId} (hl:xs.length=n) (h:w.ownsRow base e sz (.slice A n c) n (xs.flatMap F)):FL F sz w A n xs:=⟨hl,Rd.ofOwn h⟩
theorem FL.nil (w:World) (A:Option Addr):FL F sz w A 0 []:=⟨rfl,by simp [Rd]⟩
end
theorem made_flat {α:Type} {F:α→List Value} {sz:Nat} (hF:∀x,(F x).length=sz) (hs:0<sz) (d:α) (z:Array Value) (hz:z.toList=F d) (n:Nat):(madeCells z (n*sz)).toList=(List.replicate n d).flatMap F:=by
 have hzs:z.size=sz:=by rw [← Array.length_toList,hz,hF]
 refine flat_ext hF (by simp [size_madeCells]) fun i j x hx hj => ?_
 have hi:i<n∧x=d:=by
  rw [List.getElem?_replicate] at hx
  split at hx
  ·injection hx with hx;exact ⟨by assumption,hx.symm⟩
  ·cases hx
 obtain ⟨hi,rfl⟩:=hi;have hlt:=UX hi hj;have hm:(i*sz+j) % sz=j:=by rw [Nat.mul_comm,Nat.mul_add_mod,Nat.mod_eq_of_lt hj]
 have hzj:j<z.size:=by omega
 rw [← hz];simp [madeCells,hlt,hzs,hm];rw [getElem!_pos z j hzj,Array.getElem?_eq_getElem hzj]
def c2 (t:Int × Int):List Value:=[.int .i64 t.1,.int .i64 t.2]
def c3 (t:Int × Int × Int):List Value:=[.int .i64 t.1,.int .i64 t.2.1,.int .i64 t.2.2]
theorem Uy (t:Int × Int × Int):(c3 t).length=3:=rfl
def i64w (n:Int):Prop:=-9223372036854775808≤n∧n≤9223372036854775807
def w2 (x:Int × Int):Prop:=i64w x.1∧i64w x.2
def w3 (x:Int × Int × Int):Prop:=i64w x.1∧i64w x.2.1∧i64w x.2.2
end Go.Proofs.YthaadgdeadbhkaaGreat
