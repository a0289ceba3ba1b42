/-
 The general law on a region that draws its order,with one operation s0 that may write into a block g0 which was there before,and with slots that are read in the region ahead of the operation that writes them: what such an operation waits for,at first hand or through others,sees block and slot as they were.
-/
import Derived.Test.YthaadgdeadbhkaaGreatMgFnExactEngineRound12
open Go.RowKit
set_option linter.unusedVariables false
set_option linter.unusedSimpArgs false
namespace Go.Proofs.YthaadgdeadbhkaaGreat
def waitsT (ops:Array Oper):Nat→Nat→List Nat
 | 0,_=>[]
 | n+1,s=>waits ops s ++ (waits ops s).flatMap (waitsT ops n)
def aheadB (ops:Array Oper) (s k:Nat):Bool:=k == s||(waitsT ops ops.size s).contains k
def oldB (ops:Array Oper) (k d:Nat):Bool:=ops.toList.zipIdx.all fun (o,s)=>!(o.dst == some d)||aheadB ops s k
def hop5 (P:Program) (ops:Array Oper) (T:List Fact) (W:World) (a0:Act) (s0 g0:Nat) (o:Oper) (k:Nat):Prop :=
 ∀(f:Tmp→Value) (w:World),Chg (fun b=>b=g0) W w→(aheadB ops s0 k=true→W.grownBy w none)→(∀d,oldB ops k d=true→d∈dsts ops→f d=a0.tmps.getD d undef)→depsF T f w (bindE o) →
  wpList P ops (Only fun a' w'=>∃v,a'=(puts a0 (dsts ops) f).put o.dst v∧(fAt T k).at_ (upd f o.dst v) w'∧(w.grownBy w' none∨(Chg (fun b=>W.heap.size≤b∨(k=s0∧b=g0)) w w'∧keeps f w w' k T 0))) [o] (puts a0 (dsts ops) f) w
def hops5 (P:Program) (ops:Array Oper) (T:List Fact) (W:World) (a0:Act) (s0 g0:Nat):List Oper→Nat→Prop
 | [],_=>True
 | o :: l,k=>hop5 P ops T W a0 s0 g0 o k∧hops5 P ops T W a0 s0 g0 l (k+1)
theorem hops5_at {P:Program} {ops:Array Oper} {T:List Fact} {W:World} {a0:Act} {s0 g0:Nat}:∀{l:List Oper} {k i:Nat} {o:Oper},hops5 P ops T W a0 s0 g0 l k→l[i]?=some o→hop5 P ops T W a0 s0 g0 o (k+i)
 | [],_,_,_,_,h=>by simp at h
 | x :: l,k,0,o,h,hi=>by simp at hi;subst hi;exact h.1
 | x :: l,k,i+1,o,h,hi=>by
  simp at hi;have:=hops5_at (k:=k+1) (i:=i) h.2 hi
  rwa [show k+1+i=k+(i+1) by omega] at this
structure GInv5 (ops:Array Oper) (T:List Fact) (W:World) (a0:Act) (s0 g0:Nat) (listed:Array Bool) (a:Act) (w:World):Prop where
 g:Chg (fun b=>b=g0) W w
 pre:listed.getD s0 false=false→W.grownBy w none
 old:∀i o d,ops[i]?=some o→o.dst=some d→listed.getD i false=false→a.tmps.getD d undef=a0.tmps.getD d undef
 sz:listed.size=ops.size
 tz:a.tmps.size=a0.tmps.size
 df:a.defers=a0.defers
 out:∀t,t∉dsts ops→a.tmps[t]?=a0.tmps[t]?
 facts:∀k o,ops[k]?=some o→listed.getD k false=true→(fAt T k).at_ (fun d=>a.tmps.getD d undef) w
 closed:∀k o,ops[k]?=some o→listed.getD k false=true→∀e∈bindE o,listed.getD e.on false=true
section
variable {P:Program} {ops:Array Oper} {T:List Fact} {W:World} {a0:Act} {s0 g0:Nat} {Q:Exit→Act→World→Prop}
theorem Uk {listed:Array Bool} (hc:∀k o,ops[k]?=some o→listed.getD k false=true→∀e∈bindE o,listed.getD e.on false=true) {s k:Nat} (hs:listed.getD s false=true) (hk:k∈waits ops s):listed.getD k false=true:=by
 unfold waits at hk
 cases hos:ops[s]? with
 | none=>rw [hos] at hk;cases hk
 | some os =>
  rw [hos] at hk;obtain ⟨e,he,hei⟩:=List.mem_map.1 hk;rw [← hei];exact hc s os hos hs e he
theorem Vv {listed:Array Bool} (hc:∀k o,ops[k]?=some o→listed.getD k false=true→∀e∈bindE o,listed.getD e.on false=true):∀(n:Nat) {s k:Nat},listed.getD s false=true→k∈waitsT ops n s→listed.getD k false=true
 | 0,_,_,_,hk=>by cases hk
 | n+1,s,k,hs,hk=>by
  rcases List.mem_append.1 hk with hk | hk
  ·exact Uk hc hs hk
  ·obtain ⟨j,hj,hk⟩:=List.mem_flatMap.1 hk
   exact Vv hc n (Uk hc hs hj) hk
theorem WH {listed:Array Bool} (hc:∀k o,ops[k]?=some o→listed.getD k false=true→∀e∈bindE o,listed.getD e.on false=true) {s k:Nat} (hk:listed.getD k false=false) (h:aheadB ops s k=true):listed.getD s false=false:=by
 cases hs:listed.getD s false with
 | false=>rfl
 | true =>
  exfalso
  unfold aheadB at h;rw [Bool.or_eq_true] at h
  rcases h with h | h
  ·have:k=s:=by simpa using h
   subst this;rw [hk] at hs;cases hs
  ·have:=Vv hc _ hs (by simpa using h)
   rw [hk] at this;cases this
theorem GInv5.step {listed:Array Bool} {a:Act} {w:World} (K:RegOk ops T) (hsz:∀d∈dsts ops,d<a0.tmps.size) (hst:Zn T) (h:GInv5 ops T W a0 s0 g0 listed a w) {i:Nat} {o:Oper} (hi:ops[i]?=some o)
  (hun:listed.getD i false=false) (hwait:∀e∈bindE o,listed.getD e.on false=true) {v:Value} {w':World} (hv:(fAt T i).at_ (upd (fun d=>a.tmps.getD d undef) o.dst v) w')
  (hg:w.grownBy w' none∨(Chg (fun b=>W.heap.size≤b∨(i=s0∧b=g0)) w w'∧keeps (fun d=>a.tmps.getD d undef) w w' i T 0)):GInv5 ops T W a0 s0 g0 (listed.setIfInBounds i true) (a.put o.dst v) w':=by
 have hdlt:∀d,o.dst=some d→d<a.tmps.size:=fun d hd=>by rw [h.tz];exact hsz d (Yw hi hd)
 have hil:i<listed.size:=by rw [h.sz];exact (Array.getElem?_eq_some_iff.1 hi).1
 have lset:∀k,k≠i→(listed.setIfInBounds i true).getD k false=listed.getD k false:=fun k hk=>by
  simp only [Array.getD_eq_getD_getElem?,Array.getElem?_setIfInBounds,Ne.symm hk,if_false]
 have lold:∀k,listed.getD k false=true→(listed.setIfInBounds i true).getD k false=true:=fun k hk=>by
  by_cases e:k=i
  ·subst e;simp [hil]
  ·rw [lset k e];exact hk
 have hf:(fun d=>(a.put o.dst v).tmps.getD d undef)=upd (fun d=>a.tmps.getD d undef) o.dst v:=by
  funext t;exact Wb a o.dst v t hdlt
 refine ⟨?_,fun hs => ?_,fun j oj d hj hd hl => ?_,by simp [h.sz], ?_, ?_,fun t ht => ?_,fun k ok hk hl => ?_,fun k ok hk hl e he => ?_⟩
 ·rcases hg with hg | ⟨hg,_⟩
  ·exact h.g.trans (Chg.of hg fun g hg'=>by simp at hg')
  ·refine ⟨hg.os.trans h.g.os,hg.tape.trans h.g.tape,hg.output.trans h.g.output,Nat.le_trans h.g.size hg.size,fun b hb hs => ?_⟩
   rw [hg.block b (Nat.lt_of_lt_of_le hb h.g.size) fun hs' => ?_,h.g.block b hb hs]
   rcases hs' with h1 | h1
   ·omega
   ·exact hs h1.2
 ·have his:i≠s0:=fun e=>by subst e;simp [hil] at hs
  rw [lset s0 (Ne.symm his)] at hs;have h0:=h.pre hs
  rcases hg with hg | ⟨hg,_⟩
  ·exact gbT h0 hg
  ·refine ⟨hg.os.trans h0.os,hg.tape.trans h0.tape,hg.output.trans h0.output,Nat.le_trans h0.size hg.size,fun b hb hs => ?_⟩
   rw [hg.block b (Nat.lt_of_lt_of_le hb h0.size) fun hs' => ?_,h0.block b hb hs]
   rcases hs' with h1 | h1
   ·omega
   ·exact his h1.1
 ·have hji:j≠i:=fun e=>by subst e;simp [hil] at hl
  rw [lset j hji] at hl;have hne:o.dst≠some d:=fun hd'=>ZZ K.nodup (l:=ops.toList) (i:=j) (j:=i) (by simpa using hj) (by simpa using hi) hji hd hd';have h9:(a.put o.dst v).tmps.getD d undef=upd (fun d=>a.tmps.getD d undef) o.dst v d:=congrFun hf d;rw [h9,YR _ _ _ _ hne];exact h.old j oj d hj hd hl
 ·rw [← h.tz];cases o.dst <;> simp [Act.put]
 ·rw [← h.df];cases o.dst <;> rfl
 ·rw [← h.out t ht]
  cases hd:o.dst with
  | none=>rfl
  | some d =>
   have:d≠t:=fun e=>ht (e ▸ Yw hi hd);simp [Act.put,this]
 ·rw [hf]
  by_cases hik:k=i
  ·subst hik
   exact hv
  ·rw [lset k hik] at hl
   have hold:=h.facts k ok hk hl
   have hne:∀t∈(fAt T k).ts,o.dst≠some t:=fun t ht hd=>by
    rcases K.sup k ok hk t ht with h1 | ⟨e,he,o',ho',hd'⟩
    ·exact ZZ K.nodup (l:=ops.toList) (i:=k) (j:=i) (by simpa using hk) (by simpa using hi) hik h1 hd
    ·have h2:=h.closed k ok hk hl e he
     have h3:e.on≠i:=fun x=>by rw [x,hun] at h2;cases h2
     exact ZZ K.nodup (l:=ops.toList) (i:=e.on) (j:=i) (by simpa using ho') (by simpa using hi) h3 hd' hd
   have hmap:(fAt T k).ts.map (upd (fun d=>a.tmps.getD d undef) o.dst v)=(fAt T k).ts.map (fun d=>a.tmps.getD d undef):=List.map_congr_left fun t ht=>YR _ _ _ _ (hne t ht);unfold Fact.at_;rw [hmap]
   rcases hg with hg | ⟨_,hk2⟩
   ·exact Xa hst k _ _ _ hold hg
   ·cases hT:T[k]? with
    | none=>unfold fAt;rw [hT];trivial
    | some F =>
     have e:fAt T k=F:=by unfold fAt;rw [hT];rfl
     rw [e] at hold ⊢;exact Wr hk2 hT (by omega) hold
 ·by_cases hik:k=i
  ·subst hik
   obtain rfl:ok=o:=by rw [hi] at hk;injection hk with hk;exact hk.symm
   exact lold _ (hwait e he)
  ·rw [lset k hik] at hl
   exact lold _ (h.closed k ok hk hl e he)
theorem GInv5.is {listed:Array Bool} {a:Act} {w:World} (h:GInv5 ops T W a0 s0 g0 listed a w):a=puts a0 (dsts ops) (fun d=>a.tmps.getD d undef):=Vd h.tz h.df h.out
theorem GInv5.old_ {listed:Array Bool} {a:Act} {w:World} (h:GInv5 ops T W a0 s0 g0 listed a w) {k d:Nat} (hk:listed.getD k false=false) (ho:oldB ops k d=true) (hd:d∈dsts ops):a.tmps.getD d undef=a0.tmps.getD d undef:=by
 unfold dsts at hd;obtain ⟨o,ho',hd'⟩:=List.mem_filterMap.1 hd;obtain ⟨i,hi⟩:=List.mem_iff_getElem?.1 ho';have hi':ops[i]?=some o:=by simpa using hi
 refine h.old i o d hi' hd' (WH h.closed hk ?_);have:=List.all_eq_true.1 ho (o,i) (by rw [List.mem_zipIdx_iff_getElem?];simpa using hi')
 simpa [hd'] using this
theorem reg5_any (K:RegOk ops T) (hsz:∀d∈dsts ops,d<a0.tmps.size) (hst:Zn T) (hh:hops5 P ops T W a0 s0 g0 ops.toList 0)
  (fin:∀(f:Tmp→Value) (w:World),Chg (fun b=>b=g0) W w→knowsF T f w T→Q .normal (puts a0 (dsts ops) f) w) :
  ∀(fuel:Nat) (listed:Array Bool) (a:Act) (w:World),GInv5 ops T W a0 s0 g0 listed a w→listed.toList.countP (fun b=>!b)≤fuel→wpAny P .any ops Q fuel listed a w:=by
 have done:∀(listed:Array Bool) (a:Act) (w:World),GInv5 ops T W a0 s0 g0 listed a w→Region.ready .any ops listed=[]→Q .normal a w:=fun listed a w h hr=>by
  rw [h.is];refine fin _ w h.g (UK fun F hF => ?_);obtain ⟨k,hk⟩:=List.mem_iff_getElem?.1 hF;have hkl:k<ops.size:=Nat.lt_of_lt_of_le (List.getElem?_eq_some_iff.1 hk).1 K.len;have:=h.facts k ops[k] (Array.getElem?_eq_getElem hkl) (YN K h.sz hr (k+1) k (by omega) hkl);unfold fAt at this;rw [hk] at this;exact this
 intro fuel
 induction fuel with
 | zero =>
  intro listed a w h hc
  have hr:Region.ready .any ops listed=[]:=by
   cases hr:Region.ready .any ops listed with
   | nil=>rfl
   | cons i l =>
    exfalso
    have hi:=(mem_ready.1 (show i∈Region.ready .any ops listed by rw [hr];exact List.mem_cons_self ..)).1;have h0:listed.toList.countP (fun b=>!b)=0:=by omega
    rw [List.countP_eq_zero] at h0
    have hlt:i<listed.size:=by
     rcases Nat.lt_or_ge i listed.size with h1 | h1
     ·exact h1
     ·simp [Array.getElem?_eq_none h1] at hi
    have hv:listed[i]=false:=by simpa [hlt] using hi
    have:=h0 listed[i] (Array.getElem_mem_toList hlt);simp [hv] at this
  exact ⟨hr,done listed a w h hr⟩
 | succ fuel ih =>
  intro listed a w h hc;refine ⟨fun hr=>done listed a w h hr,fun i hi => ?_⟩;obtain ⟨hl,o,ho,hall⟩:=mem_ready.1 hi
  have hwait:∀e∈bindE o,listed.getD e.on false=true:=fun e he=>by
   obtain ⟨h1,h2⟩:=bind_mem.1 he;exact hall e (by simpa using h1) h2
  have hun:listed.getD i false=false:=by
   have hlt:i<listed.size:=by rw [h.sz];exact (Array.getElem?_eq_some_iff.1 ho).1
   simp [hlt] at hl ⊢;exact hl
  have hop:=hops5_at hh (i:=i) (by simpa using ho);rw [Nat.zero_add] at hop
  have h1:=hop (fun d=>a.tmps.getD d undef) w h.g (fun hs=>h.pre (WH h.closed hun hs)) (fun d hd hm=>h.old_ hun hd hm) (depsF_of fun e he=>by
   have h2:=hwait e he;have h3:=K.early i o ho e he;have h4:e.on<ops.size:=by have:=(Array.getElem?_eq_some_iff.1 ho).1;omega
   exact h.facts e.on _ (Array.getElem?_eq_getElem h4) h2)
  rw [← h.is] at h1;unfold wpOp;simp only [ho]
  have next:∀a' w',(∃v,a'=a.put o.dst v∧(fAt T i).at_ (upd (fun d=>a.tmps.getD d undef) o.dst v) w'∧(w.grownBy w' none∨(Chg (fun b=>W.heap.size≤b∨(i=s0∧b=g0)) w w'∧keeps (fun d=>a.tmps.getD d undef) w w' i T 0)))→wpAny P .any ops Q fuel (listed.setIfInBounds i true) a' w':=fun a' w' ⟨v,ha,hv,hg⟩=>by
   subst ha;exact ih _ _ _ (h.step K hsz hst ho hun hwait hv hg) (Wa hc hl)
  unfold wpList at h1
  split
  ·rename_i hw
   rw [if_pos hw] at h1
   rcases h1 with h1 | h1
   ·exact .inl (XK (Oper.wp_mono next h1))
   ·exact (XA h1.2).elim
  ·rename_i hw
   rw [if_neg hw] at h1;exact next _ _ h1
theorem UY {id:Nat} {w:World} (T:List Fact) (s0 g0:Nat) (hm:P.follows .mixedOrders=true) (hB:regB ops (T.map (·.ts))=true) (hsz:(dsts ops).all (fun d=>d<a0.tmps.size)=true) (hst:Zn T)
  (hh:hops5 P ops T w.drew a0 s0 g0 ops.toList 0)
  (fin:∀(f:Tmp→Value) (w':World),Chg (fun b=>b=g0) w.drew w'→knowsF T f w' T→Q .normal (puts a0 (dsts ops) f) w'):(Code.region id ops true).wp P Q a0 w:=by
 refine wp_region_any hm (reg5_any (W:=w.drew) (T:=T) (RegOk.of hB) (fun d hd=>by simpa using List.all_eq_true.1 hsz d hd) hst hh fin ops.size _ a0 _ ⟨Chg.refl _ _,fun _=>gbR _ _,fun _ _ _ _ _ _=>rfl,by simp,rfl,rfl,fun _ _=>rfl, ?_, ?_⟩ ?_)
 ·intro k o hk hl
  simp only [Array.getD_eq_getD_getElem?,Array.getElem?_replicate] at hl
  split at hl <;> simp at hl
 ·intro k o hk hl
  simp only [Array.getD_eq_getD_getElem?,Array.getElem?_replicate] at hl
  split at hl <;> simp at hl
 ·have:=List.countP_le_length (p:=fun b:Bool=>!b) (l:=(Array.replicate ops.size false).toList)
  simpa using this
end
section
variable {P:Program}
variable {ops:Array Oper} {rest:List Oper} {o:Oper} {a:Act} {Q:Exit→Act→World→Prop}
end
theorem Vw {w:World} {base n size:Nat} {e:TypeId} {v:Value} {xs:List Value} (h:w.ownsRow base e size v n xs) (hn:0<n):∃g c,v=.slice (some ⟨g,0,none⟩) n c∧n≤c∧base≤g∧c≤maxLen:=by
 rcases h.2 with ⟨_,h0⟩ | ⟨g,cap,cur,hv,hb,hg,hnc,hcm,hcs,ht⟩
 ·omega
 ·exact ⟨g,cap,hv,hnc,hb,hcm⟩
def evD (p:Int) (ins l:List Int) (s:Stp):Int :=
 if s.1=1 then ins.getD s.2.1.toNat 0 else if s.1=3 then (l.getD s.2.1.toNat 0+l.getD s.2.2.toNat 0) % p else if s.1=4 then (l.getD s.2.1.toNat 0*l.getD s.2.2.toNat 0) % p else s.2.1
def evS (m:AM) (ins:List Int):Nat→List Int
 | 0=>[]
 | k+1=>evS m ins k ++ [evD m.p ins (evS m ins k) (stAt m k)]
structure EvOk (m:AM) (ins:List Int):Prop where
 ok:AOk m
 len:ins.length=60
 el:elemsB m.p ins=true
open Classical in
noncomputable def evB (m:AM) (ins:List Int):Bool:=decide (EvOk m ins)
theorem evB_no {m:AM} {ins:List Int} (h:¬EvOk m ins):evB m ins=false:=by simp [evB,h]
def evOut (m:AM) (ins:List Int) (k:Nat):List Int:=(m.outs.take k).map fun o=>(evS m ins m.st.length).getD o.toNat 0
open Classical in
noncomputable def evR (m:AM) (ins:List Int):List Int:=if EvOk m ins then evOut m ins m.outs.length else []
theorem evR_no {m:AM} {ins:List Int} (h:¬EvOk m ins):evR m ins=[]:=by simp [evR,h]
def EvJ (m:AM) (ins:List Int) (w:World) (e:Ending) (w':World):Prop:=∃V,e=.returned (.tuple #[V,.bool (evB m ins)])∧w'.ownsRow w.heap.size 3 1 V (evR m ins).length ((evR m ins).map (Value.int .i64))∧w.grownBy w' none
theorem EvJ.no {m:AM} {ins:List Int} {w w':World} {V:Value} (h:¬EvOk m ins) (ho:w'.ownsRow w.heap.size 3 1 V 0 []) (hg:w.grownBy w' none):EvJ m ins w (.returned (.tuple #[V,.bool false])) w':=⟨V,by rw [evB_no h],by rw [evR_no h];exact ho,hg⟩
theorem EvJ.own {m:AM} {ins:List Int} {w w':World} {e:Ending} (h:EvJ m ins w e w'):∃V F,e=.returned (.tuple #[V,.bool (evB m ins)])∧(cints (evR m ins)).own w' F V∧(∀g∈F,w.heap.size≤g)∧w.grownBy w' none:=by
 obtain ⟨V,h1,h2,h3⟩:=h;exact ⟨V,_,h1,Yi h2,fun g hg=>(h2.lt g (by simpa using hg)).1,h3⟩
def rowL (lo:Nat) (n:Nat) (xs:List Value) (v:Value) (w:World):Prop:=∃A c,v=.slice A n c∧w.ownsRow lo 3 1 v n xs
theorem rowL_st {lo n:Nat} {xs:List Value}:stable (rowL lo n xs):=fun v w w' h hg=>by
 obtain ⟨A,c,e1,ho⟩:=h;exact ⟨A,c,e1,Zu ho hg⟩
def eqF (a b:Tmp):Fact:=⟨[a,b],fun l _=>l.getD 0 undef=l.getD 1 undef⟩
theorem eqF_st (a b:Tmp):Ve (eqF a b):=fun _ _ _ h _=>h
theorem Xk (a b:Tmp) (f:Tmp→Value) (w:World):(eqF a b).at_ f w=(f a=f b):=rfl
def lit1 (H:Nat) (x:Value) (v:Value) (w:World):Prop:=∃g,v=.slice (some ⟨g,0,none⟩) 1 1∧w.ownsRow H 3 1 v 1 [x]
theorem lit1_st {H:Nat} {x:Value}:stable (lit1 H x):=fun v w w' h hg=>by
 obtain ⟨g,e1,ho⟩:=h;exact ⟨g,e1,Zu ho hg⟩
theorem own_litI {w:World} {base:Nat} (hb:base≤w.heap.size) (u:Value) (e:TypeId):(w.alloc (.cells #[u] e)).ownsRow base e 1 (.slice (some ⟨w.heap.size,0,none⟩) 1 1) 1 [u] :=
 ⟨rfl,.inr ⟨_,1,#[u],rfl,hb,heap_alloc_new w _,Nat.le_refl _,by unfold maxLen;omega,rfl,rfl⟩⟩
theorem ints_one (zs:List Int):∀u∈zs.map (Value.int .i64),u.oneCell'=true:=by
 intro u hu;obtain ⟨z,_,rfl⟩:=List.mem_map.1 hu;rfl
theorem Qv (A:Option Addr) (n c:Nat) (zs:List Int) (w:World) (hx:Ints w A n zs) (hn:n≤1099511627776) :
  Calls Tryz.prog 130 #[.slice A n c] w fun e w'=>∃v,e=.returned v∧w'.ownsRow w.heap.size 3 1 v n (zs.map (Value.int .i64))∧w.grownBy w' none:=by
 have hr:=World.ownsRow_made (e:=3) (size:=1) w #[] 0 (Nat.le_refl _) (by simp) rfl
 go_enter Tryz.func130,Tryz.ntmps130
 go_wp2_with (at_builtin;refine Ws _ YF rfl (.tmp 3) (.tmp 4) rfl w.heap.size _ 0 [] hr rfl A n c _ rfl (hx.grow (gbA (gbR w none) _)) (ints_one zs) (by unfold maxLen;omega) (by omega) (by simp) ?_;intro v' w1 hown1 hgrow)
 go_ret;exact ⟨v',rfl,by simpa using hown1,gbN (gbA (gbR w none) _) hgrow fun g e=>Nat.le_of_eq (show w.heap.size=g by simpa [Value.ownBlock] using e)⟩
end Go.Proofs.YthaadgdeadbhkaaGreat
