/-
 Triples: what they read as;TripleUse of the program.
-/
import Derived.Test.YthaadgdeadbhkaaGreatMgFnExactEngineRound17
open Go.RowKit
set_option linter.unusedVariables false
set_option linter.unusedSimpArgs false
namespace Go.Proofs.YthaadgdeadbhkaaGreat
structure TrM where
 a:AuM
 b:AuM
 c:AuM
abbrev ctriple (m:TrM):List CS:=cauth m.a ++ (cauth m.b ++ cauth m.c)
def twf (m:TrM):Prop:=awf m.a∧awf m.b∧awf m.c
theorem RdAll.split {w:World} {cs ds:List CS} {vs:List Value} (h:RdAll w (cs ++ ds) vs):∃us ts,vs=us ++ ts∧RdAll w cs us∧RdAll w ds ts:=by
 refine ⟨vs.take cs.length,vs.drop cs.length,(List.take_append_drop _ _).symm,⟨?_,fun i c v hc hv => ?_⟩, ?_,fun i c v hc hv => ?_⟩
 ·have:=h.1;simp at this ⊢;omega
 ·have hi:=(List.getElem?_eq_some_iff.1 hc).1
  rw [List.getElem?_take,if_pos hi] at hv;exact h.2 i c v (by rw [List.getElem?_append_left hi];exact hc) hv
 ·have:=h.1;simp at this ⊢;omega
 ·rw [List.getElem?_drop] at hv
  exact h.2 _ c v (by rw [List.getElem?_append_right (by omega),Nat.add_sub_cancel_left];exact hc) hv
theorem YD {w:World} {m:TrM} {v:Value} (h:AggR w (ctriple m) v):∃A a B b C c D d E e F f,v=.agg #[.slice A m.a.sh.length a,.slice B m.a.mc.length b,.slice C m.b.sh.length c,.slice D m.b.mc.length d,.slice E m.c.sh.length e,.slice F m.c.mc.length f] ∧
  AggR w (cauth m.a) (.agg #[.slice A m.a.sh.length a,.slice B m.a.mc.length b])∧AggR w (cauth m.b) (.agg #[.slice C m.b.sh.length c,.slice D m.b.mc.length d])∧AggR w (cauth m.c) (.agg #[.slice E m.c.sh.length e,.slice F m.c.mc.length f]):=by
 obtain ⟨vs,rfl,h⟩:=h;obtain ⟨u,t,rfl,h1,h⟩:=RdAll.split h;obtain ⟨y,z,rfl,h2,h3⟩:=RdAll.split h;obtain ⟨A,a,B,b,e1,_⟩:=ZC ⟨u,rfl,h1⟩;obtain ⟨C,c,D,d,e2,_⟩:=ZC ⟨y,rfl,h2⟩;obtain ⟨E,e,F,f,e3,_⟩:=ZC ⟨z,rfl,h3⟩;injection e1 with e1;injection e2 with e2;injection e3 with e3;have e1:u=[.slice A m.a.sh.length a,.slice B m.a.mc.length b]:=by have:=congrArg Array.toList e1;simpa using this
 have e2:y=[.slice C m.b.sh.length c,.slice D m.b.mc.length d]:=by have:=congrArg Array.toList e2;simpa using this
 have e3:z=[.slice E m.c.sh.length e,.slice F m.c.mc.length f]:=by have:=congrArg Array.toList e3;simpa using this
 subst e1;subst e2;subst e3;exact ⟨A,a,B,b,C,c,D,d,E,e,F,f,rfl,⟨_,rfl,h1⟩,⟨_,rfl,h2⟩,⟨_,rfl,h3⟩⟩
theorem Vb {w:World} {cs:List CS} {vs:List Value} (h:AggR w cs (.agg vs.toArray)):RdAll w cs vs:=by
 obtain ⟨us,e,h⟩:=h;injection e with e;have e:us=vs:=by have:=congrArg Array.toList e;simpa using this.symm
 exact e ▸ h
theorem Vh {w:World} (xs:List AuM) (vs:List Value) (n:Nat) (h:RdAll w (xs.flatMap cauth) vs) (hn:xs.length=n) (hm:n≤100) :
  (cauths xs).rd (w.alloc (.cells vs.toArray 80)) (.slice (some ⟨w.heap.size,0,none⟩) n n):=by
 have hl:vs.length=n*2:=by rw [h.1,ZI (sz:=2) (fun _=>rfl),hn]
 refine Vp (s:=2) (vs:=vs) (fun _=>rfl) hn (Nat.le_refl _) (by unfold maxLen;omega) (h.grow (gbA (gbR w none) _)) ⟨hl,fun _=>⟨w.heap.size,0,rfl,by simp,fun j hj => ?_⟩⟩;rw [Nat.zero_add,cell_of_row _ _ j _ _ (0,0) (heap_alloc_new w _)];simp
theorem cints_ty {w:World} {xs:List Int} {F:List Nat} {v:Value} (h:(cints xs).own w F v):∀x∈F,∃cur z,w.heap[x]?=some (.cells cur 3 z):=by
 obtain ⟨n,vs,Fs,h1,h2,h3,h4,h5⟩:=h;rw [Vf] at h3;rw [Ug h3,List.append_nil] at h4;intro x hx;rw [h4] at hx;have hx:v.ownBlock=some x:=by simpa using hx
 rcases h2.2 with ⟨e,_⟩ | ⟨g,cap,cur,hv,_,hg,_⟩
 ·rw [e] at hx;cases hx
 ·rw [hv] at hx
  have:g=x:=by simpa [Value.ownBlock] using hx
  subst this;exact ⟨_,_,hg⟩
theorem autF.far {lo g:Nat} {m:AuM} {v:Value} {w w':World} {T:TypeId} {cs:Array Value} (h:autF lo m v w) (B:Blk w g T cs) (k:Chg (fun y=>y=g) w w') (hT:3≠T:=by decide):autF lo m v w':=by
 obtain ⟨F,h1,h2⟩:=h;refine ⟨F,h1.chg k (fun x hx (e:x=g) => ?_),h2⟩;subst e;obtain ⟨u0,u1,F0,F1,_,rfl,o0,o1,_⟩:=UT h1
 have:∃cur z,w.heap[x]?=some (.cells cur 3 z):=by
  simp at hx
  rcases hx with hx | hx
  ·exact cints_ty o0 x hx
  ·exact cints_ty o1 x hx
 obtain ⟨cur,z,hc⟩:=this;unfold Blk at B;rw [B] at hc;injection hc with hc;injection hc with _ h3 _;exact hT h3.symm
def authBox (W lo:Nat) (m:AuM) (v:Value) (w:World):Prop:=∃g9 A9 n9 c9 B9 k9 d9,v=.pointer (some ⟨g9,0,none⟩)∧W≤g9∧autF lo m (.agg #[.slice A9 n9 c9,.slice B9 k9 d9]) w∧Blk w g9 80 #[.slice A9 n9 c9,.slice B9 k9 d9]
def Zw (k:KM) (x:TrM) (d e:Int):AuM:=if (formB k x.a&&formB k x.b&&formB k x.c)&&(elemB k.p d&&elemB k.p e) then ZM k (Zk k (Zk k x.c (Ze k x.b d)) (Ze k x.a e)) ((d*e) % k.p) else noA
def hop6 (P:Program) (ops:Array Oper) (T:List Fact) (W:World) (a0:Act) (touch:List (Nat × Nat)) (o:Oper) (k:Nat):Prop :=
 ∀(f:Tmp→Value) (w:World),Chg (fun b=>∃s,(s,b)∈touch) W w→(∀b,b<W.heap.size→(∀s,(s,b)∈touch→aheadB ops s k=true)→w.heap[b]?=W.heap[b]?)→(∀d,oldB ops k d=true→d∈dsts ops→f d=a0.tmps.getD d undef)→depsF T f w (bindE o) →
  wpList P ops (Only fun a' w'=>∃v,a'=(puts a0 (dsts ops) f).put o.dst v∧(fAt T k).at_ (upd f o.dst v) w'∧(w.grownBy w' none∨(Chg (fun b=>W.heap.size≤b∨(k,b)∈touch) w w'∧keeps f w w' k T 0))) [o] (puts a0 (dsts ops) f) w
structure GInv6 (ops:Array Oper) (T:List Fact) (W:World) (a0:Act) (touch:List (Nat × Nat)) (listed:Array Bool) (a:Act) (w:World):Prop where
 g:Chg (fun b=>∃s,(s,b)∈touch) W w
 pre:∀b,b<W.heap.size→(∀s,(s,b)∈touch→listed.getD s false=false)→w.heap[b]?=W.heap[b]?
 old:∀i o d,ops[i]?=some o→o.dst=some d→listed.getD i false=false→a.tmps.getD d undef=a0.tmps.getD d undef
 sz:listed.size=ops.size
 tz:a.tmps.size=a0.tmps.size
 df:a.defers=a0.defers
 out:∀t,t∉dsts ops→a.tmps[t]?=a0.tmps[t]?
 facts:∀k o,ops[k]?=some o→listed.getD k false=true→(fAt T k).at_ (fun d=>a.tmps.getD d undef) w
 closed:∀k o,ops[k]?=some o→listed.getD k false=true→∀e∈bindE o,listed.getD e.on false=true
section
variable {P:Program} {ops:Array Oper} {T:List Fact} {W:World} {a0:Act} {touch:List (Nat × Nat)} {Q:Exit→Act→World→Prop}
theorem GInv6.step {listed:Array Bool} {a:Act} {w:World} (K:RegOk ops T) (hsz:∀d∈dsts ops,d<a0.tmps.size) (hst:Zn T) (h:GInv6 ops T W a0 touch listed a w) {i:Nat} {o:Oper} (hi:ops[i]?=some o)
  (hun:listed.getD i false=false) (hwait:∀e∈bindE o,listed.getD e.on false=true) {v:Value} {w':World} (hv:(fAt T i).at_ (upd (fun d=>a.tmps.getD d undef) o.dst v) w')
  (hg:w.grownBy w' none∨(Chg (fun b=>W.heap.size≤b∨(i,b)∈touch) w w'∧keeps (fun d=>a.tmps.getD d undef) w w' i T 0)):GInv6 ops T W a0 touch (listed.setIfInBounds i true) (a.put o.dst v) w':=by
 have hdlt:∀d,o.dst=some d→d<a.tmps.size:=fun d hd=>by rw [h.tz];exact hsz d (Yw hi hd)
 have hil:i<listed.size:=by rw [h.sz];exact (Array.getElem?_eq_some_iff.1 hi).1
 have lset:∀k,k≠i→(listed.setIfInBounds i true).getD k false=listed.getD k false:=fun k hk=>by
  simp only [Array.getD_eq_getD_getElem?,Array.getElem?_setIfInBounds,Ne.symm hk,if_false]
 have lold:∀k,listed.getD k false=true→(listed.setIfInBounds i true).getD k false=true:=fun k hk=>by
  by_cases e:k=i
  ·subst e;simp [hil]
  ·rw [lset k e];exact hk
 have hf:(fun d=>(a.put o.dst v).tmps.getD d undef)=upd (fun d=>a.tmps.getD d undef) o.dst v:=by
  funext t;exact Wb a o.dst v t hdlt
 refine ⟨?_,fun b hbW hs => ?_,fun j oj d hj hd hl => ?_,by simp [h.sz], ?_, ?_,fun t ht => ?_,fun k ok hk hl => ?_,fun k ok hk hl e he => ?_⟩
 ·rcases hg with hg | ⟨hg,_⟩
  ·exact h.g.trans (Chg.of hg fun g hg'=>by simp at hg')
  ·refine ⟨hg.os.trans h.g.os,hg.tape.trans h.g.tape,hg.output.trans h.g.output,Nat.le_trans h.g.size hg.size,fun b hb hs => ?_⟩
   rw [hg.block b (Nat.lt_of_lt_of_le hb h.g.size) fun hs' => ?_,h.g.block b hb hs]
   rcases hs' with h1 | h1
   ·omega
   ·exact hs ⟨i,h1⟩
 ·have hb':∀s,(s,b)∈touch→listed.getD s false=false:=fun s hs'=>by
   have h1:=hs s hs'
   cases hl:listed.getD s false with
   | false=>rfl
   | true=>rw [lold s hl] at h1;cases h1
  have hib:(i,b)∉touch:=fun hi'=>by have h1:=hs i hi';simp [hil] at h1
  have h0:=h.pre b hbW hb';have hbw:b<w.heap.size:=Nat.lt_of_lt_of_le hbW h.g.size
  rcases hg with hg | ⟨hg,_⟩
  ·exact (hg.block b hbw (by simp)).trans h0
  ·refine (hg.block b hbw fun hs' => ?_).trans h0
   rcases hs' with h1 | h1
   ·omega
   ·exact hib h1
 ·have hji:j≠i:=fun e=>by subst e;simp [hil] at hl
  rw [lset j hji] at hl;have hne:o.dst≠some d:=fun hd'=>ZZ K.nodup (l:=ops.toList) (i:=j) (j:=i) (by simpa using hj) (by simpa using hi) hji hd hd';have h9:(a.put o.dst v).tmps.getD d undef=upd (fun d=>a.tmps.getD d undef) o.dst v d:=congrFun hf d;rw [h9,YR _ _ _ _ hne];exact h.old j oj d hj hd hl
 ·rw [← h.tz];cases o.dst <;> simp [Act.put]
 ·rw [← h.df];cases o.dst <;> rfl
 ·rw [← h.out t ht]
  cases hd:o.dst with
  | none=>rfl
  | some d =>
   have:d≠t:=fun e=>ht (e ▸ Yw hi hd);simp [Act.put,this]
 ·rw [hf]
  by_cases hik:k=i
  ·subst hik
   exact hv
  ·rw [lset k hik] at hl
   have hold:=h.facts k ok hk hl
   have hne:∀t∈(fAt T k).ts,o.dst≠some t:=fun t ht hd=>by
    rcases K.sup k ok hk t ht with h1 | ⟨e,he,o',ho',hd'⟩
    ·exact ZZ K.nodup (l:=ops.toList) (i:=k) (j:=i) (by simpa using hk) (by simpa using hi) hik h1 hd
    ·have h2:=h.closed k ok hk hl e he
     have h3:e.on≠i:=fun x=>by rw [x,hun] at h2;cases h2
     exact ZZ K.nodup (l:=ops.toList) (i:=e.on) (j:=i) (by simpa using ho') (by simpa using hi) h3 hd' hd
   have hmap:(fAt T k).ts.map (upd (fun d=>a.tmps.getD d undef) o.dst v)=(fAt T k).ts.map (fun d=>a.tmps.getD d undef):=List.map_congr_left fun t ht=>YR _ _ _ _ (hne t ht);unfold Fact.at_;rw [hmap]
   rcases hg with hg | ⟨_,hk2⟩
   ·exact Xa hst k _ _ _ hold hg
   ·cases hT:T[k]? with
    | none=>unfold fAt;rw [hT];trivial
    | some F =>
     have e:fAt T k=F:=by unfold fAt;rw [hT];rfl
     rw [e] at hold ⊢;exact Wr hk2 hT (by omega) hold
 ·by_cases hik:k=i
  ·subst hik
   obtain rfl:ok=o:=by rw [hi] at hk;injection hk with hk;exact hk.symm
   exact lold _ (hwait e he)
  ·rw [lset k hik] at hl
   exact lold _ (h.closed k ok hk hl e he)
theorem GInv6.is {listed:Array Bool} {a:Act} {w:World} (h:GInv6 ops T W a0 touch listed a w):a=puts a0 (dsts ops) (fun d=>a.tmps.getD d undef):=Vd h.tz h.df h.out
theorem GInv6.old_ {listed:Array Bool} {a:Act} {w:World} (h:GInv6 ops T W a0 touch listed a w) {k d:Nat} (hk:listed.getD k false=false) (ho:oldB ops k d=true) (hd:d∈dsts ops):a.tmps.getD d undef=a0.tmps.getD d undef:=by
 unfold dsts at hd;obtain ⟨o,ho',hd'⟩:=List.mem_filterMap.1 hd;obtain ⟨i,hi⟩:=List.mem_iff_getElem?.1 ho';have hi':ops[i]?=some o:=by simpa using hi
 refine h.old i o d hi' hd' (WH h.closed hk ?_);have:=List.all_eq_true.1 ho (o,i) (by rw [List.mem_zipIdx_iff_getElem?];simpa using hi')
 simpa [hd'] using this
end
def SOF (T:TypeId) (cs:List CS) (g:Nat) (F:List Nat) (w:World):Prop:=∃vs Fs,Blk w g T vs.toArray∧OwnAll w cs vs Fs∧F=Fs.flatten∧g∉F
section
variable {T:TypeId} {cs:List CS} {g:Nat} {F:List Nat} {w w':World}
theorem SOF.chg {S:Nat→Prop} (h:SOF T cs g F w) (k:Chg S w w') (hF:∀x∈F,¬S x) (hg:¬S g):SOF T cs g F w':=by
 obtain ⟨vs,Fs,h1,h2,rfl,h4⟩:=h;exact ⟨vs,Fs,h1.chg k hg,h2.kept fun x hx=>k.block x (h2.lt x hx) (hF x hx),rfl,h4⟩
theorem SOF.grow (h:SOF T cs g F w) (k:w.grownBy w' none):SOF T cs g F w':=h.chg (S:=fun _=>False) (Chg.of k (by simp)) (fun _ _=>id) id
theorem SOF.lt (h:SOF T cs g F w):∀x∈F,x<w.heap.size:=by
 obtain ⟨vs,Fs,h1,h2,rfl,h4⟩:=h;exact h2.lt
theorem SOF.ltg (h:SOF T cs g F w):g<w.heap.size:=by
 obtain ⟨vs,Fs,h1,h2,rfl,h4⟩:=h;exact h1.lt
theorem SOF.out (h:SOF T cs g F w):g∉F:=by
 obtain ⟨vs,Fs,h1,h2,rfl,h4⟩:=h;exact h4
theorem SOF.agg (h:SOF T cs g F w):∃vs:List Value,Blk w g T vs.toArray∧AggO w cs F (.agg vs.toArray):=by
 obtain ⟨vs,Fs,h1,h2,rfl,h4⟩:=h;exact ⟨vs,h1,vs,Fs,rfl,h2,rfl⟩
theorem SOF.made {vs:List Value} (B:Blk w g T vs.toArray) (h:AggO w cs F (.agg vs.toArray)) (hn:g∉F):SOF T cs g F w:=by
 obtain ⟨us,Fs,e,h1,rfl⟩:=h;injection e with e;have e:us=vs:=by have:=congrArg Array.toList e;simpa using this.symm
 subst e;exact ⟨us,Fs,B,h1,rfl,hn⟩
theorem SOF.at_ (h:SOF T cs g F w) {i:Nat} {c:CS} (hc:cs[i]?=some c) :
  ∃u Fi,w.cell? ⟨g,i,none⟩=some u∧w.frozen? ⟨g,i,none⟩=false∧c.own w Fi u∧(∀x∈Fi,x∈F)∧g∉Fi ∧
   (∀(w':World) (c':CS) (u':Value) (Fi':List Nat),Chg (fun x=>x∈Fi) w w'→c'.own w' Fi' u'→(∀x∈Fi',x∈Fi∨w.heap.size≤x)→∃F',SOF T (cs.set i c') g F' (w'.setCell ⟨g,i,none⟩ u')∧∀x∈F',x∈F∨w.heap.size≤x) ∧
   (∀(w':World) (c':CS) (Fi':List Nat),Chg (fun x=>x∈Fi) w w'→c'.own w' Fi' u→(∀x∈Fi',x∈Fi∨w.heap.size≤x)→∃F',SOF T (cs.set i c') g F' w'∧∀x∈F',x∈F∨w.heap.size≤x):=by
 obtain ⟨vs,Fs,h1,h2,rfl,h4⟩:=h;have hi:=(List.getElem?_eq_some_iff.1 hc).1;obtain ⟨c0,u,Fi,e1,e2,e3,ho⟩:=h2.get hi;rw [hc] at e1;injection e1 with e1;subst e1;have hi':i<Fs.length:=by rw [h2.lf];exact hi
 have hFi:Fs.getD i []=Fi:=by rw [zF,e3];rfl
 have hmem:∀x∈Fi,x∈Fs.flatten:=fun x hx=>Vo e3 hx;have hgi:g∉Fi:=fun hx=>h4 (hmem g hx);have hcell:=h1.cell i;have hlv:=h2.lv;have hgl:=h1.lt
 have hset:∀(w':World) (c':CS) (u':Value) (Fi':List Nat),Chg (fun x=>x∈Fi) w w'→c'.own w' Fi' u'→(∀x∈Fi',x∈Fi∨w.heap.size≤x)→OwnAll w' (cs.set i c') (vs.set i u') (Fs.set i Fi')∧(∀x∈(Fs.set i Fi').flatten,x∈Fs.flatten∨w.heap.size≤x)∧g∉(Fs.set i Fi').flatten:=fun w' c' u' Fi' hch ho' hsub=>by
  have a1:=h2.set_ (i:=i) hi (w':=w') ho' (fun x hx hx'=>hch.block x (h2.lt x hx) (by rw [hFi] at hx';exact hx')) (fun x hx hx'=>by
   rw [hFi]
   rcases hsub x hx with h6 | h6
   ·exact h6
   ·have:=h2.lt x hx';omega)
  have a2:∀x∈(Fs.set i Fi').flatten,x∈Fs.flatten∨w.heap.size≤x:=fun x hx=>by
   rcases Wj hi' hx with h6 | h6
   ·exact .inl h6
   ·exact (hsub x h6).imp (hmem x) id
  refine ⟨a1,a2,fun hx => ?_⟩
  rcases a2 g hx with h6 | h6
  ·exact h4 h6
  ·omega
 refine ⟨u,Fi, ?_,h1.frozen i,ho,hmem,hgi,fun w' c' u' Fi' hch ho' hsub => ?_,fun w' c' Fi' hch ho' hsub => ?_⟩
 ·rw [hcell]
  simpa using e2
 ·obtain ⟨a1,a2,a3⟩:=hset w' c' u' Fi' hch ho' hsub
  have hb:=((h1.chg hch hgi).set_ i u');refine ⟨_,⟨vs.set i u',Fs.set i Fi',by simpa using hb,a1.kept fun x hx=>Below.heap_setCell w' ⟨g,i,none⟩ u' x (fun e=>a3 (by have e':x=g:=e;rw [e'] at hx;exact hx)),rfl,a3⟩,a2⟩
 ·obtain ⟨a1,a2,a3⟩:=hset w' c' u Fi' hch ho' hsub
  have hvs:vs.set i u=vs:=by
   apply List.ext_getElem?;intro j;rw [List.getElem?_set]
   split
   ·rename_i e;subst e;rw [e2,if_pos (by rw [hlv];exact hi)]
   ·rfl
  rw [hvs] at a1;exact ⟨_,⟨vs,Fs.set i Fi',h1.chg hch hgi,a1,rfl,a3⟩,a2⟩
theorem SOF.put (h:SOF T cs g F w) {i:Nat} {c c':CS} {u':Value} (hc:cs[i]?=some c) (ho:∀w,c'.own w [] u'):∃F',SOF T (cs.set i c') g F' (w.setCell ⟨g,i,none⟩ u')∧∀x∈F',x∈F∨w.heap.size≤x:=by
 obtain ⟨u,Fi,_,_,_,_,_,h6,_⟩:=h.at_ hc;exact h6 w c' u' [] (Chg.refl _ _) (ho w) (by simp)
end
theorem XU {vs:List AuM} {g n c:Nat} {F:List Nat} {w:World} (h:(cauths vs).own w F (.slice (some ⟨g,0,none⟩) n c)) {i:Nat} (hi:i<vs.length) {x:AuM} {u0 u1:Value} {Fx:List Nat} (hx:AggO w (cauth x) Fx (.agg #[u0,u1])) (hd:∀y∈Fx,y∉F) :
  ∃F',(cauths (vs.set i x)).own ((w.setCell ⟨g,i*2,none⟩ u0).setCell ⟨g,i*2+1,none⟩ u1) F' (.slice (some ⟨g,0,none⟩) n c)∧∀y∈F',y∈F∨y∈Fx:=by
 obtain ⟨t0,t1,F0,F1,e,rfl,o0,o1,d⟩:=UT hx;injection e with e;injection e with e;injection e with e0 e;injection e with e1 _;subst e0;subst e1;simp only [List.flatten_cons,List.flatten_nil,List.append_nil,List.mem_append] at hd;have hlen:(vs.flatMap cauth).length=vs.length*2:=ZI (sz:=2) (fun _=>rfl) vs;have hgF:g∈F:=row_ob h rfl;obtain ⟨F',k1,k2⟩:=row_set (i:=i*2) h (by rw [hlen];omega) o0 (fun y hy=>hd y (.inl hy));have hg0:g∉F0:=fun hy=>hd g (.inl hy) hgF;have hg1:g∉F1:=fun hy=>hd g (.inr hy) hgF
 obtain ⟨F'',m1,m2⟩:=row_set (i:=i*2+1) k1 (by rw [List.length_set,hlen];omega) (Vr _ o1 g (i*2) hg1 u0) (fun y hy hy'=>by
  rcases k2 y hy' with h6 | h6
  ·exact hd y (.inr hy) h6
  ·exact d y h6 hy)
 have hfl:((vs.flatMap cauth).set (i*2) (cints x.sh)).set (i*2+1) (cints x.mc)=(vs.set i x).flatMap cauth:=by
  apply List.ext_getElem?;intro j;have hm:j % 2<2:=Nat.mod_lt _ (by omega);rw [List.getElem?_set,List.getElem?_set,List.length_set,hlen,Yx (sz:=2) (fun _=>rfl) (by omega) vs,Yx (sz:=2) (fun _=>rfl) (by omega) (vs.set i x)];rw [List.getElem?_set]
  by_cases e:i=j / 2
  ·subst e
   rw [if_pos rfl,if_pos hi]
   rcases Nat.lt_or_ge (j % 2) 1 with h6 | h6
   ·have h7:j % 2=0:=by omega
    rw [if_neg (by omega),if_pos (by omega),if_pos (by omega),h7];rfl
   ·have h7:j % 2=1:=by omega
    rw [if_pos (by omega),if_pos (by omega),h7];rfl
  ·rw [if_neg e,if_neg (by omega),if_neg (by omega)]
 refine ⟨F'',by rw [hfl] at m1;exact m1,fun y hy => ?_⟩
 rcases m2 y hy with h6 | h6
 ·rcases k2 y h6 with h7 | h7
  ·exact .inl h7
  ·exact .inr (by simp [h7])
 ·exact .inr (by simp [h6])
theorem ZE {P:List Value→World→Prop} {ts:List Tmp} (h:∀l w w',P l w→w.grownBy w' none→P l w'):Ve ⟨ts,P⟩:=fun l w w' a b=>h l w w' a b
theorem Chg.join {S T:Nat→Prop} {a b c:World} (h:Chg S a b) (k:Chg T b c) (hT:∀i,T i→S i∨a.heap.size≤i):Chg S a c :=
 ⟨k.os.trans h.os,k.tape.trans h.tape,k.output.trans h.output,Nat.le_trans h.size k.size,fun i hi hs=>(k.block i (Nat.lt_of_lt_of_le hi h.size) (fun ht=>by
  rcases hT i ht with h1 | h1
  ·exact hs h1
  ·omega)).trans (h.block i hi hs)⟩
theorem WJ {T:List Fact} {f:Tmp→Value} {w:World}:∀{l:List Fact} {i:Nat} {F:Fact},knowsF T f w l→l[i]?=some F→F.at_ f w
 | [],_,_,_,h=>by simp at h
 | G :: l,0,F,hk,h=>by simp at h;subst h;exact hk.1
 | G :: l,i+1,F,hk,h=>WJ (i:=i) hk.2 (by simpa using h)
def ownF (lo:Nat) (c:CS) (v:Value) (w:World):Prop:=∃F,c.own w F v∧∀x∈F,lo≤x
def aggF (lo:Nat) (cs:List CS) (v:Value) (w:World):Prop:=∃F,AggO w cs F v∧∀x∈F,lo≤x
theorem ownF_st {lo:Nat} {c:CS}:stable (ownF lo c):=fun v w w' ⟨F,h1,h2⟩ hg=>⟨F,Zj _ h1 hg,h2⟩
theorem aggF_st {lo:Nat} {cs:List CS}:stable (aggF lo cs):=fun v w w' ⟨F,h1,h2⟩ hg=>⟨F,h1.grow hg,h2⟩
theorem ownF.grow {lo:Nat} {c:CS} {v:Value} {w w':World} (h:ownF lo c v w) (hg:w.grownBy w' none):ownF lo c v w':=ownF_st v w w' h hg
theorem aggF.grow {lo:Nat} {cs:List CS} {v:Value} {w w':World} (h:aggF lo cs v w) (hg:w.grownBy w' none):aggF lo cs v w':=aggF_st v w w' h hg
theorem ownF.lo {lo lo':Nat} {c:CS} {v:Value} {w:World} (h:ownF lo c v w) (hl:lo'≤lo):ownF lo' c v w:=by
 obtain ⟨F,h1,h2⟩:=h;exact ⟨F,h1,fun x hx=>Nat.le_trans hl (h2 x hx)⟩
theorem aggF.lo {lo lo':Nat} {cs:List CS} {v:Value} {w:World} (h:aggF lo cs v w) (hl:lo'≤lo):aggF lo' cs v w:=by
 obtain ⟨F,h1,h2⟩:=h;exact ⟨F,h1,fun x hx=>Nat.le_trans hl (h2 x hx)⟩
theorem aggF.rd {lo:Nat} {cs:List CS} {v:Value} {w:World} (h:aggF lo cs v w):AggR w cs v:=by
 obtain ⟨F,h1,_⟩:=h;exact h1.rd
theorem ownF.ints {lo n:Nat} {xs:List Int} {v:Value} {w:World} (h:w.ownsRow lo 3 1 v n (xs.map (Value.int .i64))):ownF lo (cints xs) v w :=
 ⟨_,Yi h,fun x hx=>(h.lt x (by simpa using hx)).1⟩
def ownL (lo:Nat) (cs:List CS) (vs:List Value) (w:World):Prop:=∃Fs,OwnAll w cs vs Fs∧∀x∈Fs.flatten,lo≤x
theorem ownL.grow {lo:Nat} {cs:List CS} {vs:List Value} {w w':World} (h:ownL lo cs vs w) (hg:w.grownBy w' none):ownL lo cs vs w':=by
 obtain ⟨Fs,h1,h2⟩:=h;exact ⟨Fs,Ui h1 hg,h2⟩
theorem ownF.one {lo:Nat} {c:CS} {v:Value} {w:World} (h:ownF lo c v w):ownL lo [c] [v] w:=by
 obtain ⟨F,h1,h2⟩:=h;exact ⟨[F],OwnAll.cons h1 (OwnAll.nil _) (by simp),fun x hx=>h2 x (by simpa using hx)⟩
theorem aggF.all {lo:Nat} {cs:List CS} {vs:List Value} {w:World} (h:aggF lo cs (.agg vs.toArray) w):ownL lo cs vs w:=by
 obtain ⟨F,⟨us,Fs,e,h1,rfl⟩,h2⟩:=h;injection e with e;have e:us=vs:=by have:=congrArg Array.toList e;simpa using this.symm
 subst e;exact ⟨Fs,h1,h2⟩
theorem ownL.agg {lo:Nat} {cs:List CS} {vs:List Value} {w:World} (h:ownL lo cs vs w):aggF lo cs (.agg vs.toArray) w:=by
 obtain ⟨Fs,h1,h2⟩:=h;exact ⟨_,⟨vs,Fs,rfl,h1,rfl⟩,h2⟩
theorem ownL.pl {lo:Nat} {x:Value} {cs:List CS} {vs:List Value} {w:World} (h:ownL lo cs vs w) (hx:x.oneCell'=true):ownL lo (CS.pl x :: cs) (x :: vs) w:=by
 obtain ⟨Fs,h1,h2⟩:=h;exact ⟨[] :: Fs,OwnAll.cons ⟨rfl,rfl,hx⟩ h1 (by simp),fun x hx=>h2 x (by simpa using hx)⟩
theorem ownL.nil (lo:Nat) (w:World):ownL lo [] [] w:=⟨[],OwnAll.nil w,by simp⟩
theorem ownL.app {lo:Nat} {cs ds:List CS} {us vs:List Value} {w w':World} (h:ownL lo cs us w) (hg:w.grownBy w' none) (k:ownL w.heap.size ds vs w') (hl:lo≤w.heap.size):ownL lo (cs ++ ds) (us ++ vs) w':=by
 obtain ⟨Fs,h1,h2⟩:=h;obtain ⟨Gs,k1,k2⟩:=k;refine ⟨Fs ++ Gs,OwnAll.append (Ui h1 hg) k1 (fun x hx hx' => ?_),fun x hx => ?_⟩
 ·have:=h1.lt x hx
  have:=k2 x hx';omega
 ·rw [List.flatten_append] at hx
  rcases List.mem_append.1 hx with hx | hx
  ·exact h2 x hx
  ·have:=k2 x hx;omega
def sofF (lo:Nat) (T:TypeId) (cs:List CS) (g:Nat) (w:World):Prop:=∃F,SOF T cs g F w∧∀x∈F,lo≤x
theorem sofF.grow {lo:Nat} {T:TypeId} {cs:List CS} {g:Nat} {w w':World} (h:sofF lo T cs g w) (hg:w.grownBy w' none):sofF lo T cs g w':=by
 obtain ⟨F,h1,h2⟩:=h;exact ⟨F,h1.grow hg,h2⟩
theorem SOF.store {T:TypeId} {cs:List CS} {g:Nat} {F:List Nat} {w:World} {us:List Value} {old:Array Value} (B:Blk w g T old) (hl:old.size=us.length) (h:AggO w cs F (.agg us.toArray)) (hn:g∉F):SOF T cs g F (ZW w g 0 us) :=
 SOF.made (Zh B us hl) (h.chg (Zc g us 0 w) (fun x hx e=>hn (e ▸ hx))) hn
theorem XL {w:World} {cs:List CS} {F:List Nat} {vs:List Value} (h:AggO w cs F (.agg vs.toArray)):vs.length=cs.length:=by
 obtain ⟨us,Fs,e,h1,rfl⟩:=h;injection e with e;have e:us=vs:=by have:=congrArg Array.toList e;simpa using this.symm
 subst e;exact h1.lv
def tyd (Ts:List TypeId) (c:CS):Prop:=∀(w:World) (F:List Nat) (v:Value),c.own w F v→∀x∈F,∃cur T z,w.heap[x]?=some (.cells cur T z)∧T∈Ts
theorem Qe {Ts:List TypeId} {x:Value}:tyd Ts (CS.pl x):=fun w F v h y hy=>by
 rw [h.1] at hy
 cases hy
theorem Qf {Ts:List TypeId} {w:World} {cs:List CS} {vs:List Value} {Fs:List (List Nat)} (h:OwnAll w cs vs Fs) (hc:∀c∈cs,tyd Ts c):∀x∈Fs.flatten,∃cur T z,w.heap[x]?=some (.cells cur T z)∧T∈Ts:=by
 intro x hx;obtain ⟨F,hF,hxF⟩:=List.mem_flatten.1 hx;obtain ⟨i,hi⟩:=List.mem_iff_getElem?.1 hF;have hl:=(List.getElem?_eq_some_iff.1 hi).1;obtain ⟨c,v,F',e1,e2,e3,ho⟩:=h.get (i:=i) (by rw [← h.lf];exact hl);rw [hi] at e3;injection e3 with e3;subst e3;exact hc c (List.mem_of_getElem? e1) w _ _ ho x hxF
theorem tyd_row {Ts:List TypeId} {e:TypeId} {s:Nat} {cs:List CS} (he:e∈Ts) (hc:∀c∈cs,tyd Ts c):tyd Ts (row e s cs):=by
 intro w F v h x hx;obtain ⟨n,vs,Fs,h1,h2,h3,h4,h5⟩:=h;rw [h4] at hx
 rcases List.mem_append.1 hx with hx | hx
 ·have hx:v.ownBlock=some x:=by simpa using hx
  rcases h2.2 with ⟨e1,_⟩ | ⟨g,cap,cur,hv,_,hg,_⟩
  ·rw [e1] at hx;cases hx
  ·rw [hv] at hx
   have:g=x:=by simpa [Value.ownBlock] using hx
   subst this;exact ⟨_,_,_,hg,he⟩
 ·exact Qf h3 hc x hx
theorem Yv {Ts:List TypeId} {α:Type} {e:TypeId} {s:Nat} {f:α→List Value} {xs:List α} (he:e∈Ts):tyd Ts (plst e s f xs):=tyd_row he fun c hc=>by
 obtain ⟨x,_,hx⟩:=List.mem_flatMap.1 hc;obtain ⟨u,_,rfl⟩:=List.mem_map.1 hx;exact Qe
theorem tyd_cauths {Ts:List TypeId} {xs:List AuM} (h1:3∈Ts) (h2:80∈Ts):tyd Ts (cauths xs):=tyd_row h2 fun c hc=>by
 obtain ⟨x,_,hx⟩:=List.mem_flatMap.1 hc;simp only [List.mem_cons,List.not_mem_nil,or_false] at hx
 rcases hx with rfl | rfl
 ·exact Yv h1
 ·exact Yv h1
theorem Qw {Ts:List TypeId} {w:World} {cs:List CS} {F:List Nat} {v:Value} {g:Nat} {T:TypeId} {us:Array Value} (hc:∀c∈cs,tyd Ts c) (h:AggO w cs F v) (B:Blk w g T us) (hT:T∉Ts):g∉F:=by
 obtain ⟨vs,Fs,rfl,h1,rfl⟩:=h;intro hg;obtain ⟨cur,T',z,e,hT'⟩:=Qf h1 hc g hg;unfold Blk at B;rw [B] at e;injection e with e;injection e with _ e2 _;exact hT (e2 ▸ hT')
theorem own_ty {Ts:List TypeId} {w:World} {c:CS} {F:List Nat} {v:Value} {g:Nat} {T:TypeId} {us:Array Value} (hc:tyd Ts c) (h:c.own w F v) (B:Blk w g T us) (hT:T∉Ts):g∉F:=by
 intro hg;obtain ⟨cur,T',z,e,hT'⟩:=hc w F v h g hg;unfold Blk at B;rw [B] at e;injection e with e;injection e with _ e2 _;exact hT (e2 ▸ hT')
end Go.Proofs.YthaadgdeadbhkaaGreat
