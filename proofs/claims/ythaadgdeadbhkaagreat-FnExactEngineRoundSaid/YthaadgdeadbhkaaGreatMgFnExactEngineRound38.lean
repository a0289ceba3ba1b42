/-
 The engine's run: all its rounds;what it gives when no opening is wrong,and when one is. No program.
-/
import Derived.Test.YthaadgdeadbhkaaGreatMgFnExactEngineRound37
import Derived.Test.YthaadgdeadbhkaaGreatMgFnExactEngineRound35
open Go.RowKit
set_option linter.unusedVariables false
set_option linter.unusedSimpArgs false
namespace Go.Proofs.YthaadgdeadbhkaaGreat
section
variable {k:KM} {c:AM} {P s1 s2:Nat} {ins es:List Int}
end
theorem OwnE.nil (w:World):OwnE w [] []:=⟨rfl,fun i c v h=>by simp at h⟩
theorem OwnE.typ {Ts:List TypeId} {w w':World} {cs:List CS} {vs:List Value} {S:Nat→Prop} (h:OwnE w cs vs) (hc:∀c∈cs,tyd Ts c) (k:Chg S w w') (hS:∀g,S g→g<w.heap.size→∃T us,Blk w g T us∧T∉Ts):OwnE w' cs vs :=
 ⟨h.1,fun i c v h1 h2=>by
  obtain ⟨F,ho⟩:=h.2 i c v h1 h2;refine ⟨F,c.kept ho fun g hg=>k.block g (c.lt ho g hg) fun hs => ?_⟩;obtain ⟨T,us,hB,hT⟩:=hS g hs (c.lt ho g hg)
  exact own_ty (hc c (List.mem_of_getElem? h1)) ho hB hT hg⟩
theorem OwnE.grow {w w':World} {cs:List CS} {vs:List Value} (h:OwnE w cs vs) (k:w.grownBy w' none):OwnE w' cs vs :=
 ⟨h.1,fun i c v h1 h2=>by
  obtain ⟨F,ho⟩:=h.2 i c v h1 h2
  exact ⟨F,c.kept ho fun g hg=>k.block g (c.lt ho g hg) (by simp)⟩⟩
theorem ctriple_ty (x:TrM):∀c∈ctriple x,tyd [3] c:=by
 intro c hc;simp only [List.mem_append,List.mem_cons,List.not_mem_nil,or_false] at hc
 rcases hc with (rfl | rfl) | (rfl | rfl) | rfl | rfl <;> exact Yv (by simp)
theorem ctriples_ty (xs:List TrM):∀c∈xs.flatMap ctriple,tyd [3] c:=by
 intro c hc;obtain ⟨x,_,hx⟩:=List.mem_flatMap.1 hc;exact ctriple_ty x c hx
def TL (lo:Nat) (ts:List TrM) (v:Value) (w:World):Prop:=∃vs,w.ownsRow lo 82 6 v ts.length vs∧OwnE w (ts.flatMap ctriple) vs
theorem TL.rd {lo:Nat} {ts:List TrM} {v:Value} {w:World} (h:TL lo ts v w):(Zs ts).rd w v:=by
 obtain ⟨vs,h1,h2⟩:=h;obtain ⟨A,c,rfl,hc,hm,hr⟩:=own_rd2 h1;exact Vp (s:=6) (fun _=>rfl) rfl hc hm h2.rd hr
theorem Ub {w w':World} {b s n:Nat} {e:TypeId} {v:Value} {vs:List Value} {S:Nat→Prop} (h:w.ownsRow b e s v n vs) (k:Chg S w w') (hS:∀g,S g→g<w.heap.size→∃T us,Blk w g T us∧T≠e):w'.ownsRow b e s v n vs:=by
 refine Chg.own h k fun y hy hs => ?_
 rcases h.2 with ⟨h1,_⟩ | ⟨g1,cap,cur,hv,_,hg,_⟩
 ·rw [h1] at hy;cases hy
 ·rw [hv] at hy
  have:g1=y:=by simpa [Value.ownBlock] using hy
  subst this;obtain ⟨T,us,B,hT⟩:=hS g1 hs (Array.getElem?_eq_some_iff.1 hg).1;unfold Blk at B;rw [B] at hg;injection hg with hg;injection hg with _ h2 _;exact hT h2
theorem TL.typ {lo:Nat} {ts:List TrM} {v:Value} {w w':World} {S:Nat→Prop} (h:TL lo ts v w) (k:Chg S w w') (hS:∀g,S g→g<w.heap.size→∃T us,Blk w g T us∧T≠82∧T≠3):TL lo ts v w':=by
 obtain ⟨vs,h1,h2⟩:=h;refine ⟨vs,Ub h1 k fun g hg hl => ?_,h2.typ (ctriples_ty ts) k fun g hg hl => ?_⟩
 ·obtain ⟨T,us,B,e,_⟩:=hS g hg hl;exact ⟨T,us,B,e⟩
 ·obtain ⟨T,us,B,_,e⟩:=hS g hg hl;exact ⟨T,us,B,by simpa using e⟩
theorem TL.grow {lo:Nat} {ts:List TrM} {v:Value} {w w':World} (h:TL lo ts v w) (k:w.grownBy w' none):TL lo ts v w':=by
 obtain ⟨vs,h1,h2⟩:=h;exact ⟨vs,Zu h1 k,h2.grow k⟩
theorem own_blk {w:World} {b s n:Nat} {e:TypeId} {v:Value} {vs:List Value} (h:w.ownsRow b e s v n vs) {g:Nat} (hg:v.ownBlock=some g):∃cur,Blk w g e cur∧b≤g:=by
 rcases h.2 with ⟨e1,_⟩ | ⟨g1,cap,cur,hv,hb,hg1,_⟩
 ·rw [e1] at hg;cases hg
 ·rw [hv] at hg
  have:g1=g:=by simpa [Value.ownBlock] using hg
  subst this;exact ⟨_,hg1,hb⟩
theorem Fit.of {k:KM} {c:AM} {P:Nat} {ins:List Int} {s a:Int} (h:newB k c ins s a=true) (hP:k.p=P):Fit k c P ins:=by
 obtain ⟨h1,h2,h3,h4,h5,_⟩:=newB_is h;exact ⟨h1,h2,h3,hP,h4,h5⟩
theorem Ints.part {w:World} {b o n:Nat} {zs:List Int} (h:Ints w (some ⟨b,o,none⟩) n zs) {x m:Nat} (hk:x+m≤n):Ints w (some ⟨b,o+x,none⟩) m ((zs.drop x).take m):=by
 have hl:=h.len;refine ⟨by simp;omega,fun hp => ?_⟩;obtain ⟨b',o',e,hb,hc⟩:=h.at_ (by omega);injection e with e;injection e with e1 e2 _;subst e1;subst e2;refine ⟨b,o+x,rfl,hb,fun j hj => ?_⟩;rw [show o+x+j=o+(x+j) by omega,hc (x+j) (by omega),List.getElem?_map,List.getElem?_take,if_pos (by omega),List.getElem?_drop,List.getElem?_eq_getElem (by omega),getI _ _ (by omega)];rfl
theorem Ints.none' {w:World} {A:Option Addr}:Ints w A 0 []:=⟨by simp,fun h=>by omega⟩
theorem Ints.cut {w:World} {A:Option Addr} {n:Nat} {zs:List Int} (h:Ints w A n zs) {x m:Nat} (hk:x+m≤n):Ints w (A.map fun a=>a.add x) m ((zs.drop x).take m):=by
 by_cases hm:m=0
 ·subst hm;rw [List.take_zero];exact Ints.none'
 ·obtain ⟨b,o,rfl,_⟩:=h.at_ (by omega)
  have hadd:(⟨b,o,none⟩:Addr).add x=⟨b,o+x,none⟩:=by unfold Addr.add;split <;> simp_all
  rw [Option.map_some,hadd];exact h.part hk
theorem aggF.eng {lo:Nat} {m:EM} {v:Value} {w:World} (h:aggF lo (Zd m) v w):∃A B C D E a b c d e,v=.agg #[.int .i64 m.k.p,.slice A m.k.al.length a,.int .i64 m.c.p,.slice B m.c.st.length b,.slice C m.c.outs.length c,.slice D m.vs.length d,.slice E m.op.length e,.int .i64 m.rd,.bool m.bad]:=by
 obtain ⟨F,h1,_⟩:=h;obtain ⟨A,B,C,D,E,a,b,c,d,e,hv,_⟩:=Zo h1.rd;exact ⟨A,B,C,D,E,a,b,c,d,e,hv⟩
theorem aggF.far {lo g:Nat} {m:EM} {v:Value} {w w':World} {T:TypeId} {cs:Array Value} (h:aggF lo (Zd m) v w) (B:Blk w g T cs) (k:Chg (fun y=>y=g) w w') (hT:T∉[3,102,80]):aggF lo (Zd m) v w':=by
 obtain ⟨F,h1,h2⟩:=h;have hg:=Qw (Xx m) h1 B hT;exact ⟨F,h1.chg k (fun x hx e=>hg (e ▸ hx)),h2⟩
theorem chgA {S:Nat→Prop} (w:World) (o:Obj):Chg S w (w.alloc o):=Chg.of (gbA (gbR w none) o) (by simp)
theorem SOF.typ {m:EM} {g:Nat} {F:List Nat} {w w':World} {S:Nat→Prop} (h:SOF 58 (Zd m) g F w) (k:Chg S w w') (hS:∀y,S y→y<w.heap.size→∃T us,Blk w y T us∧T∉[3,102,80]∧T≠58):SOF 58 (Zd m) g F w':=by
 have hlt:=h.lt;have hltg:=h.ltg;obtain ⟨vs,h1,h2⟩:=h.agg;refine h.chg k (fun x hx hs => ?_) (fun hs => ?_)
 ·obtain ⟨T,us,B,hT,_⟩:=hS x hs (hlt x hx)
  exact Qw (Xx m) h2 B hT hx
 ·obtain ⟨T,us,B,_,hT⟩:=hS g hs hltg
  unfold Blk at B h1;rw [B] at h1;injection h1 with h1;injection h1 with _ h4 _;exact hT h4
theorem isV_w {x v:Value} {w w':World} (h:isV x v w):isV x v w':=h
theorem roundTo_form (m:EM) (ts:List TrM) (es ss:List Int) (j:Nat):∃vj oj bj,Zf m ts es ss j=⟨m.k,m.c,vj,oj,m.rd,bj⟩∧vj.length=m.vs.length∧oj.length=m.op.length+2*j:=by
 obtain ⟨h1,h2,h3,h4,h5⟩:=Yk m ts es ss j;refine ⟨(Zf m ts es ss j).vs,(Zf m ts es ss j).op,(Zf m ts es ss j).bad, ?_,h4,h5⟩;rw [← h1,← h2,← h3]
theorem opd_same {m:EM} (h:engOkB m=true) {ts:List TrM} {es:List Int} {j i y z:Nat} (hj:j<(mulsOf m).length) (hi:(mulsOf m).getD j 0=i) (hst:stAt m.c i=(4,(y:Int),(z:Int))) :
  getA (Zf m ts es (mulsOf m) j).vs y=getA m.vs y∧getA (Zf m ts es (mulsOf m) j).vs z=getA m.vs z:=by
 obtain ⟨_,hok,_,hvl,hrd,_⟩:=YZ h
 have hmem:∀q,q<(mulsOf m).length→∃x:Nat,x<m.c.st.length∧(mulsOf m).getD q 0=x∧depAt m.c x=m.rd+1:=fun q hq=>by
  obtain ⟨x,h1,h2,_,h4⟩:=(WS hok (m.rd+1) _).1 (getD_mem hq);exact ⟨x,h1,h2,h4⟩
 obtain ⟨x,hx1,hx2,hx4⟩:=hmem j hj;obtain rfl:x=i:=by have:=hi.symm.trans hx2;omega
 have hd:=dep_mul hok hx1 (by rw [hst]);rw [hst] at hd;simp only [Int.toNat_natCast] at hd
 have key:∀u,depAt m.c u<m.rd+1→getA (Zf m ts es (mulsOf m) j).vs u=getA m.vs u:=fun u hu=>by
  have:=VX (P:=fun _ _=>True) (e:=m) (ts:=ts) (es:=es) (ss:=mulsOf m) (fun q hq=>by
   obtain ⟨x',h1,h2,_⟩:=hmem q hq
   rw [h2,hvl];simpa using h1) (fun _ _=>trivial) j (by omega) u
  rcases this with ⟨⟨q,hq,hq2⟩,_⟩ | ⟨_,h2⟩
  ·obtain ⟨x',h1,h2,h3⟩:=hmem q (by omega)
   rw [h2] at hq2;have:x'=u:=by simpa using hq2
   subst this;omega
  ·exact h2
 exact ⟨key y (by omega),key z (by omega)⟩
theorem Vk {m:EM} {ts:List TrM} {es:List Int} (h:mayB m ts es=true):∀j,j≤(mulsOf m).length→∀a∈(Zf m ts es (mulsOf m) j).vs,okV m.k a=true
 | 0,_=>fun a ha=>by
  have ha:a∈m.vs:=ha;obtain ⟨i,hi,rfl⟩:=List.getElem_of_mem ha;have:=(YZ (XM h).1).2.2.2.2.2 i;unfold getA at this;rw [zF,List.getElem?_eq_getElem hi] at this;exact this
 | j+1,hj=>fun a ha=>by
  have ha:a∈(Zf m ts es (mulsOf m) j).vs.set ((mulsOf m).getD j 0).toNat (Zw m.k (trAt ts j) _ _):=ha
  rcases List.mem_or_eq_of_mem_set ha with h1 | h1
  ·exact Vk h j (by omega) a h1
  ·have hf:=(YX (YZ (XM h).1).1).1
   have ht:=(XM h).2.2.2.2.2 j (by omega);unfold tripOk at ht;simp only [Bool.and_eq_true,Bool.not_eq_true'] at ht;obtain ⟨⟨⟨⟨h2,h3⟩,h4⟩,_⟩,_⟩:=ht;rw [h1];unfold okV;rw [Bool.or_eq_true]
   right
   unfold rD rE;exact (form_use h2 h3 h4 (Yr hf _) (Yr hf _)).2
def chainBT (ops:Array Oper) (q:List Kd) (ts:List (List Tmp)):Bool :=
 regB ops []&&decide (0<(chainL ops.size q).length) &&
 ((List.range (chainL ops.size q).length).all fun j=>j == 0||(waits ops ((chainL ops.size q)[j]?.getD 0)).contains ((chainL ops.size q)[j - 1]?.getD 0)) &&
 ((List.range ops.size).all fun k=>k == ((chainL ops.size q)[(chainL ops.size q).length - 1]?.getD 0)||aheadB ops ((chainL ops.size q)[(chainL ops.size q).length - 1]?.getD 0) k) &&
 ((List.range (chainL ops.size q).length).all fun j=>((ts[j]?).getD []).all fun t=>((chainL ops.size q).take j).any fun k=>dstAt ops k == some t)
structure ChainOkT (ops:Array Oper) (q:List Kd) (I:List Fact):Prop where
 reg:RegOk ops []
 pos:0<(chainL ops.size q).length
 link:∀j k i o,(chainL ops.size q)[j+1]?=some k→(chainL ops.size q)[j]?=some i→ops[k]?=some o→∃e∈bindE o,e.on=i
 last:∀l o,(chainL ops.size q)[(chainL ops.size q).length - 1]?=some l→ops[l]?=some o→∀k,k<ops.size→aheadB ops l k=true
 sup:∀j,j<(chainL ops.size q).length→∀t∈(fAt I j).ts,∃i k,i<j∧(chainL ops.size q)[i]?=some k∧dstAt ops k=some t
section
variable {P:Program} {ops:Array Oper} {q:List Kd} {I:List Fact} {W:World} {a0:Act} {S:Nat→Prop} {Q:Exit→Act→World→Prop}
theorem ChainOkT.of (h:chainBT ops q (I.map (·.ts))=true):ChainOkT ops q I:=by
 unfold chainBT at h;simp only [Bool.and_eq_true,decide_eq_true_eq] at h;obtain ⟨⟨⟨⟨h1,h2⟩,h3⟩,h4⟩,h5⟩:=h;refine ⟨RegOk.of (T:=[]) h1,h2,fun j k i o hk hi ho => ?_,fun l o hl ho k hk => ?_,fun j hj t ht => ?_⟩
 ·have:=List.all_eq_true.1 h3 (j+1) (by simpa using (List.getElem?_eq_some_iff.1 hk).1)
  rw [hk,Nat.add_sub_cancel,hi] at this;simp only [Option.getD_some,Bool.or_eq_true] at this
  rcases this with h | h
  ·simp at h
  ·exact UN ho h
 ·have:=List.all_eq_true.1 h4 k (by simpa using hk)
  rw [hl] at this;simp only [Option.getD_some,Bool.or_eq_true] at this
  rcases this with h | h
  ·have:k=l:=by simpa using h
   subst this;unfold aheadB;simp
  ·exact h
 ·have hts:((I.map (·.ts))[j]?).getD []=(fAt I j).ts:=by
   unfold fAt;rw [List.getElem?_map]
   cases I[j]? <;> rfl
  have h6:=List.all_eq_true.1 h5 j (by simp;omega);rw [hts] at h6;have h7:=List.all_eq_true.1 h6 t ht;obtain ⟨k,hk,hd⟩:=List.any_eq_true.1 h7;obtain ⟨i,hi⟩:=List.mem_iff_getElem?.1 hk;rw [List.getElem?_take] at hi
  split at hi
  ·rename_i hij
   exact ⟨i,k,hij,hi,by simpa using hd⟩
  ·cases hi
theorem GInvC.moreT {listed:Array Bool} {a:Act} {w:World} {b:Nat} (K:ChainOkT ops q I) (h:GInvC ops q I W a0 S b listed a w) {i:Nat} (hi:i<ops.size) (hun:listed.getD i false=false):b<(chainL ops.size q).length:=by
 rcases Nat.lt_or_ge b (chainL ops.size q).length with h1 | h1
 ·exact h1
 ·exfalso
  have hp:=K.pos;have hl:(chainL ops.size q)[(chainL ops.size q).length - 1]?=some ((chainL ops.size q)[(chainL ops.size q).length - 1]'(by omega)):=List.getElem?_eq_getElem (by omega);have h2:=(h.chn _ _ hl).2 (by omega);have h3:=(YG hl).1;have h4:=K.last _ _ hl (Array.getElem?_eq_getElem h3) i hi;rw [WH h.closed hun h4] at h2
  cases h2
theorem GInvC.stepT {listed:Array Bool} {a:Act} {w:World} {b b':Nat} (K:ChainOkT ops q I) (hO:flOk I q) (hsz:∀d∈dsts ops,d<a0.tmps.size) (h:GInvC ops q I W a0 S b listed a w) {i:Nat} {o:Oper} (hi:ops[i]?=some o)
  (hun:listed.getD i false=false) (hwait:∀e∈bindE o,listed.getD e.on false=true) {v:Value} {w':World}
  (hc:(kAt q i=.rd v∧w'=w∧b'=b)∨(∃R,kAt q i=.fl R∧w.grownBy w' none∧R v w'∧b'=b)∨(kAt q i=.ch∧cntC q i=b∧b'=b+1∧(fAt I (b+1)).at_ (upd (fun d=>a.tmps.getD d undef) o.dst v) w'∧(b+1<(chainL ops.size q).length→Chg S w w'∧keepsC ops (fun d=>a.tmps.getD d undef) w w' q 0))) :
  GInvC ops q I W a0 S b' (listed.setIfInBounds i true) (a.put o.dst v) w':=by
 have his:i<ops.size:=(Array.getElem?_eq_some_iff.1 hi).1;have hbl:=h.moreT K his hun;have hdlt:∀d,o.dst=some d→d<a.tmps.size:=fun d hd=>by rw [h.tz];exact hsz d (Yw hi hd)
 have hil:i<listed.size:=by rw [h.sz];exact his
 have lset:∀k,k≠i→(listed.setIfInBounds i true).getD k false=listed.getD k false:=fun k hk=>by
  simp only [Array.getD_eq_getD_getElem?,Array.getElem?_setIfInBounds,Ne.symm hk,if_false]
 have lself:(listed.setIfInBounds i true).getD i false=true:=by simp [hil]
 have lold:∀k,listed.getD k false=true→(listed.setIfInBounds i true).getD k false=true:=fun k hk=>by
  by_cases e:k=i
  ·subst e;exact lself
  ·rw [lset k e];exact hk
 have hf:(fun d=>(a.put o.dst v).tmps.getD d undef)=upd (fun d=>a.tmps.getD d undef) o.dst v:=by
  funext t;exact Wb a o.dst v t hdlt
 have hne:∀k d,k≠i→dstAt ops k=some d→o.dst≠some d:=fun k d hk hd hd'=>by
  unfold dstAt at hd
  cases hko:ops[k]? with
  | none=>rw [hko] at hd;cases hd
  | some ok =>
   rw [hko] at hd;exact ZZ K.reg.nodup (l:=ops.toList) (i:=k) (j:=i) (by simpa using hko) (by simpa using hi) hk hd hd'
 have hupd:∀k d,k≠i→dstAt ops k=some d→(a.put o.dst v).tmps.getD d undef=a.tmps.getD d undef:=fun k d hk hd=>by
  have h9:(a.put o.dst v).tmps.getD d undef=upd (fun d=>a.tmps.getD d undef) o.dst v d:=congrFun hf d;rw [h9,YR _ _ _ _ (hne k d hk hd)]
 have hnc:b'=b∧kAt q i≠.ch∨b'=b+1∧kAt q i=.ch∧cntC q i=b:=by
  rcases hc with ⟨h1,_,h2⟩ | ⟨R,h1,_,_,h2⟩ | ⟨h1,h2,h3,_,_⟩
  ·exact .inl ⟨h2,by rw [h1];simp⟩
  ·exact .inl ⟨h2,by rw [h1];simp⟩
  ·exact .inr ⟨h3,h1,h2⟩
 refine ⟨by simp [h.sz], ?_, ?_,fun t ht => ?_,fun k ok hk hl e he => ?_,fun j k hj => ?_, ?_,fun hlt => ?_, ?_,fun k d u hq hl hd => ?_,fun hlt k d R hq hl hd => ?_⟩
 ·rw [← h.tz];cases o.dst <;> simp [Act.put]
 ·rw [← h.df];cases o.dst <;> rfl
 ·rw [← h.out t ht]
  cases hd:o.dst with
  | none=>rfl
  | some d =>
   have:d≠t:=fun e=>ht (e ▸ Yw hi hd);simp [Act.put,this]
 ·by_cases hik:k=i
  ·subst hik
   obtain rfl:ok=o:=by rw [hi] at hk;injection hk with hk;exact hk.symm
   exact lold _ (hwait e he)
  ·rw [lset k hik] at hl
   exact lold _ (h.closed k ok hk hl e he)
 ·rcases hnc with ⟨rfl,h1⟩ | ⟨rfl,h1,h2⟩
  ·have hki:k≠i:=fun e=>h1 (by rw [← e];exact (YG hj).2.1)
   rw [lset k hki];exact h.chn j k hj
  ·by_cases hki:k=i
   ·subst hki
    have:=(YG hj).2.2;simp only [lself,true_iff];omega
   ·rw [lset k hki,h.chn j k hj]
    have h3:j≠b:=fun e=>hki (by
     have h4:=Wt his h1;rw [h2,← e,hj] at h4
     injection h4)
    omega
 ·rcases hnc with ⟨rfl,_⟩ | ⟨rfl,_,_⟩
  ·exact h.le
  ·omega
 ·rcases hc with ⟨_,rfl,rfl⟩ | ⟨_,_,h2,_,rfl⟩ | ⟨_,_,rfl,_,h5⟩
  ·exact h.ch hlt
  ·exact (h.ch hlt).trans (Chg.of h2 fun g hg'=>by simp at hg')
  ·exact (h.ch hbl).trans (h5 hlt).1
 ·rw [hf]
  have same:kAt q i≠.ch→∀c,b=c→(fAt I c).ts.map (upd (fun d=>a.tmps.getD d undef) o.dst v)=(fAt I c).ts.map (fun d=>a.tmps.getD d undef):=fun h1 c hbc=>List.map_congr_left fun t ht=>by
   obtain ⟨i',k',hi',hk',hd'⟩:=K.sup c (hbc ▸ hbl) t ht;refine YR _ _ _ _ (hne k' t (fun e=>h1 ?_) hd');rw [← e];exact (YG hk').2.1
  rcases hc with ⟨h1,rfl,rfl⟩ | ⟨R,h1,h2,_,rfl⟩ | ⟨_,_,rfl,h4,_⟩
  ·unfold Fact.at_
   rw [same (by rw [h1];simp) _ rfl];exact h.inv
  ·unfold Fact.at_
   rw [same (by rw [h1];simp) _ rfl];exact Xa (UM hO h1).2 _ _ _ _ h.inv h2
  ·exact h4
 ·by_cases hki:k=i
  ·subst hki
   rcases hc with ⟨h1,_,_⟩ | ⟨R,h1,_,_,_⟩ | ⟨h1,_,_,_,_⟩
   ·rw [h1] at hq
    injection hq with hq;subst hq;have h9:(a.put o.dst v).tmps.getD d undef=upd (fun d=>a.tmps.getD d undef) o.dst v d:=congrFun hf d;unfold dstAt at hd;rw [hi] at hd;have hd':o.dst=some d:=hd;rw [h9,hd',Yf,if_pos rfl]
   ·rw [h1] at hq;cases hq
   ·rw [h1] at hq;cases hq
  ·rw [lset k hki] at hl
   rw [hupd k d hki hd];exact h.qv k d u hq hl hd
 ·by_cases hki:k=i
  ·subst hki
   rcases hc with ⟨h1,_,_⟩ | ⟨R',h1,_,h3,_⟩ | ⟨h1,_,_,_,_⟩
   ·rw [h1] at hq;cases hq
   ·rw [h1] at hq
    injection hq with hq;subst hq;have h9:(a.put o.dst v).tmps.getD d undef=upd (fun d=>a.tmps.getD d undef) o.dst v d:=congrFun hf d;unfold dstAt at hd;rw [hi] at hd;have hd':o.dst=some d:=hd;rw [h9,hd',Yf,if_pos rfl];exact h3
   ·rw [h1] at hq;cases hq
  ·rw [lset k hki] at hl
   rw [hupd k d hki hd];have h6:=h.fv hbl k d R hq hl hd
   rcases hc with ⟨_,rfl,_⟩ | ⟨R',_,h2,_,_⟩ | ⟨_,_,rfl,_,h5⟩
   ·exact h6
   ·exact (UM hO hq).1 _ _ _ h6 h2
   ·exact UL (h5 hlt).2 hq (by rw [Nat.zero_add];exact hd) h6
theorem regC_anyT (K:ChainOkT ops q I) (hO:flOk I q) (hsz:∀d∈dsts ops,d<a0.tmps.size) (hh:hopsC P ops q I W a0 S (chainL ops.size q).length ops.toList 0 0)
  (fin:∀(f:Tmp→Value) (w:World),(fAt I (chainL ops.size q).length).at_ f w→(∀k d v,kAt q k=.rd v→dstAt ops k=some d→f d=v)→Q .normal (puts a0 (dsts ops) f) w) :
  ∀(fuel:Nat) (b:Nat) (listed:Array Bool) (a:Act) (w:World),GInvC ops q I W a0 S b listed a w→listed.toList.countP (fun b=>!b)≤fuel→wpAny P .any ops Q fuel listed a w:=by
 have done:∀(b:Nat) (listed:Array Bool) (a:Act) (w:World),GInvC ops q I W a0 S b listed a w→Region.ready .any ops listed=[]→Q .normal a w:=fun b listed a w h hr=>by
  have hall:∀k,k<ops.size→listed.getD k false=true:=fun k hk=>YN K.reg h.sz hr (k+1) k (by omega) hk;have hp:=K.pos;have hl:(chainL ops.size q)[(chainL ops.size q).length - 1]?=some ((chainL ops.size q)[(chainL ops.size q).length - 1]'(by omega)):=List.getElem?_eq_getElem (by omega);have h2:=(h.chn _ _ hl).1 (hall _ (YG hl).1);have h3:=h.le;obtain rfl:b=(chainL ops.size q).length:=by omega
  rw [h.is];refine fin _ w h.inv fun k d v hq hd=>h.qv k d v hq (hall k ?_) hd;unfold dstAt at hd
  cases hk:ops[k]? with
  | none=>rw [hk] at hd;cases hd
  | some _=>exact (Array.getElem?_eq_some_iff.1 hk).1
 intro fuel
 induction fuel with
 | zero =>
  intro b listed a w h hc
  have hr:Region.ready .any ops listed=[]:=by
   cases hr:Region.ready .any ops listed with
   | nil=>rfl
   | cons i l =>
    exfalso
    have hi:=(mem_ready.1 (show i∈Region.ready .any ops listed by rw [hr];exact List.mem_cons_self ..)).1;have h0:listed.toList.countP (fun b=>!b)=0:=by omega
    rw [List.countP_eq_zero] at h0
    have hlt:i<listed.size:=by
     rcases Nat.lt_or_ge i listed.size with h1 | h1
     ·exact h1
     ·simp [Array.getElem?_eq_none h1] at hi
    have hv:listed[i]=false:=by simpa [hlt] using hi
    have:=h0 listed[i] (Array.getElem_mem_toList hlt);simp [hv] at this
  exact ⟨hr,done b listed a w h hr⟩
 | succ fuel ih =>
  intro b listed a w h hc;refine ⟨fun hr=>done b listed a w h hr,fun i hi => ?_⟩;obtain ⟨hl,o,ho,hall⟩:=mem_ready.1 hi
  have hwait:∀e∈bindE o,listed.getD e.on false=true:=fun e he=>by
   obtain ⟨h1,h2⟩:=bind_mem.1 he;exact hall e (by simpa using h1) h2
  have his:i<ops.size:=(Array.getElem?_eq_some_iff.1 ho).1
  have hun:listed.getD i false=false:=by
   have hlt:i<listed.size:=by rw [h.sz];exact his
   simp [hlt] at hl ⊢;exact hl
  have hbl:=h.moreT K his hun;have hop:=hopsC_at (k:=0) hh (i:=i) (by simpa using ho);rw [Nat.zero_add] at hop;have hdeps:depsC ops q (fun d=>a.tmps.getD d undef) w (bindE o):=depsC_of (fun e he v d hq hd=>h.qv e.on d v hq (hwait e he) hd) (fun e he R d hq hd=>h.fv hbl e.on d R hq (hwait e he) hd);unfold wpOp;simp only [ho]
  cases hq:kAt q i with
  | rd v =>
   unfold hopC at hop;rw [hq] at hop;unfold hopK at hop;have h1:=hop (fun d=>a.tmps.getD d undef) w (h.ch hbl) hdeps;rw [← h.is] at h1
   have next:∀a' w',(a'=a.put o.dst v∧w'=w)→wpAny P .any ops Q fuel (listed.setIfInBounds i true) a' w':=fun a' w' ⟨ha,hw⟩=>by
    subst ha;subst hw;exact ih b _ _ _ (h.stepT K hO hsz ho hun hwait (.inl ⟨hq,rfl,rfl⟩)) (Wa hc hl)
   unfold wpList at h1
   split
   ·rename_i hw
    rw [if_pos hw] at h1
    rcases h1 with h1 | h1
    ·exact .inl (XK (Oper.wp_mono next h1))
    ·exact (XA h1.2).elim
   ·rename_i hw
    rw [if_neg hw] at h1;exact next _ _ h1
  | fl R =>
   unfold hopC at hop;rw [hq] at hop;unfold hopK at hop;have h1:=hop (fun d=>a.tmps.getD d undef) w (h.ch hbl) hdeps;rw [← h.is] at h1
   have next:∀a' w',(∃v,a'=a.put o.dst v∧R v w'∧w.grownBy w' none)→wpAny P .any ops Q fuel (listed.setIfInBounds i true) a' w':=fun a' w' ⟨v,ha,hv,hg⟩=>by
    subst ha;exact ih b _ _ _ (h.stepT K hO hsz ho hun hwait (.inr (.inl ⟨R,hq,hg,hv,rfl⟩))) (Wa hc hl)
   unfold wpList at h1
   split
   ·rename_i hw
    rw [if_pos hw] at h1
    rcases h1 with h1 | h1
    ·exact .inl (XK (Oper.wp_mono next h1))
    ·exact (XA h1.2).elim
   ·rename_i hw
    rw [if_neg hw] at h1;exact next _ _ h1
  | ch =>
   have hci:cntC q i=b:=by
    have h4:=Wt his hq
    rcases Nat.lt_trichotomy (cntC q i) b with h5 | h5 | h5
    ·have:=(h.chn _ _ h4).2 h5
     rw [hun] at this;cases this
    ·exact h5
    ·exfalso
     have h6:=(List.getElem?_eq_some_iff.1 h4).1;have h7:(chainL ops.size q)[cntC q i - 1]?=some ((chainL ops.size q)[cntC q i - 1]'(by omega)):=List.getElem?_eq_getElem (by omega);obtain ⟨e,he,h8⟩:=K.link (cntC q i - 1) i _ o (by rw [show cntC q i - 1+1=cntC q i by omega];exact h4) h7 ho;have h9:=hwait e he;rw [h8] at h9;have:=(h.chn _ _ h7).1 h9;omega
   unfold hopC at hop;rw [hq,hci] at hop;unfold hopK at hop;have h1:=hop (fun d=>a.tmps.getD d undef) w (h.ch hbl) h.inv hdeps;rw [← h.is] at h1
   have next:∀a' w',(∃v,a'=a.put o.dst v∧(fAt I (b+1)).at_ (upd (fun d=>a.tmps.getD d undef) o.dst v) w'∧(b+1<(chainL ops.size q).length→Chg S w w'∧keepsC ops (fun d=>a.tmps.getD d undef) w w' q 0))→wpAny P .any ops Q fuel (listed.setIfInBounds i true) a' w':=fun a' w' ⟨v,ha,hv,hg⟩=>by
    subst ha;exact ih (b+1) _ _ _ (h.stepT K hO hsz ho hun hwait (.inr (.inr ⟨hq,hci,rfl,hv,hg⟩))) (Wa hc hl)
   unfold wpList at h1
   split
   ·rename_i hw
    rw [if_pos hw] at h1
    rcases h1 with h1 | h1
    ·exact .inl (XK (Oper.wp_mono next h1))
    ·exact (XA h1.2).elim
   ·rename_i hw
    rw [if_neg hw] at h1;exact next _ _ h1
theorem region_chainT {id:Nat} {w:World} (q:List Kd) (S:Nat→Prop) (I:List Fact) (hm:P.follows .mixedOrders=true) (hB:chainBT ops q (I.map (·.ts))=true) (hsz:(dsts ops).all (fun d=>d<a0.tmps.size)=true)
  (n:Nat) (hn:(chainL ops.size q).length=n) (hO:flOk I q)
  (h0:(fAt I 0).R [] w.drew) (h0':(fAt I 0).ts=[])
  (hh:hopsK P ops q I w.drew a0 S n ops.toList q 0)
  (fin:∀(f:Tmp→Value) (w':World),(fAt I n).at_ f w'→knowsC ops f q 0→Q .normal (puts a0 (dsts ops) f) w'):(Code.region id ops true).wp P Q a0 w:=by
 subst hn;refine wp_region_any hm (regC_anyT (W:=w.drew) (ChainOkT.of hB) hO (fun d hd=>by simpa using List.all_eq_true.1 hsz d hd) (Vn (k:=0) hh) (fun f w' h1 h2=>fin f w' h1 (UO fun i d v h3 h4=>h2 i d v h3 (by simpa using h4))) ops.size 0 _ a0 _ ⟨by simp,rfl,rfl,fun _ _=>rfl, ?_, ?_,Nat.zero_le _,fun _=>Chg.refl _ _, ?_, ?_, ?_⟩ ?_)
 ·intro k o hk hl
  simp only [Array.getD_eq_getD_getElem?,Array.getElem?_replicate] at hl
  split at hl <;> simp at hl
 ·intro j k hj
  simp only [Array.getD_eq_getD_getElem?,Array.getElem?_replicate]
  constructor
  ·intro h;split at h <;> simp at h
  ·intro h;omega
 ·unfold Fact.at_;rw [h0'];exact h0
 ·intro k d v _ hl
  simp only [Array.getD_eq_getD_getElem?,Array.getElem?_replicate] at hl
  split at hl <;> simp at hl
 ·intro _ k d v _ hl
  simp only [Array.getD_eq_getD_getElem?,Array.getElem?_replicate] at hl
  split at hl <;> simp at hl
 ·have:=List.countP_le_length (p:=fun b:Bool=>!b) (l:=(Array.replicate ops.size false).toList)
  simpa using this
end
end Go.Proofs.YthaadgdeadbhkaaGreat
