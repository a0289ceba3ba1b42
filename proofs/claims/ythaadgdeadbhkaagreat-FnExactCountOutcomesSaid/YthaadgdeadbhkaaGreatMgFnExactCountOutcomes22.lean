/-
 The engine in rounds: what stands behind each round. No program.
-/
import Derived.Test.YthaadgdeadbhkaaGreatMgFnExactCountOutcomes21
open Go.RowKit
set_option linter.unusedVariables false
set_option linter.unusedSimpArgs false
namespace Go.Proofs.YthaadgdeadbhkaaGreat
theorem mulsTo_iff (m:AM) (d:Int):∀(k:Nat) (z:Int),z∈mulsTo m d k ↔ ∃i:Nat,i<k∧z=i∧(stAt m i).1=4∧(mdepth m).getD i 0=d
 | 0,z=>by simp [mulsTo]
 | k+1,z=>by
  rw [mulsTo,List.mem_append,mulsTo_iff m d k z]
  constructor
  ·rintro (⟨i,h1,h2⟩ | h)
   ·exact ⟨i,by omega,h2⟩
   ·split at h
    ·rename_i h1
     simp only [List.mem_cons,List.not_mem_nil,or_false] at h;exact ⟨k,by omega,h,h1.1,h1.2⟩
    ·simp at h
  ·rintro ⟨i,h1,h2,h3,h4⟩
   by_cases e:i=k
   ·subst e
    right
    rw [if_pos ⟨h3,h4⟩,h2];simp
   ·exact .inl ⟨i,by omega,h2,h3,h4⟩
theorem VR {m:AM} (h:AOk m) (d z:Int):z∈mulsAt m d ↔ ∃i:Nat,i<m.st.length∧z=i∧(stAt m i).1=4∧depAt m i=d:=by
 unfold mulsAt;rw [mulsTo_iff,Wa h]
 constructor
 ·rintro ⟨i,h1,h2,h3,h4⟩
  exact ⟨i,h1,h2,h3,by rw [← VQ h];exact h4⟩
 ·rintro ⟨i,h1,h2,h3,h4⟩
  exact ⟨i,h1,h2,h3,by rw [VQ h];exact h4⟩
theorem ops_of {m:AM} (h:AOk m) {i:Nat} (hi:i<m.st.length) (h3:(stAt m i).1=3∨(stAt m i).1=4):(stAt m i).2.1.toNat<i∧(stAt m i).2.2.toNat<i∧0≤(stAt m i).2.1∧0≤(stAt m i).2.2:=by
 have h1:=h.steps i hi;unfold stepB at h1;have h4:¬(stAt m i).1=1:=by omega
 have h5:¬(stAt m i).1=2:=by omega
 rw [if_neg h4,if_neg h5,if_pos h3] at h1;simp [inB] at h1;omega
theorem dep_add {m:AM} {i:Nat} (h:AOk m) (hi:i<m.st.length) (h3:(stAt m i).1=3):depAt m i=max (depAt m (stAt m i).2.1.toNat) (depAt m (stAt m i).2.2.toNat):=by
 obtain ⟨h1,h2,_⟩:=ops_of h hi (.inl h3);unfold depAt;rw [XG m _ i hi,depD,if_pos h3,XH m h1 (Nat.le_of_lt hi),XH m h2 (Nat.le_of_lt hi)]
theorem dep_mul {m:AM} {i:Nat} (h:AOk m) (hi:i<m.st.length) (h4:(stAt m i).1=4):depAt m i=1+max (depAt m (stAt m i).2.1.toNat) (depAt m (stAt m i).2.2.toNat):=by
 obtain ⟨h1,h2,_⟩:=ops_of h hi (.inr h4);unfold depAt;rw [XG m _ i hi,depD,if_neg (by omega),if_pos h4,XH m h1 (Nat.le_of_lt hi),XH m h2 (Nat.le_of_lt hi)]
theorem dep_none {m:AM} {i:Nat} (hi:i<m.st.length) (h3:¬(stAt m i).1=3) (h4:¬(stAt m i).1=4):depAt m i=0:=by
 unfold depAt;rw [XG m _ i hi,depD,if_neg h3,if_neg h4]
theorem dep_pos (m:AM) (i:Nat):0≤depAt m i:=(Wt m _ i).1
structure Post (P:Nat→AuM→Prop) (c:AM) (r:Int) (vs:List AuM):Prop where
 len:vs.length=c.st.length
 lo:∀i,i<c.st.length→depAt c i≤r→P i (getA vs i)
 hi:∀i,i<c.st.length→r<depAt c i→zeroA (getA vs i)=true
structure Pre (P:Nat→AuM→Prop) (c:AM) (r:Int) (vs:List AuM):Prop where
 len:vs.length=c.st.length
 lo:∀i,i<c.st.length→depAt c i≤r→P i (getA vs i)∨((stAt c i).1=3∧zeroA (getA vs i)=true)
 hi:∀i,i<c.st.length→r<depAt c i→zeroA (getA vs i)=true
structure PC (k:KM) (c:AM) (P:Nat→AuM→Prop):Prop where
 form:∀i a,P i a→formB k a=true
 add:∀i,i<c.st.length→(stAt c i).1=3→∀x y,P (stAt c i).2.1.toNat x→P (stAt c i).2.2.toNat y→P i (ZD k x y)
theorem PC.nz {k:KM} {c:AM} {P:Nat→AuM→Prop} (h:PC k c P) {i:Nat} {a:AuM} (ha:P i a):zeroA a=false:=form_nz (h.form i a ha)
structure Mid (P:Nat→AuM→Prop) (c:AM) (r:Int) (j:Nat) (vs:List AuM):Prop where
 len:vs.length=c.st.length
 done:∀i,i<j→depAt c i≤r→P i (getA vs i)
 todo:∀i,j≤i→i<c.st.length→depAt c i≤r→P i (getA vs i)∨((stAt c i).1=3∧zeroA (getA vs i)=true)
 hi:∀i,i<c.st.length→r<depAt c i→zeroA (getA vs i)=true
theorem Mid.step {k:KM} {c:AM} {P:Nat→AuM→Prop} {r:Int} {j:Nat} {vs:List AuM} (hP:PC k c P) (hok:AOk c) (h:Mid P c r j vs) (hj:j<c.st.length):Mid P c r (j+1) (Yo k c vs j):=by
 by_cases h3:(stAt c j).1=3
 ·obtain ⟨ha,hb,_⟩:=ops_of hok hj (.inl h3)
  have hd:=dep_add hok hj h3
  by_cases hr:depAt c j≤r
  ·have pa:=h.done _ ha (by omega)
   have pb:=h.done _ hb (by omega)
   by_cases hz:zeroA (getA vs j)=true
   ·have e:Yo k c vs j=vs.set j (ZD k (getA vs (stAt c j).2.1.toNat) (getA vs (stAt c j).2.2.toNat)):=by
     unfold Yo addOk;rw [if_pos (by rw [h3,hz,hP.nz pa,hP.nz pb];rfl)]
    rw [e];have hx:=hP.add j hj h3 _ _ pa pb;refine ⟨by rw [List.length_set];exact h.len,fun i hi hd' => ?_,fun i hi hi' hd' => ?_,fun i hi hd' => ?_⟩
    ·rw [Ke]
     by_cases e:j=i
     ·subst e;rw [if_pos ⟨rfl,by rw [h.len];exact hj⟩];exact hx
     ·rw [if_neg (fun x=>e x.1)];exact h.done i (by omega) hd'
    ·rw [Ke,if_neg (fun x=>by omega)];exact h.todo i (by omega) hi' hd'
    ·rw [Ke,if_neg (fun x=>by have:=x.1;subst this;omega)];exact h.hi i hi hd'
   ·have e:Yo k c vs j=vs:=by
     unfold Yo addOk;rw [if_neg (by simp [hz])]
    rw [e];refine ⟨h.len,fun i hi hd' => ?_,fun i hi hi' hd'=>h.todo i (by omega) hi' hd',h.hi⟩
    by_cases e:i=j
    ·subst e
     rcases h.todo i (Nat.le_refl _) hj hr with h6 | h6
     ·exact h6
     ·exact absurd h6.2 hz
    ·exact h.done i (by omega) hd'
  ·have hz:=h.hi j hj (by omega)
   have e:Yo k c vs j=vs:=by
    unfold Yo addOk;rw [if_neg];intro hx;simp only [Bool.and_eq_true,Bool.not_eq_true'] at hx
    by_cases h6:r<depAt c (stAt c j).2.1.toNat
    ·have:=h.hi _ (by omega) h6
     rw [hx.1.2] at this;cases this
    ·have:=h.hi (stAt c j).2.2.toNat (by omega) (by omega)
     rw [hx.2] at this;cases this
   rw [e];refine ⟨h.len,fun i hi hd' => ?_,fun i hi hi' hd'=>h.todo i (by omega) hi' hd',h.hi⟩
   have hij:i<j:=by
    by_cases e:i=j
    ·subst e;exact absurd hd' hr
    ·omega
   exact h.done i hij hd'
 ·have e:Yo k c vs j=vs:=by
   unfold Yo addOk;rw [if_neg (by simp [h3])]
  rw [e];refine ⟨h.len,fun i hi hd' => ?_,fun i hi hi' hd'=>h.todo i (by omega) hi' hd',h.hi⟩
  by_cases e:i=j
  ·subst e
   rcases h.todo i (Nat.le_refl _) hj hd' with h6 | h6
   ·exact h6
   ·exact absurd h6.1 h3
  ·exact h.done i (by omega) hd'
theorem Mid.all {k:KM} {c:AM} {P:Nat→AuM→Prop} {r:Int} {vs:List AuM} (hP:PC k c P) (hok:AOk c) (h:Pre P c r vs):∀j,j≤c.st.length→Mid P c r j (addsTo k c vs j)
 | 0,_=>⟨h.len,fun i hi=>by omega,fun i _ hi hd=>h.lo i hi hd,h.hi⟩
 | j+1,hj=>(Mid.all hP hok h j (by omega)).step hP hok (by omega)
theorem adds_post {k:KM} {c:AM} {P:Nat→AuM→Prop} {r:Int} {vs:List AuM} (hP:PC k c P) (hok:AOk c) (h:Pre P c r vs):Post P c r (addsTo k c vs c.st.length):=by
 have:=Mid.all hP hok h c.st.length (Nat.le_refl _);exact ⟨this.len,fun i hi hd=>this.done i hi hd,this.hi⟩
theorem Ql {P:Nat→AuM→Prop} {e:EM} {ts:List TrM} {es ss:List Int} (hlt:∀j,j<ss.length→(ss.getD j 0).toNat<e.vs.length)
  (hp:∀j,j<ss.length→P (ss.getD j 0).toNat (ZJ e.k (trAt ts j) (rD e (trAt ts j) (errAt es (2*j)) (ss.getD j 0).toNat) (rE e (trAt ts j) (errAt es (2*j+1)) (ss.getD j 0).toNat))) :
  ∀j,j≤ss.length→∀i,(∃q,q<j∧(ss.getD q 0).toNat=i)∧P i (getA (Zl e ts es ss j).vs i)∨(¬∃q,q<j∧(ss.getD q 0).toNat=i)∧getA (Zl e ts es ss j).vs i=getA e.vs i
 | 0,_,i=>.inr ⟨by rintro ⟨q,hq,_⟩;omega,rfl⟩
 | j+1,hj,i=>by
  have ih:=Ql hlt hp j (by omega) i;have hl:=(YC e ts es ss j).2.2.2.1
  show _∧P i (getA (List.set _ _ _) i)∨_∧getA (List.set _ _ _) i=_
  rw [Ke]
  by_cases e:(ss.getD j 0).toNat=i
  ·left
   subst e;rw [if_pos ⟨rfl,by rw [hl];exact hlt j (by omega)⟩];exact ⟨⟨j,by omega,rfl⟩,hp j (by omega)⟩
  ·rw [if_neg (fun x=>e x.1)]
   rcases ih with ⟨⟨q,h1,h2⟩,h3⟩ | ⟨h1,h2⟩
   ·exact .inl ⟨⟨q,by omega,h2⟩,h3⟩
   ·refine .inr ⟨?_,h2⟩
    rintro ⟨q,h3,h4⟩
    by_cases e':q=j
    ·subst e';exact e h4
    ·exact h1 ⟨q,by omega,h4⟩
theorem Wv {l:List Int} {j:Nat} (h:j<l.length):l.getD j 0∈l:=by
 rw [getI l j h];exact List.getElem_mem h
theorem round_post {e:EM} {P:Nat→AuM→Prop} {ts:List TrM} {es:List Int} {r:Nat} (hP:PC e.k e.c P) (hok:AOk e.c) (hr:e.rd=r) (h:Post P e.c r e.vs)
  (hm:∀j,j<(mulsOf e).length→P ((mulsOf e).getD j 0).toNat (ZJ e.k (trAt ts j) (rD e (trAt ts j) (errAt es (2*j)) ((mulsOf e).getD j 0).toNat) (rE e (trAt ts j) (errAt es (2*j+1)) ((mulsOf e).getD j 0).toNat))) :
  Post P e.c ((r+1:Nat):Int) (XC e (Zl e ts es (mulsOf e) (mulsOf e).length)).vs:=by
 have hmem:∀j,j<(mulsOf e).length→∃i:Nat,i<e.c.st.length∧((mulsOf e).getD j 0).toNat=i∧(stAt e.c i).1=4∧depAt e.c i=r+1:=fun j hj=>by
  obtain ⟨i,h1,h2,h3,h4⟩:=(VR hok _ _).1 (Wv hj);have h2':(mulsOf e).getD j 0=(i:Int):=h2;exact ⟨i,h1,by rw [h2'];rfl,h3,by rw [h4,hr]⟩
 have hv:=Ql (P:=P) (e:=e) (ts:=ts) (es:=es) (ss:=mulsOf e) (fun j hj=>by
  obtain ⟨i,h1,h2,_⟩:=hmem j hj
  rw [h2,h.len];exact h1) hm (mulsOf e).length (Nat.le_refl _)
 have hl:=(YC e ts es (mulsOf e) (mulsOf e).length).2.2.2.1
 have hpre:Pre P e.c ((r+1:Nat):Int) (Zl e ts es (mulsOf e) (mulsOf e).length).vs:=by
  refine ⟨by rw [hl,h.len],fun i hi hd => ?_,fun i hi hd => ?_⟩
  ·rcases hv i with ⟨_,h1⟩ | ⟨h1,h2⟩
   ·exact .inl h1
   ·rw [h2]
    by_cases h5:depAt e.c i≤r
    ·exact .inl (h.lo i hi h5)
    ·have hz:=h.hi i hi (by omega)
     by_cases h4:(stAt e.c i).1=4
     ·exfalso
      have hin:(i:Int)∈mulsOf e:=(VR hok _ _).2 ⟨i,hi,rfl,h4,by rw [hr];omega⟩;obtain ⟨q,hq,hq'⟩:=List.getElem_of_mem hin;exact h1 ⟨q,hq,by rw [getI _ _ hq,hq'];rfl⟩
     ·by_cases h3:(stAt e.c i).1=3
      ·exact .inr ⟨h3,hz⟩
      ·have:=dep_none hi h3 h4
       omega
  ·rcases hv i with ⟨⟨q,h1,h2⟩,_⟩ | ⟨h1,h2⟩
   ·obtain ⟨i',h3,h4,_,h6⟩:=hmem q h1
    rw [h2] at h4;subst h4;omega
   ·rw [h2]
    exact h.hi i hi (by omega)
 exact adds_post hP hok hpre
theorem Qm (m:AM) (ins:List Int):∀(k j:Nat),j<k→(evS m ins k).getD j 0=evD m.p ins (evS m ins j) (stAt m j)
 | 0,j,h=>by omega
 | k+1,j,h=>by
  rw [evS,zF,List.getElem?_append,evS_len]
  by_cases e:j=k
  ·subst e
   rw [if_neg (by omega)];simp
  ·rw [if_pos (by omega),← zF]
   exact Qm m ins k j (by omega)
theorem evS_pre' (m:AM) (ins:List Int) {k j i:Nat} (h1:i<j) (h2:j≤k):(evS m ins j).getD i 0=(evS m ins k).getD i 0:=by
 rw [Qm m ins j i h1,Qm m ins k i (by omega)]
def valAt (c:AM) (ins:List Int) (i:Nat):Int:=(evS c ins c.st.length).getD i 0
theorem val_in {c:AM} {ins:List Int} {i:Nat} (hi:i<c.st.length) (h1:(stAt c i).1=1):valAt c ins i=ins.getD (stAt c i).2.1.toNat 0:=by
 unfold valAt;rw [Qm _ _ _ _ hi,evD,if_pos h1]
theorem val_const {c:AM} {ins:List Int} {i:Nat} (hi:i<c.st.length) (h2:(stAt c i).1=2):valAt c ins i=(stAt c i).2.1:=by
 unfold valAt;rw [Qm _ _ _ _ hi,evD,if_neg (by omega),if_neg (by omega),if_neg (by omega)]
theorem val_add {c:AM} {ins:List Int} {i:Nat} (hok:AOk c) (hi:i<c.st.length) (h3:(stAt c i).1=3):valAt c ins i=(valAt c ins (stAt c i).2.1.toNat+valAt c ins (stAt c i).2.2.toNat) % c.p:=by
 obtain ⟨h1,h2,_⟩:=ops_of hok hi (.inl h3);unfold valAt;rw [Qm _ _ _ _ hi,evD,if_neg (by omega),if_pos h3,evS_pre' c ins h1 (Nat.le_of_lt hi),evS_pre' c ins h2 (Nat.le_of_lt hi)]
structure Fit (k:KM) (c:AM) (P:Nat) (ins:List Int):Prop where
 kb:keysB k=true
 ok:AOk c
 pp:k.p=c.p
 pn:k.p=P
 len:ins.length=60
 el:elemsB c.p ins=true
theorem Fit.fld {k:KM} {c:AM} {P:Nat} {ins:List Int} (h:Fit k c P ins):fieldB k.p=true:=(Yc h.kb).1
def PF (k:KM) (i:Nat) (a:AuM):Prop:=formB k a=true
def PG (k:KM) (c:AM) (ins:List Int) (i:Nat) (a:AuM):Prop:=Good k a (valAt c ins i)
theorem PF.pc {k:KM} {c:AM}:PC k c (PF k):=⟨fun _ _ h=>h,fun i _ _ x y hx hy=>(UK hx hy).2⟩
theorem PG.pc {k:KM} {c:AM} {P:Nat} {ins:List Int} (h:Fit k c P ins):PC k c (PG k c ins) :=
 ⟨fun _ _ h=>h.form,fun i hi h3 x y hx hy=>by
  unfold PG;rw [val_add h.ok hi h3,← h.pp]
  exact Good.add hx hy⟩
theorem init_good {k:KM} {c:AM} {P s:Nat} {ins:List Int} (h:Fit k c P ins) {i:Nat} (hi:i<c.st.length) (h12:(stAt c i).1=1∨(stAt c i).1=2):Good k (initV k c P s ins i) (valAt c ins i):=by
 have hst:=h.ok.steps i hi;unfold initV
 by_cases h1:(stAt c i).1=1
 ·rw [if_pos h1,val_in hi h1]
  have h5:=KH h.el (stAt c i).2.1.toNat;exact Good.new h.kb h.pn (Yi h.fld (by omega) (by rw [h.pp];omega))
 ·have h2:(stAt c i).1=2:=by omega
  rw [if_neg h1,if_pos h2,val_const hi h2];unfold stepB at hst;rw [if_neg h1,if_pos h2] at hst;simp only [Bool.and_eq_true] at hst;have hx:elemB k.p (stAt c i).2.1=true:=by rw [h.pp];exact hst.1
  have:=(Good.zeros h.kb).const hx;have h9:=ZT hx;rw [Int.zero_add,Int.emod_eq_of_lt (by omega) (by omega)] at this;exact this
theorem init_pre {k:KM} {c:AM} {P s:Nat} {ins:List Int} (h:Fit k c P ins) {Q:Nat→AuM→Prop} (hQ:∀i a,PG k c ins i a→Q i a):Pre Q c 0 (initL k c P s ins):=by
 refine ⟨Xp ..,fun i hi hd => ?_,fun i hi hd => ?_⟩
 ·rw [UM _ _ _ _ _ hi]
  by_cases h12:(stAt c i).1=1∨(stAt c i).1=2
  ·exact .inl (hQ i _ (init_good h hi h12))
  ·by_cases h4:(stAt c i).1=4
   ·have:=dep_mul h.ok hi h4
    have:=dep_pos c (stAt c i).2.1.toNat;omega
   ·have hst:=h.ok.steps i hi
    have h3:(stAt c i).1=3:=by
     unfold stepB at hst;rw [if_neg (fun e=>h12 (.inl e)),if_neg (fun e=>h12 (.inr e))] at hst
     by_cases h34:(stAt c i).1=3∨(stAt c i).1=4
     ·omega
     ·rw [if_neg h34] at hst;cases hst
    refine .inr ⟨h3, ?_⟩;unfold initV;rw [if_neg (by omega),if_neg (by omega)];rfl
 ·rw [UM _ _ _ _ _ hi]
  unfold initV
  by_cases h3:(stAt c i).1=3∨(stAt c i).1=4
  ·rw [if_neg (by omega),if_neg (by omega)];rfl
  ·have:=dep_none (m:=c) hi (by omega) (by omega)
   omega
def tripF (k:KM) (ts:List TrM) (n:Nat):Prop:=n≤ts.length∧∀j,j<n→formB k (trAt ts j).a=true∧formB k (trAt ts j).b=true∧formB k (trAt ts j).c=true
def tripG (k:KM) (ts:List TrM) (n:Nat):Prop:=n≤ts.length∧∀j,j<n→∃u v,GoodT k (trAt ts j) u v
theorem tripG.f {k:KM} {ts:List TrM} {n:Nat} (h:tripG k ts n):tripF k ts n:=⟨h.1,fun j hj=>by
 obtain ⟨u,v,h1⟩:=h.2 j hj
 exact ⟨h1.a.form,h1.b.form,h1.c.form⟩⟩
theorem trsN_good {k:KM} {P s a n:Nat} (hk:keysB k=true) (hP:k.p=P):tripG k (trsN k P s a n) n :=
 ⟨by rw [XP];exact Nat.le_refl _,fun j hj=>by rw [trsN_at hj];exact ⟨_,_,GoodT.new hk hP⟩⟩
structure At (Q:Nat→AuM→Prop) (k:KM) (c:AM) (r:Nat) (e:EM):Prop where
 ek:e.k=k
 ec:e.c=c
 rd:e.rd=r
 post:Post Q c r e.vs
theorem muls_lt {e:EM} (hok:AOk e.c) {r:Nat} (hr:e.rd=r) {j:Nat} (hj:j<(mulsOf e).length):∃i:Nat,i<e.c.st.length∧(mulsOf e).getD j 0=i∧(stAt e.c i).1=4∧depAt e.c i=r+1∧(stAt e.c i).2.1.toNat<i∧(stAt e.c i).2.2.toNat<i∧depAt e.c (stAt e.c i).2.1.toNat≤r∧depAt e.c (stAt e.c i).2.2.toNat≤r:=by
 obtain ⟨i,h1,h2,h3,h4⟩:=(VR hok _ _).1 (Wv hj);have h5:=dep_mul hok h1 h3;obtain ⟨h6,h7,_⟩:=ops_of hok h1 (.inr h3);exact ⟨i,h1,h2,h3,by rw [h4,hr],h6,h7,by omega,by omega⟩
theorem At.may {Q:Nat→AuM→Prop} {k:KM} {c:AM} {P r:Nat} {ins:List Int} {e:EM} (hf:Fit k c P ins) (hQ:∀i a,Q i a→formB k a=true) (h:At Q k c r e) (hb:e.bad=false) (hr:(r:Int)<rounds c) {ts:List TrM} {es:List Int} (ht:tripF k ts (mulsOf e).length) (he:elemsB k.p es=true):mayB e ts es=true:=by
 obtain ⟨h1,h2,h3,h4⟩:=h;have hR:=Wl c;unfold mayB engOkB;rw [h1,h2,hb,h3,hf.kb,Yq hf.ok,he];simp only [Bool.and_eq_true,Bool.not_eq_true',decide_eq_true_eq,beq_iff_eq,Bool.true_and,Bool.not_false,Bool.and_true,List.all_eq_true];refine ⟨⟨⟨⟨⟨⟨hf.pp,h4.len⟩,YE (by omega) (by omega)⟩,fun a ha => ?_⟩,hr⟩,ht.1⟩,fun j hj => ?_⟩
 ·obtain ⟨i,hi,rfl⟩:=List.getElem_of_mem ha
  have e1:getA e.vs i=e.vs[i]:=by unfold getA;rw [zF,List.getElem?_eq_getElem hi];rfl
  unfold okV
  by_cases hd:depAt c i≤r
  ·have:=hQ i _ (h4.lo i (by rw [← h4.len];exact hi) hd)
   rw [e1] at this;rw [this,Bool.or_true]
  ·have:=h4.hi i (by rw [← h4.len];exact hi) (by omega)
   rw [e1] at this;rw [this,Bool.true_or]
 ·rw [List.mem_range] at hj
  obtain ⟨i,i1,i2,i3,i4,i5,i6,i7,i8⟩:=muls_lt (e:=e) (by rw [h2];exact hf.ok) h3 hj;rw [h2] at i1 i3 i4 i5 i6 i7 i8;obtain ⟨t1,t2,t3⟩:=ht.2 j hj;have f1:=hQ _ _ (h4.lo _ (by omega) i7);have f2:=hQ _ _ (h4.lo _ (by omega) i8);unfold tripOk opA opB;rw [i2,Int.toNat_natCast,h1,h2,t1,t2,t3,form_nz f1,form_nz f2];rfl
theorem At.next {Q:Nat→AuM→Prop} {k:KM} {c:AM} {P r:Nat} {ins:List Int} {e:EM} (hf:Fit k c P ins) (hQ:PC k c Q) (h:At Q k c r e) {ts:List TrM} {es:List Int}
  (hm:∀j,j<(mulsOf e).length→Q ((mulsOf e).getD j 0).toNat (ZJ e.k (trAt ts j) (rD e (trAt ts j) (errAt es (2*j)) ((mulsOf e).getD j 0).toNat) (rE e (trAt ts j) (errAt es (2*j+1)) ((mulsOf e).getD j 0).toNat))):At Q k c (r+1) (XC e (Zl e ts es (mulsOf e) (mulsOf e).length)):=by
 obtain ⟨h1,h2,h3,h4⟩:=h;have hfix:=YC e ts es (mulsOf e) (mulsOf e).length;have hp:=round_post (e:=e) (P:=Q) (ts:=ts) (es:=es) (r:=r) (by rw [h1,h2];exact hQ) (by rw [h2];exact hf.ok) h3 (by rw [h2];exact h4) hm;refine ⟨hfix.1.trans h1,hfix.2.1.trans h2, ?_,by rw [← h2];exact hp⟩
 show e.rd+1=_
 rw [h3];rfl
theorem rD_el {e:EM} {x:TrM} {er:Int} {i:Nat} (hf:fieldB e.k.p=true):elemB e.k.p (rD e x er i)=true∧elemB e.k.p (rE e x er i)=true:=⟨Yg hf _,Yg hf _⟩
theorem At.nextF {k:KM} {c:AM} {P r:Nat} {ins:List Int} {e:EM} (hf:Fit k c P ins) (h:At (PF k) k c r e) {ts:List TrM} {es:List Int} (ht:tripF k ts (mulsOf e).length):At (PF k) k c (r+1) (XC e (Zl e ts es (mulsOf e) (mulsOf e).length)):=by
 refine h.next hf PF.pc fun j hj => ?_;obtain ⟨t1,t2,t3⟩:=ht.2 j hj;have hfl:fieldB e.k.p=true:=by rw [h.ek];exact hf.fld
 unfold PF;rw [← h.ek] at t1 t2 t3 ⊢;exact (form_use t1 t2 t3 (rD_el hfl).1 (rD_el hfl).2).2
attribute [local simp] puts dsts Act.put
theorem XD {m:EM} (h:engOkB m=true):keysB m.k=true∧AOk m.c∧m.k.p=m.c.p∧m.vs.length=m.c.st.length∧inQ m.rd 0 60=true∧∀i,okV m.k (getA m.vs i)=true:=by
 unfold engOkB at h;simp only [Bool.and_eq_true,beq_iff_eq,decide_eq_true_eq,List.all_eq_true] at h;obtain ⟨⟨⟨⟨⟨h1,h2⟩,h3⟩,h4⟩,h5⟩,h6⟩:=h;refine ⟨h1,WI h2,h3,h4,h5,fun i => ?_⟩
 rcases Nat.lt_or_ge i m.vs.length with h7 | h7
 ·have:getA m.vs i=m.vs[i]:=by unfold getA;rw [zF,List.getElem?_eq_getElem h7];rfl
  rw [this];exact h6 _ (List.getElem_mem h7)
 ·rw [getA_out h7]
  exact UN rfl
theorem okV_el {k:KM} {v:AuM} (hk:keysB k=true) (h:okV k v=true):elemsB k.p v.sh=true:=by
 unfold okV at h
 cases hz:zeroA v
 ·rw [hz,Bool.false_or] at h
  exact (Yb h).2.2.2.1
 ·unfold zeroA at hz
  simp only [Bool.and_eq_true,decide_eq_true_eq] at hz;have:v.sh=[]:=List.eq_nil_of_length_eq_zero hz.1;rw [this];exact YZ (Yc hk).1 (by simp)
theorem outs_at {m:EM} (h:AOk m.c) {j:Nat} (hj:j<m.c.outs.length):∃z:Nat,m.c.outs.getD j 0=z∧z<m.c.st.length:=by
 have h1:=h.outs _ (Wv hj);simp [inB] at h1;obtain ⟨z,hz⟩:=Int.eq_ofNat_of_zero_le (a:=m.c.outs.getD j 0) (by simpa using h1.1);exact ⟨z,hz,by have:=h1.2;simp at hz;omega⟩
def outTo (m:EM) (j:Nat):List Int:=(m.c.outs.take j).map fun z=>fsum m.k.p (getA m.vs z.toNat).sh
theorem outTo_succ {m:EM} {j z:Nat} (hj:j<m.c.outs.length) (hz:m.c.outs.getD j 0=z):outTo m (j+1)=outTo m j ++ [fsum m.k.p (getA m.vs z).sh]:=by
 unfold outTo;rw [VH _ j hj,List.map_append,hz];rfl
theorem outTo_len {m:EM} {j:Nat} (hj:j≤m.c.outs.length):(outTo m j).length=j:=by unfold outTo;simp;omega
def OutJ (m:EM) (w:World) (e:Ending) (w':World):Prop:=∃V,e=.returned (.tuple #[V,.bool (outB m)])∧w'.ownsRow w.heap.size 3 1 V (outR m).length ((outR m).map (Value.int .i64))∧w.grownBy w' none
theorem OutJ.no {m:EM} {w w':World} (h:outB m=false) (hg:w.grownBy w' none):OutJ m w (.returned (.tuple #[.slice none 0 0,.bool false])) w':=by
 refine ⟨_,by rw [h], ?_,hg⟩;unfold outR;rw [h];exact World.ownsRow_nil w' _ _ _
set_option maxHeartbeats 4000000 in
set_option maxRecDepth 100000 in
theorem Wp (m:EM) (v:Value) (w0:World) (h:AggR w0 (Zf m) v) (wm:ewf m) :
  Calls Tryz.prog 56 #[v] w0 (OutJ m w0):=by
 obtain ⟨A,B,C,D,E,a,b,c,d,e,rfl,hR⟩:=Yk h;obtain ⟨w1,hw1⟩:∃x:World,w0.alloc (.cells #[.int .i64 m.k.p,.slice A m.k.al.length a,.int .i64 m.c.p,.slice B m.c.st.length b,.slice C m.c.outs.length c,.slice D m.vs.length d,.slice E m.op.length e,.int .i64 m.rd,.bool m.bad] 58)=x:=⟨_,rfl⟩;have GW:Hid (w0.grownBy w1 none):=by rw [← hw1];exact gbA (gbR _ _) _
 have D1:Hid (Blk w1 w0.heap.size 58 #[.int .i64 m.k.p,.slice A m.k.al.length a,.int .i64 m.c.p,.slice B m.c.st.length b,.slice C m.c.outs.length c,.slice D m.vs.length d,.slice E m.op.length e,.int .i64 m.rd,.bool m.bad]):=by rw [← hw1];exact Blk.new w0 _ _
 have R1:=zH (hR.grow GW.out);have WM:=zH wm;have HB:Hid (outB m=(engOkB m&&!m.bad&&m.c.outs.all fun z=>out1 m z.toNat)):=rfl;clear h hR wm
 go_enter Tryz.func56,Tryz.ntmps56
 obtain ⟨k0,k1,k2,k3,k4,k5,k6,k7,k8⟩:=D1.out.c9;go_wp2_with fail;clear hw1 k0 k1 k2 k3 k4 k5 k6 k7 k8;refine (YD m _ _ R1.out.al9 WM.out).mono ?_;rintro e' w2 ⟨rfl,g2⟩;have G2:=zH g2;have GZ:=zH (gbT GW.out g2);have e8:=(D1.out.grow g2).cell 8;simp at e8;clear g2
 cases b1:engOkB m
 ·rw [b1] at HB
  clear e8 b1;go_wp2_with fail;refine bodyPost_ret (v:=.tuple #[.slice none 0 0,.bool false]) (by simp [results,Tryz.results56]) rfl ?_;exact OutJ.no (by rw [HB.out];rfl) GZ.out
 have OKB:=zH (XD b1);rw [b1] at HB;clear b1
 cases b2:m.bad
 rotate_left
 ·rw [b2] at HB
  rw [b2] at e8;clear b2;go_wp2_with fail;refine bodyPost_ret (v:=.tuple #[.slice none 0 0,.bool false]) (by simp [results,Tryz.results56]) rfl ?_;exact OutJ.no (by rw [HB.out];rfl) GZ.out
 rw [b2] at HB e8;simp only [Bool.not_false,Bool.and_true,Bool.true_and] at HB;obtain ⟨nO,hnO⟩:∃n,m.c.outs.length=n:=⟨_,rfl⟩;obtain ⟨n,hn⟩:∃n,m.vs.length=n:=⟨_,rfl⟩;have B2:=zH (D1.out.grow G2.out);rw [hnO,hn] at B2;have LO:=zH hnO;have LN:=zH hn;have hO20:nO≤1048576:=by have:=WM.out.c.outs;omega
 have hn60:n≤60:=by have:=OKB.out.2.1.few;have:=OKB.out.2.2.2.1;omega
 have e4:=B2.out.cell 4;simp at e4;have e4':=fun o=>kA e4 o;have P0:=zH (CS.grow _ R1.out.va G2.out);rw [LN.out] at P0;have O0:=zH (R1.out.ou.grow G2.out);rw [LO.out] at O0;have K2:=zH (R1.out.ky.grow G2.out);clear D1 hnO hn R1;have hbd:=zH b2;clear b2;go_wp2_with fail;have OW0:Hid ((w2.alloc (.cells #[] 3)).ownsRow w2.heap.size 3 1 (.slice (some ⟨w2.heap.size,0,none⟩) 0 0) 0 ((outTo m 0).map (Value.int .i64))):=zH (World.ownsRow_made w2 #[] 0 (Nat.le_refl _) (by simp [outTo]) rfl)
 go_loopw [4,20] (fun v i wr=>∃k:Nat,k≤nO∧i=.int .i64 k∧Hid (wr.ownsRow w2.heap.size 3 1 v k ((outTo m k).map (Value.int .i64)))∧Hid (∀q,q<k→out1 m (m.c.outs.getD q 0).toNat=true)∧Hid (w2.grownBy wr none)) (fun _ i _=>nO - (intOf i).toNat)
 case atStart=>exact ⟨0,Nat.zero_le _,rfl,OW0,zH (fun q hq=>by omega),zH (gbA (gbR _ _) _)⟩
 case round =>
  clear OW0;obtain ⟨k,hk,rfl,hown,hO,hG⟩:=hrel
  by_cases hlt:k<nO
  ·have i1:(k:Int)<(nO:Int):=by omega
   obtain ⟨z,hz,hzn⟩:=outs_at OKB.out.2.1 (j:=k) (by rw [LO.out];exact hlt);have hzn:z<n:=by have:=OKB.out.2.2.2.1;have:=LN.out;omega
   have i2:(z:Int)<(n:Int):=by omega
   obtain ⟨ob,oo,rfl,hob,hoc⟩:=(O0.out.grow hG.out).at_ (by omega);have oc:=hoc k hlt;rw [hz] at oc;obtain ⟨b,o,x,Bx,dx,Cx,fx,rfl,hb,hx,q0,q1,hX⟩:=Yx (CS.grow _ P0.out hG.out) hzn;have hxg:getA m.vs z=x:=by unfold getA;rw [zF,hx];rfl
   have WX:=zH (WM.out.vs x (List.mem_of_getElem? hx));have HXG:=zH hxg;have HX:=zH hX;have HZ9:=zH hz;have OKX:=OKB.out.2.2.2.2.2 z;rw [hxg] at OKX;have EX:=zH (okV_el OKB.out.1 OKX);have Q0:=zH q0;have Q1:=zH q1;have C0:=zH ((B2.out.grow hG.out).cell 0);have C1:=zH ((B2.out.grow hG.out).cell 1);have C5:=zH ((B2.out.grow hG.out).cell 5);simp only [List.getElem?_toArray,List.getElem?_cons_succ,List.getElem?_cons_zero] at C0 C1 C5;have KW:=zH (K2.out.grow hG.out);have HO1:Hid (out1 m z=(!zeroA x&&Ye m.k (fsum m.k.p x.sh) x)):=by unfold Hid out1;rw [hxg]
   obtain ⟨val,hval⟩:∃q,fsum m.k.p x.sh=q:=⟨_,rfl⟩;rw [hval] at HO1;have HVAL:=zH hval;clear hoc hx hX hxg hz OKX q0 q1 hval;go_wp2_with fail;clear oc;refine Zv [isV (.pointer (some ⟨w0.heap.size,0,none⟩)),isV (.agg #[.int .i64 m.k.p,.slice A m.k.al.length a]),isV (.pointer (some ⟨w0.heap.size,5,none⟩)),isV (.slice (some ⟨b,o,none⟩) n d),isV (.int .i64 z),isV (.pointer (some ⟨b,o+z*2,none⟩)),isV (.agg #[.slice Bx x.sh.length dx,.slice Cx x.mc.length fx]),isV (.int .i64 val),isV (.int .i64 val)] (by kernel_rfl) (by kernel_rfl) (by kernel_rfl) (by simp [ZM,Zb]) ?_ ?_
   ·simp only [hops,and_true]
    refine ⟨?_, ?_, ?_, ?_, ?_, ?_, ?_, ?_, ?_⟩;rotate_left 7
    ·intro f w1 hG hd
     have hg4:=gbT (gbD (gbR wr none)) hG;simp [deps,tAt,isV] at hd
     first | simp [hd] | simp
     clear hd;go_wp2_with fail;refine (Xo m.k x _ _ w1 (KW.out.grow hg4) (HX.out.grow hg4) EX.out WX.out).mono ?_;rintro e w6 ⟨rfl,hw⟩;rw [HVAL.out];go_wp2_with fail;exact ⟨_,rfl,by first | with_reducible exact gbR _ _ | exact hw,by simp [tAt,isV]⟩
    all_goals
     intro f w1 hG hd;have hg4:=gbT (gbD (gbR wr none)) hG;have k0:=gbk hg4 (C0.out);have k1:=gbk hg4 (C1.out);have k2:=gbk hg4 (C5.out);have k3:=gbk hg4 (Q0.out);have k4:=gbk hg4 (Q1.out);simp [deps,tAt,isV] at hd
     first | simp [hd] | simp
     clear hd;go_wp2_with fail;exact ⟨_,rfl,by with_reducible exact gbR _ _,by simp [tAt,isV]⟩
   intro f w5 hG hd;simp [knows,tAt,isV] at hd;simp only [puts,dsts,Act.put,hd,zB,zC,zA,zD,zE];clear hd;have g5:=gbT (gbD (gbR wr none)) hG;clear hG;have GA:=zH (gbT hG.out g5);have OW1:=zH (Zj hown.out g5);have C0':=zH (gbk g5 C0.out);have C1':=zH (gbk g5 C1.out);have C5':=zH (gbk g5 C5.out);have Q0':=zH (gbk g5 Q0.out);have Q1':=zH (gbk g5 Q1.out);have KW':=zH (KW.out.grow g5);have HX':=zH (HX.out.grow g5);have HVE:Hid (elemB m.k.p val=true):=by rw [← HVAL.out];exact zH (Yl (Yc OKB.out.1).1 _)
   clear g5 C0 C1 C5 Q0 Q1 KW HX hown;go_wp2_with fail
   cases hz:zeroA x
   rotate_left
   ·rw [hz] at HO1
    have hno:outB m=false:=by
     rw [HB.out,List.all_eq_false];exact ⟨m.c.outs.getD k 0,Wv (by rw [LO.out];exact hlt),by rw [HZ9.out,Int.toNat_natCast,HO1.out];simp⟩
    have HNO:=zH hno;clear hno;refine Zv [isV (.pointer (some ⟨w0.heap.size,5,none⟩)),isV (.slice (some ⟨b,o,none⟩) n d),isV (.int .i64 z),isV (.pointer (some ⟨b,o+z*2,none⟩)),isV (.agg #[.slice Bx x.sh.length dx,.slice Cx x.mc.length fx]),isV (.bool true),isV (.bool true),isV (undef),isV (undef),isV (undef),isV (undef),isV (undef),isV (undef),isV (undef),isV (undef),isV (undef),isV (undef),isV (.bool true)] (by kernel_rfl) (by kernel_rfl) (by kernel_rfl) (by simp [ZM,Zb]) ?_ ?_
    ·simp only [hops,and_true]
     refine ⟨?_, ?_, ?_, ?_, ?_, ?_, ?_, ?_, ?_, ?_, ?_, ?_, ?_, ?_, ?_, ?_, ?_, ?_⟩;rotate_left 5
     ·intro f w1 hG hd
      have hg4:=gbT (gbD (gbR w5 none)) hG;simp [deps,tAt,isV] at hd
      first | simp [hd] | simp
      clear hd;go_wp2_with fail;refine (ZF x _ w1 (HX'.out.grow hg4)).mono ?_;rintro e w6 ⟨rfl,hw⟩;rw [hz];go_wp2_with fail;exact ⟨_,rfl,by first | with_reducible exact gbR _ _ | exact hw,by simp [tAt,isV]⟩
     all_goals
      intro f w1 hG hd;have hg4:=gbT (gbD (gbR w5 none)) hG;have k0:=gbk hg4 (C0'.out);have k1:=gbk hg4 (C1'.out);have k2:=gbk hg4 (C5'.out);have k3:=gbk hg4 (Q0'.out);have k4:=gbk hg4 (Q1'.out);simp [deps,tAt,isV] at hd
      first | simp [hd] | simp
      clear hd;go_wp2_with fail;exact ⟨_,rfl,by with_reducible exact gbR _ _,by simp [tAt,isV]⟩
    intro f w8 hG hd;simp [knows,tAt,isV] at hd;simp only [puts,dsts,Act.put,hd,zB,zC,zA,zD,zE];clear hd;have g8:=gbT (gbD (gbR w5 none)) hG;clear hG;have G9:=zH (gbT GZ.out (gbT GA.out g8));clear g8;go_wp2_with fail;refine bodyPost_ret (v:=.tuple #[.slice none 0 0,.bool false]) (by simp [results,Tryz.results56]) rfl ?_;exact OutJ.no HNO.out G9.out
   rw [hz,Bool.not_false,Bool.true_and] at HO1
   cases hmc:Ye m.k val x
   ·rw [hmc] at HO1
    have hno:outB m=false:=by
     rw [HB.out,List.all_eq_false];exact ⟨m.c.outs.getD k 0,Wv (by rw [LO.out];exact hlt),by rw [HZ9.out,Int.toNat_natCast,HO1.out];simp⟩
    have HNO:=zH hno;clear hno;refine Zv [isV (.pointer (some ⟨w0.heap.size,5,none⟩)),isV (.slice (some ⟨b,o,none⟩) n d),isV (.int .i64 z),isV (.pointer (some ⟨b,o+z*2,none⟩)),isV (.agg #[.slice Bx x.sh.length dx,.slice Cx x.mc.length fx]),isV (.bool false),isV (.bool false),isV (.pointer (some ⟨w0.heap.size,0,none⟩)),isV (.agg #[.int .i64 m.k.p,.slice A m.k.al.length a]),isV (.int .i64 val),isV (.pointer (some ⟨w0.heap.size,5,none⟩)),isV (.slice (some ⟨b,o,none⟩) n d),isV (.int .i64 z),isV (.pointer (some ⟨b,o+z*2,none⟩)),isV (.agg #[.slice Bx x.sh.length dx,.slice Cx x.mc.length fx]),isV (.bool false),isV (.bool true),isV (.bool true)] (by kernel_rfl) (by kernel_rfl) (by kernel_rfl) (by simp [ZM,Zb]) ?_ ?_
    ·simp only [hops,and_true]
     refine ⟨?_, ?_, ?_, ?_, ?_, ?_, ?_, ?_, ?_, ?_, ?_, ?_, ?_, ?_, ?_, ?_, ?_, ?_⟩;rotate_left 5
     ·intro f w1 hG hd
      have hg4:=gbT (gbD (gbR w5 none)) hG;simp [deps,tAt,isV] at hd
      first | simp [hd] | simp
      clear hd;go_wp2_with fail;refine (ZF x _ w1 (HX'.out.grow hg4)).mono ?_;rintro e w6 ⟨rfl,hw⟩;rw [hz];go_wp2_with fail;exact ⟨_,rfl,by first | with_reducible exact gbR _ _ | exact hw,by simp [tAt,isV]⟩
     rotate_left 9
     ·intro f w1 hG hd
      have hg4:=gbT (gbD (gbR w5 none)) hG;simp [deps,tAt,isV] at hd
      first | simp [hd] | simp
      clear hd;go_wp2_with fail;refine (Yz m.k val x _ _ w1 (KW'.out.grow hg4) (HX'.out.grow hg4) WM.out.k WX.out).mono ?_;rintro e w6 ⟨rfl,hw⟩;rw [hmc];go_wp2_with fail;exact ⟨_,rfl,by first | with_reducible exact gbR _ _ | exact hw,by simp [tAt,isV]⟩
     all_goals
      intro f w1 hG hd;have hg4:=gbT (gbD (gbR w5 none)) hG;have k0:=gbk hg4 (C0'.out);have k1:=gbk hg4 (C1'.out);have k2:=gbk hg4 (C5'.out);have k3:=gbk hg4 (Q0'.out);have k4:=gbk hg4 (Q1'.out);simp [deps,tAt,isV] at hd
      first | simp [hd] | simp
      clear hd;go_wp2_with fail;exact ⟨_,rfl,by with_reducible exact gbR _ _,by simp [tAt,isV]⟩
    intro f w8 hG hd;simp [knows,tAt,isV] at hd;simp only [puts,dsts,Act.put,hd,zB,zC,zA,zD,zE];clear hd;have g8:=gbT (gbD (gbR w5 none)) hG;clear hG;have G9:=zH (gbT GZ.out (gbT GA.out g8));clear g8;go_wp2_with fail;refine bodyPost_ret (v:=.tuple #[.slice none 0 0,.bool false]) (by simp [results,Tryz.results56]) rfl ?_;exact OutJ.no HNO.out G9.out
   ·rw [hmc] at HO1
    refine Zv [isV (.pointer (some ⟨w0.heap.size,5,none⟩)),isV (.slice (some ⟨b,o,none⟩) n d),isV (.int .i64 z),isV (.pointer (some ⟨b,o+z*2,none⟩)),isV (.agg #[.slice Bx x.sh.length dx,.slice Cx x.mc.length fx]),isV (.bool false),isV (.bool false),isV (.pointer (some ⟨w0.heap.size,0,none⟩)),isV (.agg #[.int .i64 m.k.p,.slice A m.k.al.length a]),isV (.int .i64 val),isV (.pointer (some ⟨w0.heap.size,5,none⟩)),isV (.slice (some ⟨b,o,none⟩) n d),isV (.int .i64 z),isV (.pointer (some ⟨b,o+z*2,none⟩)),isV (.agg #[.slice Bx x.sh.length dx,.slice Cx x.mc.length fx]),isV (.bool true),isV (.bool false),isV (.bool false)] (by kernel_rfl) (by kernel_rfl) (by kernel_rfl) (by simp [ZM,Zb]) ?_ ?_
    ·simp only [hops,and_true]
     refine ⟨?_, ?_, ?_, ?_, ?_, ?_, ?_, ?_, ?_, ?_, ?_, ?_, ?_, ?_, ?_, ?_, ?_, ?_⟩;rotate_left 5
     ·intro f w1 hG hd
      have hg4:=gbT (gbD (gbR w5 none)) hG;simp [deps,tAt,isV] at hd
      first | simp [hd] | simp
      clear hd;go_wp2_with fail;refine (ZF x _ w1 (HX'.out.grow hg4)).mono ?_;rintro e w6 ⟨rfl,hw⟩;rw [hz];go_wp2_with fail;exact ⟨_,rfl,by first | with_reducible exact gbR _ _ | exact hw,by simp [tAt,isV]⟩
     rotate_left 9
     ·intro f w1 hG hd
      have hg4:=gbT (gbD (gbR w5 none)) hG;simp [deps,tAt,isV] at hd
      first | simp [hd] | simp
      clear hd;go_wp2_with fail;refine (Yz m.k val x _ _ w1 (KW'.out.grow hg4) (HX'.out.grow hg4) WM.out.k WX.out).mono ?_;rintro e w6 ⟨rfl,hw⟩;rw [hmc];go_wp2_with fail;exact ⟨_,rfl,by first | with_reducible exact gbR _ _ | exact hw,by simp [tAt,isV]⟩
     all_goals
      intro f w1 hG hd;have hg4:=gbT (gbD (gbR w5 none)) hG;have k0:=gbk hg4 (C0'.out);have k1:=gbk hg4 (C1'.out);have k2:=gbk hg4 (C5'.out);have k3:=gbk hg4 (Q0'.out);have k4:=gbk hg4 (Q1'.out);simp [deps,tAt,isV] at hd
      first | simp [hd] | simp
      clear hd;go_wp2_with fail;exact ⟨_,rfl,by with_reducible exact gbR _ _,by simp [tAt,isV]⟩
    intro f w8 hG hd;simp [knows,tAt,isV] at hd;simp only [puts,dsts,Act.put,hd,zB,zC,zA,zD,zE];clear hd;have g8:=gbT (gbD (gbR w5 none)) hG;clear hG;have GA2:=zH (gbT GA.out g8);have OW2:=zH (Zj OW1.out g8)
    have HS9:Hid ((outTo m (k+1)).map (Value.int .i64)=(outTo m k).map (Value.int .i64) ++ [.int .i64 val]):=by
     unfold Hid;rw [outTo_succ (by rw [LO.out];exact hlt) HZ9.out,HXG.out,HVAL.out];simp
    clear g8 OW1
    go_wp2_with (at_builtin;refine ZK _ w8.heap.size rfl ZZ rfl (.tmp 50) (.tmp 52) rfl _ rfl (by simp [Value.oneCell']) w2.heap.size _ k _ OW2.out rfl rfl (by unfold maxLen;omega) (by omega) GA2.out.size ?_;intro v' w9 o9 g9)
    have h1:Hid (w9.ownsRow w2.heap.size 3 1 v' (k+1) ((outTo m (k+1)).map (Value.int .i64))):=by unfold Hid;rw [HS9.out];exact o9
    have h2:=zH (gbN GA2.out g9 (fun g e=>(OW2.out.lt g e).1))
    have h3:Hid (∀q,q<k+1→out1 m (m.c.outs.getD q 0).toNat=true):=zH (fun q hq=>by
     by_cases e:q=k
     ·subst e;rw [HZ9.out,Int.toNat_natCast,HO1.out]
     ·exact hO.out q (by omega))
    clear o9 g9 OW2 GA2;go_wp2_with fail
    go_roundw
    case rel=>exact ⟨k+1,by omega,by go_num,h1,h3,h2⟩
    case measure=>simp [intOf];omega
  ·have hkn:k=nO:=by omega
   subst hkn
   have hyes:outB m=true:=by
    rw [HB.out,List.all_eq_true];intro zz hzz;obtain ⟨i,hi,rfl⟩:=List.getElem_of_mem hzz;have:=hO.out i (by rw [← LO.out];exact hi);rw [getI _ _ hi] at this;exact this
   have hout:outR m=outTo m k:=by
    unfold outR outTo;rw [hyes,if_pos rfl,List.take_of_length_le (by rw [LO.out];exact Nat.le_refl _)]
   have HYES:=zH hyes;have HOUT:=zH hout;have HLK:Hid ((outTo m k).length=k):=zH (outTo_len (by rw [LO.out];exact Nat.le_refl _));have G9:=zH (gbT GZ.out hG.out);clear hyes hout;obtain ⟨Av,cv,rfl,_⟩:=ZB hown.out;go_wp2_with fail;refine bodyPost_ret (v:=.tuple #[.slice Av k cv,.bool true]) (by simp [results,Tryz.results56]) rfl ?_;refine ⟨_,by rw [HYES.out], ?_,G9.out⟩;rw [HOUT.out,HLK.out];exact ZE hown.out GZ.out.size
end Go.Proofs.YthaadgdeadbhkaaGreat
