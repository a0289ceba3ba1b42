/-
 EngineOk of the program.
-/
import Derived.Test.YthaadgdeadbhkaaGreatMgFnExactEngineRound22
open Go.RowKit
set_option linter.unusedVariables false
set_option linter.unusedSimpArgs false
namespace Go.Proofs.YthaadgdeadbhkaaGreat
theorem okV_zero {k:KM} {x:AuM} (h:zeroA x=true):okV k x=true:=by unfold okV;rw [h];rfl
set_option maxHeartbeats 4000000 in
set_option maxRecDepth 100000 in
theorem Ys (m:EM) (v:Value) (w0:World) (h:AggR w0 (Zd m) v) (wm:ewf m) :
  Calls Tryz.prog 122 #[v] w0 fun e w'=>e=.returned (.bool (engOkB m))∧w0.grownBy w' none:=by
 obtain ⟨A,B,C,D,E,a,b,c,d,e,rfl,hR⟩:=Zo h;obtain ⟨w1,hw1⟩:∃x:World,w0.alloc (.cells #[.int .i64 m.k.p,.slice A m.k.al.length a,.int .i64 m.c.p,.slice B m.c.st.length b,.slice C m.c.outs.length c,.slice D m.vs.length d,.slice E m.op.length e,.int .i64 m.rd,.bool m.bad] 58)=x:=⟨_,rfl⟩;have GW:Hid (w0.grownBy w1 none):=by rw [← hw1];exact gbA (gbR _ _) _
 have D1:Hid (Blk w1 w0.heap.size 58 #[.int .i64 m.k.p,.slice A m.k.al.length a,.int .i64 m.c.p,.slice B m.c.st.length b,.slice C m.c.outs.length c,.slice D m.vs.length d,.slice E m.op.length e,.int .i64 m.rd,.bool m.bad]):=by rw [← hw1];exact Blk.new w0 _ _
 have R1:=zH (hR.grow GW.out);have WM:=zH wm;have HB:Hid (engOkB m=(keysB m.k&&arithB m.c&&(m.k.p == m.c.p)&&decide (m.vs.length=m.c.st.length)&&inQ m.rd 0 60&&m.vs.all (okV m.k))):=rfl;obtain ⟨n,hn⟩:∃n,m.vs.length=n:=⟨_,rfl⟩;have hn20:n≤1048576:=by have:=wm.n;omega
 have LN:=zH hn;rw [hn] at D1 HB hw1;clear h hR wm
 go_enter Tryz.func122,Tryz.ntmps122
 rw [LN.out];have k0:=D1.out.cell 0;have k1:=D1.out.cell 1;simp at k0 k1;go_wp2_with fail;clear hw1 k0 k1 hn;refine (Wo m.k _ _ R1.out.ky WM.out.k).mono ?_;rintro e w2 ⟨rfl,g2⟩
 cases b1:keysB m.k
 ·rw [b1] at HB
  have G2:=zH (gbT GW.out g2);clear g2;go_wp2_with fail;go_ret;exact ⟨retB (by rw [HB.out];rfl),G2.out⟩
 have x0:=(D1.out.grow g2).cell 2;have x1:=(D1.out.grow g2).cell 3;have x2:=(D1.out.grow g2).cell 4;simp at x0 x1 x2;have G2:=zH g2;have KB:=zH b1;rw [b1] at HB;clear g2 b1;go_wp2_with fail;clear x0 x1 x2;refine (YW m.c _ _ (R1.out.ar.grow G2.out) WM.out.c.wf).mono ?_;rintro e w3 ⟨rfl,g3⟩
 cases b2:arithB m.c
 ·rw [b2] at HB
  have G3:=zH (gbT GW.out (gbT G2.out g3));clear g3;go_wp2_with fail;go_ret;exact ⟨retB (by rw [HB.out];rfl),G3.out⟩
 have G3:=zH (gbT G2.out g3);rw [b2] at HB;clear g3 b2 G2;have y0:=(D1.out.grow G3.out).cell 0;have y2:=(D1.out.grow G3.out).cell 2;have y3:=(D1.out.grow G3.out).cell 3;have y5:=(D1.out.grow G3.out).cell 5;have y7:=(D1.out.grow G3.out).cell 7;simp at y0 y2 y3 y5 y7
 cases b3:(m.k.p == m.c.p)
 ·rw [b3] at HB
  have n3:(m.k.p != m.c.p)=true:=by rw [bne,b3];rfl
  have G4:=zH (gbT GW.out G3.out);clear b3;go_wp2_with fail;go_ret;exact ⟨retB (by rw [HB.out];rfl),G4.out⟩
 have n3:(m.k.p != m.c.p)=false:=by rw [bne,b3];rfl
 rw [b3] at HB;clear b3
 cases b4:decide (n=m.c.st.length)
 ·rw [b4] at HB
  have n4:((n:Int) != (m.c.st.length:Int))=true:=by simp at b4;simp;omega
  have G4:=zH (gbT GW.out G3.out);clear b4;go_wp2_with fail;go_ret;exact ⟨retB (by rw [HB.out];rfl),G4.out⟩
 have n4:((n:Int) != (m.c.st.length:Int))=false:=by simp at b4;simp;omega
 rw [b4] at HB;clear b4;go_wp2_with fail;refine (UI m.rd 0 60 _).mono ?_;rintro e w4 ⟨rfl,rfl⟩
 cases b5:inQ m.rd 0 60
 ·rw [b5] at HB
  have G4:=zH (gbT GW.out G3.out);clear b5;go_wp2_with fail;go_ret;exact ⟨retB (by rw [HB.out];rfl),G4.out⟩
 rw [b5] at HB;simp only [Bool.and_true,Bool.true_and] at HB;clear b5;have P0:=zH (CS.grow _ R1.out.va G3.out);rw [LN.out] at P0;have B3:=zH (D1.out.grow G3.out);have GZ:=zH (gbT GW.out G3.out);go_wp2_with fail;clear n3 n4 y0 y2 y3 y5 y7
 go_loopw [43] (fun i wr=>∃k:Nat,k≤n∧i=.int .i64 k∧Hid (∀q,q<k→okV m.k (getA m.vs q)=true)∧Hid (w3.grownBy wr none)) (fun i _=>n - (intOf i).toNat)
 case atStart=>exact ⟨0,Nat.zero_le _,rfl,zH (fun q hq=>by omega),zH (gbR _ _)⟩
 case round =>
  obtain ⟨k,hk,rfl,hO,hG⟩:=hrel
  by_cases hlt:k<n
  ·have i1:(k:Int)<(n:Int):=by omega
   obtain ⟨b,o,x,Bx,dx,Cx,fx,rfl,hb,hx,q0,q1,hX⟩:=ZL (CS.grow _ P0.out hG.out) hlt;have hxg:getA m.vs k=x:=by unfold getA;rw [zF,hx];rfl
   have WX:=zH (WM.out.vs x (List.mem_of_getElem? hx));have HXG:=zH hxg;have HMX:=zH (List.mem_of_getElem? hx);have HX:=zH hX;clear hx hX hxg;go_wp2_with fail;obtain ⟨wy,hwy⟩:∃y:World,wr.alloc (.cells #[.slice Bx x.sh.length dx,.slice Cx x.mc.length fx] 80)=y:=⟨_,rfl⟩;have GY:Hid (wr.grownBy wy none):=by rw [← hwy];exact gbA (gbR _ _) _
   have BX:Hid (Blk wy wr.heap.size 80 #[.slice Bx x.sh.length dx,.slice Cx x.mc.length fx]):=by rw [← hwy];exact Blk.new _ _ _
   rw [hwy];clear hwy q0 q1;refine (Zt x _ wy (HX.out.grow GY.out)).mono ?_;rintro e w5 ⟨rfl,g5⟩;have G5:=zH (gbT GY.out g5);have e0:=(B3.out.grow (gbT hG.out G5.out)).cell 0;have e1:=(B3.out.grow (gbT hG.out G5.out)).cell 1;have c0:=(BX.out.grow g5).cell 0;have c1:=(BX.out.grow g5).cell 1;simp at e0 e1 c0 c1;clear g5
   cases hz:zeroA x
   ·have HZ:=zH hz
    clear hz;go_wp2_with fail;have GG:=gbT G3.out (gbT hG.out G5.out);have HK5:=R1.out.ky.grow GG;have HX5:=HX.out.grow G5.out;refine (Yz m.k [x] _ _ 1 1 _ (HK5.grow (gbA (gbR _ none) _)) (Vg HX5) WM.out.k (by intro y hy;simp at hy;subst hy;exact WX.out) (by omega)).mono ?_;rintro e w6 ⟨rfl,g6⟩;have G6:=zH (gbT (gbT hG.out G5.out) (gbT (gbA (gbR _ none) _) g6));have hf:([x].all (formA m.k)&&keysB m.k)=formB m.k x:=by unfold formB;simp [Bool.and_comm]
    rw [hf];clear g6 hf HK5 HX5 e0 e1 c0 c1 GG
    cases hfx:formB m.k x
    ·have hno:(m.vs.all (okV m.k))=false:=by
      rw [List.all_eq_false];exact ⟨x,HMX.out,by unfold okV;rw [HZ.out,hfx];decide⟩
     rw [hno] at HB;have G7:=zH (gbT GZ.out G6.out);clear hno hfx;go_wp2_with fail;go_ret;exact ⟨retB HB.out.symm,G7.out⟩
    ·have O2:Hid (∀q,q<k+1→okV m.k (getA m.vs q)=true):=zH (fun q hq=>by
      by_cases e:q=k
      ·subst e;rw [HXG.out];unfold okV;rw [hfx,Bool.or_true]
      ·exact hO.out q (by omega))
     clear hfx;go_wp2_with fail
     go_roundw
     case rel=>exact ⟨k+1,by omega,by go_num,O2,G6⟩
     case measure=>simp [intOf];omega
   ·have O2:Hid (∀q,q<k+1→okV m.k (getA m.vs q)=true):=zH (fun q hq=>by
     by_cases e:q=k
     ·subst e;rw [HXG.out];exact okV_zero hz
     ·exact hO.out q (by omega))
    have G6:=zH (gbT hG.out G5.out);clear hz;go_wp2_with fail
    go_roundw
    case rel=>exact ⟨k+1,by omega,by go_num,O2,G6⟩
    case measure=>simp [intOf];omega
  ·have hkn:k=n:=by omega
   subst hkn
   have hyes:(m.vs.all (okV m.k))=true:=by
    rw [List.all_eq_true];intro x hx;obtain ⟨i,hi,rfl⟩:=List.getElem_of_mem hx;have:=hO.out i (by rw [← LN.out];exact hi);unfold getA at this;rw [zF,List.getElem?_eq_getElem hi] at this;exact this
   rw [hyes] at HB;have G7:=zH (gbT GZ.out hG.out);go_wp2_with fail;go_ret;exact ⟨retB HB.out.symm,G7.out⟩
theorem mulsTo_iff (m:AM) (d:Int):∀(k:Nat) (z:Int),z∈mulsTo m d k ↔ ∃i:Nat,i<k∧z=i∧(stAt m i).1=4∧(mdepth m).getD i 0=d
 | 0,z=>by simp [mulsTo]
 | k+1,z=>by
  rw [mulsTo,List.mem_append,mulsTo_iff m d k z]
  constructor
  ·rintro (⟨i,h1,h2⟩ | h)
   ·exact ⟨i,by omega,h2⟩
   ·split at h
    ·rename_i h1
     simp only [List.mem_cons,List.not_mem_nil,or_false] at h;exact ⟨k,by omega,h,h1.1,h1.2⟩
    ·simp at h
  ·rintro ⟨i,h1,h2,h3,h4⟩
   by_cases e:i=k
   ·subst e
    right
    rw [if_pos ⟨h3,h4⟩,h2];simp
   ·exact .inl ⟨i,by omega,h2,h3,h4⟩
theorem WS {m:AM} (h:AOk m) (d z:Int):z∈mulsAt m d ↔ ∃i:Nat,i<m.st.length∧z=i∧(stAt m i).1=4∧depAt m i=d:=by
 unfold mulsAt;rw [mulsTo_iff,mdepth_len h]
 constructor
 ·rintro ⟨i,h1,h2,h3,h4⟩
  exact ⟨i,h1,h2,h3,by rw [← depAt_md h];exact h4⟩
 ·rintro ⟨i,h1,h2,h3,h4⟩
  exact ⟨i,h1,h2,h3,by rw [depAt_md h];exact h4⟩
theorem ops_of {m:AM} (h:AOk m) {i:Nat} (hi:i<m.st.length) (h3:(stAt m i).1=3∨(stAt m i).1=4):(stAt m i).2.1.toNat<i∧(stAt m i).2.2.toNat<i∧0≤(stAt m i).2.1∧0≤(stAt m i).2.2:=by
 have h1:=h.steps i hi;unfold stepB at h1;have h4:¬(stAt m i).1=1:=by omega
 have h5:¬(stAt m i).1=2:=by omega
 rw [if_neg h4,if_neg h5,if_pos h3] at h1;simp [inB] at h1;omega
theorem dep_add {m:AM} {i:Nat} (h:AOk m) (hi:i<m.st.length) (h3:(stAt m i).1=3):depAt m i=max (depAt m (stAt m i).2.1.toNat) (depAt m (stAt m i).2.2.toNat):=by
 obtain ⟨h1,h2,_⟩:=ops_of h hi (.inl h3);unfold depAt;rw [XV m _ i hi,depD,if_pos h3,Vy m h1 (Nat.le_of_lt hi),Vy m h2 (Nat.le_of_lt hi)]
theorem dep_mul {m:AM} {i:Nat} (h:AOk m) (hi:i<m.st.length) (h4:(stAt m i).1=4):depAt m i=1+max (depAt m (stAt m i).2.1.toNat) (depAt m (stAt m i).2.2.toNat):=by
 obtain ⟨h1,h2,_⟩:=ops_of h hi (.inr h4);unfold depAt;rw [XV m _ i hi,depD,if_neg (by omega),if_pos h4,Vy m h1 (Nat.le_of_lt hi),Vy m h2 (Nat.le_of_lt hi)]
theorem dep_none {m:AM} {i:Nat} (hi:i<m.st.length) (h3:¬(stAt m i).1=3) (h4:¬(stAt m i).1=4):depAt m i=0:=by
 unfold depAt;rw [XV m _ i hi,depD,if_neg h3,if_neg h4]
structure Post (P:Nat→AuM→Prop) (c:AM) (r:Int) (vs:List AuM):Prop where
 len:vs.length=c.st.length
 lo:∀i,i<c.st.length→depAt c i≤r→P i (getA vs i)
 hi:∀i,i<c.st.length→r<depAt c i→zeroA (getA vs i)=true
structure Pre (P:Nat→AuM→Prop) (c:AM) (r:Int) (vs:List AuM):Prop where
 len:vs.length=c.st.length
 lo:∀i,i<c.st.length→depAt c i≤r→P i (getA vs i)∨((stAt c i).1=3∧zeroA (getA vs i)=true)
 hi:∀i,i<c.st.length→r<depAt c i→zeroA (getA vs i)=true
structure PC (k:KM) (c:AM) (P:Nat→AuM→Prop):Prop where
 form:∀i a,P i a→formB k a=true
 add:∀i,i<c.st.length→(stAt c i).1=3→∀x y,P (stAt c i).2.1.toNat x→P (stAt c i).2.2.toNat y→P i (Zk k x y)
theorem PC.nz {k:KM} {c:AM} {P:Nat→AuM→Prop} (h:PC k c P) {i:Nat} {a:AuM} (ha:P i a):zeroA a=false:=form_nz (h.form i a ha)
structure Mid (P:Nat→AuM→Prop) (c:AM) (r:Int) (j:Nat) (vs:List AuM):Prop where
 len:vs.length=c.st.length
 done:∀i,i<j→depAt c i≤r→P i (getA vs i)
 todo:∀i,j≤i→i<c.st.length→depAt c i≤r→P i (getA vs i)∨((stAt c i).1=3∧zeroA (getA vs i)=true)
 hi:∀i,i<c.st.length→r<depAt c i→zeroA (getA vs i)=true
theorem Mid.step {k:KM} {c:AM} {P:Nat→AuM→Prop} {r:Int} {j:Nat} {vs:List AuM} (hP:PC k c P) (hok:AOk c) (h:Mid P c r j vs) (hj:j<c.st.length):Mid P c r (j+1) (Yc k c vs j):=by
 by_cases h3:(stAt c j).1=3
 ·obtain ⟨ha,hb,_⟩:=ops_of hok hj (.inl h3)
  have hd:=dep_add hok hj h3
  by_cases hr:depAt c j≤r
  ·have pa:=h.done _ ha (by omega)
   have pb:=h.done _ hb (by omega)
   by_cases hz:zeroA (getA vs j)=true
   ·have e:Yc k c vs j=vs.set j (Zk k (getA vs (stAt c j).2.1.toNat) (getA vs (stAt c j).2.2.toNat)):=by
     unfold Yc addOk;rw [if_pos (by rw [h3,hz,hP.nz pa,hP.nz pb];rfl)]
    rw [e];have hx:=hP.add j hj h3 _ _ pa pb;refine ⟨by rw [List.length_set];exact h.len,fun i hi hd' => ?_,fun i hi hi' hd' => ?_,fun i hi hd' => ?_⟩
    ·rw [UA]
     by_cases e:j=i
     ·subst e;rw [if_pos ⟨rfl,by rw [h.len];exact hj⟩];exact hx
     ·rw [if_neg (fun x=>e x.1)];exact h.done i (by omega) hd'
    ·rw [UA,if_neg (fun x=>by omega)];exact h.todo i (by omega) hi' hd'
    ·rw [UA,if_neg (fun x=>by have:=x.1;subst this;omega)];exact h.hi i hi hd'
   ·have e:Yc k c vs j=vs:=by
     unfold Yc addOk;rw [if_neg (by simp [hz])]
    rw [e];refine ⟨h.len,fun i hi hd' => ?_,fun i hi hi' hd'=>h.todo i (by omega) hi' hd',h.hi⟩
    by_cases e:i=j
    ·subst e
     rcases h.todo i (Nat.le_refl _) hj hr with h6 | h6
     ·exact h6
     ·exact absurd h6.2 hz
    ·exact h.done i (by omega) hd'
  ·have hz:=h.hi j hj (by omega)
   have e:Yc k c vs j=vs:=by
    unfold Yc addOk;rw [if_neg];intro hx;simp only [Bool.and_eq_true,Bool.not_eq_true'] at hx
    by_cases h6:r<depAt c (stAt c j).2.1.toNat
    ·have:=h.hi _ (by omega) h6
     rw [hx.1.2] at this;cases this
    ·have:=h.hi (stAt c j).2.2.toNat (by omega) (by omega)
     rw [hx.2] at this;cases this
   rw [e];refine ⟨h.len,fun i hi hd' => ?_,fun i hi hi' hd'=>h.todo i (by omega) hi' hd',h.hi⟩
   have hij:i<j:=by
    by_cases e:i=j
    ·subst e;exact absurd hd' hr
    ·omega
   exact h.done i hij hd'
 ·have e:Yc k c vs j=vs:=by
   unfold Yc addOk;rw [if_neg (by simp [h3])]
  rw [e];refine ⟨h.len,fun i hi hd' => ?_,fun i hi hi' hd'=>h.todo i (by omega) hi' hd',h.hi⟩
  by_cases e:i=j
  ·subst e
   rcases h.todo i (Nat.le_refl _) hj hd' with h6 | h6
   ·exact h6
   ·exact absurd h6.1 h3
  ·exact h.done i (by omega) hd'
theorem Mid.all {k:KM} {c:AM} {P:Nat→AuM→Prop} {r:Int} {vs:List AuM} (hP:PC k c P) (hok:AOk c) (h:Pre P c r vs):∀j,j≤c.st.length→Mid P c r j (addsTo k c vs j)
 | 0,_=>⟨h.len,fun i hi=>by omega,fun i _ hi hd=>h.lo i hi hd,h.hi⟩
 | j+1,hj=>(Mid.all hP hok h j (by omega)).step hP hok (by omega)
theorem adds_post {k:KM} {c:AM} {P:Nat→AuM→Prop} {r:Int} {vs:List AuM} (hP:PC k c P) (hok:AOk c) (h:Pre P c r vs):Post P c r (addsTo k c vs c.st.length):=by
 have:=Mid.all hP hok h c.st.length (Nat.le_refl _);exact ⟨this.len,fun i hi hd=>this.done i hi hd,this.hi⟩
theorem VX {P:Nat→AuM→Prop} {e:EM} {ts:List TrM} {es ss:List Int} (hlt:∀j,j<ss.length→(ss.getD j 0).toNat<e.vs.length)
  (hp:∀j,j<ss.length→P (ss.getD j 0).toNat (Zw e.k (trAt ts j) (rD e (trAt ts j) (errAt es (2*j)) (ss.getD j 0).toNat) (rE e (trAt ts j) (errAt es (2*j+1)) (ss.getD j 0).toNat))) :
  ∀j,j≤ss.length→∀i,(∃q,q<j∧(ss.getD q 0).toNat=i)∧P i (getA (Zf e ts es ss j).vs i)∨(¬∃q,q<j∧(ss.getD q 0).toNat=i)∧getA (Zf e ts es ss j).vs i=getA e.vs i
 | 0,_,i=>.inr ⟨by rintro ⟨q,hq,_⟩;omega,rfl⟩
 | j+1,hj,i=>by
  have ih:=VX hlt hp j (by omega) i;have hl:=(Yk e ts es ss j).2.2.2.1
  show _∧P i (getA (List.set _ _ _) i)∨_∧getA (List.set _ _ _) i=_
  rw [UA]
  by_cases e:(ss.getD j 0).toNat=i
  ·left
   subst e;rw [if_pos ⟨rfl,by rw [hl];exact hlt j (by omega)⟩];exact ⟨⟨j,by omega,rfl⟩,hp j (by omega)⟩
  ·rw [if_neg (fun x=>e x.1)]
   rcases ih with ⟨⟨q,h1,h2⟩,h3⟩ | ⟨h1,h2⟩
   ·exact .inl ⟨⟨q,by omega,h2⟩,h3⟩
   ·refine .inr ⟨?_,h2⟩
    rintro ⟨q,h3,h4⟩
    by_cases e':q=j
    ·subst e';exact e h4
    ·exact h1 ⟨q,by omega,h4⟩
theorem getD_mem {l:List Int} {j:Nat} (h:j<l.length):l.getD j 0∈l:=by
 rw [getI l j h];exact List.getElem_mem h
theorem round_post {e:EM} {P:Nat→AuM→Prop} {ts:List TrM} {es:List Int} {r:Nat} (hP:PC e.k e.c P) (hok:AOk e.c) (hr:e.rd=r) (h:Post P e.c r e.vs)
  (hm:∀j,j<(mulsOf e).length→P ((mulsOf e).getD j 0).toNat (Zw e.k (trAt ts j) (rD e (trAt ts j) (errAt es (2*j)) ((mulsOf e).getD j 0).toNat) (rE e (trAt ts j) (errAt es (2*j+1)) ((mulsOf e).getD j 0).toNat))) :
  Post P e.c ((r+1:Nat):Int) (Xs e (Zf e ts es (mulsOf e) (mulsOf e).length)).vs:=by
 have hmem:∀j,j<(mulsOf e).length→∃i:Nat,i<e.c.st.length∧((mulsOf e).getD j 0).toNat=i∧(stAt e.c i).1=4∧depAt e.c i=r+1:=fun j hj=>by
  obtain ⟨i,h1,h2,h3,h4⟩:=(WS hok _ _).1 (getD_mem hj);have h2':(mulsOf e).getD j 0=(i:Int):=h2;exact ⟨i,h1,by rw [h2'];rfl,h3,by rw [h4,hr]⟩
 have hv:=VX (P:=P) (e:=e) (ts:=ts) (es:=es) (ss:=mulsOf e) (fun j hj=>by
  obtain ⟨i,h1,h2,_⟩:=hmem j hj
  rw [h2,h.len];exact h1) hm (mulsOf e).length (Nat.le_refl _)
 have hl:=(Yk e ts es (mulsOf e) (mulsOf e).length).2.2.2.1
 have hpre:Pre P e.c ((r+1:Nat):Int) (Zf e ts es (mulsOf e) (mulsOf e).length).vs:=by
  refine ⟨by rw [hl,h.len],fun i hi hd => ?_,fun i hi hd => ?_⟩
  ·rcases hv i with ⟨_,h1⟩ | ⟨h1,h2⟩
   ·exact .inl h1
   ·rw [h2]
    by_cases h5:depAt e.c i≤r
    ·exact .inl (h.lo i hi h5)
    ·have hz:=h.hi i hi (by omega)
     by_cases h4:(stAt e.c i).1=4
     ·exfalso
      have hin:(i:Int)∈mulsOf e:=(WS hok _ _).2 ⟨i,hi,rfl,h4,by rw [hr];omega⟩;obtain ⟨q,hq,hq'⟩:=List.getElem_of_mem hin;exact h1 ⟨q,hq,by rw [getI _ _ hq,hq'];rfl⟩
     ·by_cases h3:(stAt e.c i).1=3
      ·exact .inr ⟨h3,hz⟩
      ·have:=dep_none hi h3 h4
       omega
  ·rcases hv i with ⟨⟨q,h1,h2⟩,_⟩ | ⟨h1,h2⟩
   ·obtain ⟨i',h3,h4,_,h6⟩:=hmem q h1
    rw [h2] at h4;subst h4;omega
   ·rw [h2]
    exact h.hi i hi (by omega)
 exact adds_post hP hok hpre
structure Fit (k:KM) (c:AM) (P:Nat) (ins:List Int):Prop where
 kb:keysB k=true
 ok:AOk c
 pp:k.p=c.p
 pn:k.p=P
 len:ins.length=60
 el:elemsB c.p ins=true
theorem Fit.fld {k:KM} {c:AM} {P:Nat} {ins:List Int} (h:Fit k c P ins):fieldB k.p=true:=(YX h.kb).1
structure At (Q:Nat→AuM→Prop) (k:KM) (c:AM) (r:Nat) (e:EM):Prop where
 ek:e.k=k
 ec:e.c=c
 rd:e.rd=r
 post:Post Q c r e.vs
theorem muls_lt {e:EM} (hok:AOk e.c) {r:Nat} (hr:e.rd=r) {j:Nat} (hj:j<(mulsOf e).length):∃i:Nat,i<e.c.st.length∧(mulsOf e).getD j 0=i∧(stAt e.c i).1=4∧depAt e.c i=r+1∧(stAt e.c i).2.1.toNat<i∧(stAt e.c i).2.2.toNat<i∧depAt e.c (stAt e.c i).2.1.toNat≤r∧depAt e.c (stAt e.c i).2.2.toNat≤r:=by
 obtain ⟨i,h1,h2,h3,h4⟩:=(WS hok _ _).1 (getD_mem hj);have h5:=dep_mul hok h1 h3;obtain ⟨h6,h7,_⟩:=ops_of hok h1 (.inr h3);exact ⟨i,h1,h2,h3,by rw [h4,hr],h6,h7,by omega,by omega⟩
theorem At.next {Q:Nat→AuM→Prop} {k:KM} {c:AM} {P r:Nat} {ins:List Int} {e:EM} (hf:Fit k c P ins) (hQ:PC k c Q) (h:At Q k c r e) {ts:List TrM} {es:List Int}
  (hm:∀j,j<(mulsOf e).length→Q ((mulsOf e).getD j 0).toNat (Zw e.k (trAt ts j) (rD e (trAt ts j) (errAt es (2*j)) ((mulsOf e).getD j 0).toNat) (rE e (trAt ts j) (errAt es (2*j+1)) ((mulsOf e).getD j 0).toNat))):At Q k c (r+1) (Xs e (Zf e ts es (mulsOf e) (mulsOf e).length)):=by
 obtain ⟨h1,h2,h3,h4⟩:=h;have hfix:=Yk e ts es (mulsOf e) (mulsOf e).length;have hp:=round_post (e:=e) (P:=Q) (ts:=ts) (es:=es) (r:=r) (by rw [h1,h2];exact hQ) (by rw [h2];exact hf.ok) h3 (by rw [h2];exact h4) hm;refine ⟨hfix.1.trans h1,hfix.2.1.trans h2, ?_,by rw [← h2];exact hp⟩
 show e.rd+1=_
 rw [h3];rfl
theorem YZ {m:EM} (h:engOkB m=true):keysB m.k=true∧AOk m.c∧m.k.p=m.c.p∧m.vs.length=m.c.st.length∧inQ m.rd 0 60=true∧∀i,okV m.k (getA m.vs i)=true:=by
 unfold engOkB at h;simp only [Bool.and_eq_true,beq_iff_eq,decide_eq_true_eq,List.all_eq_true] at h;obtain ⟨⟨⟨⟨⟨h1,h2⟩,h3⟩,h4⟩,h5⟩,h6⟩:=h;refine ⟨h1,arithB_is h2,h3,h4,h5,fun i => ?_⟩
 rcases Nat.lt_or_ge i m.vs.length with h7 | h7
 ·have:getA m.vs i=m.vs[i]:=by unfold getA;rw [zF,List.getElem?_eq_getElem h7];rfl
  rw [this];exact h6 _ (List.getElem_mem h7)
 ·rw [getA_out h7]
  exact okV_zero rfl
def OutJ (m:EM) (w:World) (e:Ending) (w':World):Prop:=∃V,e=.returned (.tuple #[V,.bool (outB m)])∧w'.ownsRow w.heap.size 3 1 V (outR m).length ((outR m).map (Value.int .i64))∧w.grownBy w' none
theorem OutJ.no {m:EM} {w w':World} (h:outB m=false) (hg:w.grownBy w' none):OutJ m w (.returned (.tuple #[.slice none 0 0,.bool false])) w':=by
 refine ⟨_,by rw [h], ?_,hg⟩;unfold outR;rw [h];exact World.ownsRow_nil w' _ _ _
end Go.Proofs.YthaadgdeadbhkaaGreat
