/-
 EngineRound of the program.
-/
import Derived.Test.YthaadgdeadbhkaaGreatMgFnExactEngineRound36
open Go.RowKit
set_option linter.unusedVariables false
set_option linter.unusedSimpArgs false
namespace Go.Proofs.YthaadgdeadbhkaaGreat
attribute [local simp] depsC dstAt kAt bindE List.filter_cons Zy Zp Zq Zr Zz Yu puts dsts Act.put
theorem XM {m:EM} {ts:List TrM} {es:List Int} (h:mayB m ts es=true):engOkB m=true∧m.bad=false∧m.rd<rounds m.c∧(mulsOf m).length≤ts.length∧elemsB m.k.p es=true∧∀j,j<(mulsOf m).length→tripOk m (trAt ts j) ((mulsOf m).getD j 0).toNat=true:=by
 unfold mayB at h;simp only [Bool.and_eq_true,Bool.not_eq_true',decide_eq_true_eq,List.all_eq_true] at h;obtain ⟨⟨⟨⟨⟨h1,h2⟩,h3⟩,h4⟩,h5⟩,h6⟩:=h;exact ⟨h1,h2,h3,h4,h5,fun j hj=>h6 j (List.mem_range.2 hj)⟩
theorem lit2_cells (w:World) (x y:Value) (e:TypeId):∀j u,([x,y]:List Value)[j]?=some u→(w.alloc (.cells #[x,y] e)).cell? ((⟨w.heap.size,0,none⟩:Addr).add j)=some u:=by
 intro j u hu;have hadd:(⟨w.heap.size,0,none⟩:Addr).add j=⟨w.heap.size,j,none⟩:=by unfold Addr.add;split <;> simp_all
 rw [hadd,cell_of_row _ _ j #[x,y] e (0,0) (heap_alloc_new w _)]
 simpa using hu
theorem opn_cells {w w':World} {g i:Nat} {o:Obj} {v u:Value} {F6:List Nat} (h:(w.alloc o).grownBy w' u.ownBlock) (hc:w.cell? ⟨g,i,none⟩=some v) (hf:w.frozen? ⟨g,i,none⟩=false) (hg:g<w.heap.size) (_hl:∀x∈F6,x<w.heap.size) (hF:F6=u.ownBlock.toList) (hn:g∉F6) :
  w'.cell? ⟨g,i,none⟩=some v∧w'.frozen? ⟨g,i,none⟩=false:=by
 have hne:some g≠u.ownBlock:=fun e=>hn (by rw [hF,← e];simp);have hg':g<(w.alloc o).heap.size:=by simp;omega
 exact ⟨(gbCell h (p:=⟨g,i,none⟩) hg' hne).trans (kA hc o),(gbFrozen h (p:=⟨g,i,none⟩) hg' hne).trans ((gbFrozen (World.grownBy_alloc w o none) (p:=⟨g,i,none⟩) hg (by simp)).trans hf)⟩
theorem Wi {m:EM} {ts:List TrM} {es ss:List Int} (h:∀a∈m.vs,awf a) (ht:∀x∈ts,twf x):∀j,j≤ts.length→∀a∈(Zf m ts es ss j).vs,awf a
 | 0,_=>h
 | j+1,hj=>by
  intro a ha;have ha:a∈(Zf m ts es ss j).vs.set (ss.getD j 0).toNat (Zw m.k (trAt ts j) _ _):=ha
  rcases List.mem_or_eq_of_mem_set ha with h1 | h1
  ·exact Wi h ht j (by omega) a h1
  ·rw [h1];exact awf_use (VB ht (by omega))
theorem step_at {m:EM} (h:engOkB m=true) {j:Nat} (hj:j<(mulsOf m).length):∃(i ya zb:Nat),(mulsOf m).getD j 0=i∧i<m.c.st.length∧stAt m.c i=(4,(ya:Int),(zb:Int))∧ya<i∧zb<i:=by
 obtain ⟨_,hok,_,_,hrd,_⟩:=YZ h;obtain ⟨r,hr⟩:=Int.eq_ofNat_of_zero_le (Vl hrd).1;obtain ⟨i,j1,j2,j3,_⟩:=muls_lt hok hr hj;obtain ⟨⟨x,y,z⟩,hst⟩:∃s,stAt m.c i=s:=⟨_,rfl⟩;rw [hst] at j3;have hx4:x=4:=j3;obtain ⟨ya,zb,hya,hzb,hai,hbi⟩:=Wf hok j1 hst (.inr hx4);subst hya;subst hzb;subst hx4;exact ⟨i,ya,zb,j2,j1,hst,hai,hbi⟩
set_option maxHeartbeats 20000000 in
set_option maxRecDepth 100000 in
theorem Ua (m:EM) (ts:List TrM) (es:List Int) (v:Value) (T R:Option Addr) (nt ct nr cr:Nat) (w0:World) (h:AggR w0 (Zd m) v) (ht:(Zs ts).rd w0 (.slice T nt ct)) (he:Ints w0 R nr es) (wm:ewf m) (wt:∀x∈ts,twf x) (hnt:nt≤1048576) (hnr:nr≤1048576) :
  Calls Tryz.prog 27 #[v,.slice T nt ct,.slice R nr cr] w0 fun e w'=>∃v,e=.returned v∧aggF w0.heap.size (Zd (Ym m ts es)) v w'∧w0.grownBy w' none:=by
 obtain ⟨A,B,C,D,E,a,b,c,d,e,rfl,hR⟩:=Zo h;obtain ⟨wb,hwb⟩:∃x:World,(w0.alloc (.cells #[.int .i64 m.k.p,.slice A m.k.al.length a,.int .i64 m.c.p,.slice B m.c.st.length b,.slice C m.c.outs.length c,.slice D m.vs.length d,.slice E m.op.length e,.int .i64 m.rd,.bool m.bad] 58)).alloc (.cells #[.int .i64 0,.slice none 0 0,.int .i64 0,.slice none 0 0,.slice none 0 0,.slice none 0 0,.slice none 0 0,.int .i64 0,.bool false] 58)=x:=⟨_,rfl⟩;have GW:Hid (w0.grownBy wb none):=by rw [← hwb];exact gbA (gbA (gbR _ _) _) _
 have zb:Hid (wb.heap.size=w0.heap.size+2):=by rw [← hwb];exact zH (by simp)
 have D1:Hid (Blk wb w0.heap.size 58 #[.int .i64 m.k.p,.slice A m.k.al.length a,.int .i64 m.c.p,.slice B m.c.st.length b,.slice C m.c.outs.length c,.slice D m.vs.length d,.slice E m.op.length e,.int .i64 m.rd,.bool m.bad]):=by rw [← hwb];exact (Blk.new w0 _ _).grow (gbA (gbR _ _) _)
 have D6:Hid (Blk wb (w0.heap.size+1) 58 #[.int .i64 0,.slice none 0 0,.int .i64 0,.slice none 0 0,.slice none 0 0,.slice none 0 0,.slice none 0 0,.int .i64 0,.bool false]):=by rw [← hwb];exact Blk.new' _ _ _ _ (by simp)
 have R1:=zH (hR.grow GW.out);have WM:=zH wm;have WT:=zH wt;have TR:=zH (CS.grow _ ht GW.out);have ER:=zH (he.grow GW.out);have LT:=zH (YQ ht);clear h hR wm wt ht he
 go_enter Tryz.func27,Tryz.ntmps27
 obtain ⟨k0,k1,k2,k3,k4,k5,k6,k7,k8⟩:=D1.out.c9;go_wp2_with fail
 try rw [hwb]
 clear hwb k0 k1 k2 k3 k4 k5 k6 k7 k8;refine (Ut m _ wb R1.out.al9 WM.out).mono ?_;rintro e' w2 ⟨v2,rfl,o2,g2⟩;obtain ⟨F0,hA,hl0⟩:=o2;obtain ⟨A',B',C',D',E',a',b',c',d',e',rfl,hR2⟩:=Zo hA.rd;have D12:=zH (D1.out.grow g2);have D62:=zH (D6.out.grow g2);have G2:=zH g2;have HA:=zH hA;have HL0:=zH hl0;have k2:=D12.out.cell 2;have k3:=D12.out.cell 3;have k4:=D12.out.cell 4;have k7:=D12.out.cell 7;simp only [List.getElem?_toArray,List.getElem?_cons_succ,List.getElem?_cons_zero] at k2 k3 k4 k7;have q2:=fun o=>kA k2 o;have q3:=fun o=>kA k3 o;have q4:=fun o=>kA k4 o;have q7:=fun o=>kA k7 o;clear hA hl0 hR2 g2;go_wp2_with fail;obtain ⟨w3,hw3⟩:∃x:World,w2.alloc (.cells #[.int .i64 m.k.p,.slice A' m.k.al.length a',.int .i64 m.c.p,.slice B' m.c.st.length b',.slice C' m.c.outs.length c',.slice D' m.vs.length d',.slice E' m.op.length e',.int .i64 m.rd,.bool m.bad] 58)=x:=⟨_,rfl⟩;have G3:Hid (wb.grownBy w3 none):=by rw [← hw3];exact gbA G2.out _
 obtain ⟨g,hg⟩:∃x,w2.heap.size=x:=⟨_,rfl⟩
 have SG:Hid (SOF 58 (Zd m) g F0 w3):=by
  rw [← hw3,← hg];exact zH (SOF.made (vs:=[_,_,_,_,_,_,_,_,_]) (Blk.new w2 _ _) (HA.out.grow (gbA (gbR _ _) _)) (fun hx=>by have:=HA.out.lt _ hx;omega))
 have hgl:wb.heap.size≤g:=by have:=G2.out.size;omega
 rw [hw3];rw [hg];have DP:=zH (show Blk w3 w0.heap.size 58 #[.int .i64 m.k.p,.slice A m.k.al.length a,.int .i64 m.c.p,.slice B m.c.st.length b,.slice C m.c.outs.length c,.slice D m.vs.length d,.slice E m.op.length e,.int .i64 m.rd,.bool m.bad] by rw [← hw3];exact D12.out.grow (gbA (gbR _ _) _));have DR:=zH (show Blk w3 (w0.heap.size+1) 58 #[.int .i64 0,.slice none 0 0,.int .i64 0,.slice none 0 0,.slice none 0 0,.slice none 0 0,.slice none 0 0,.int .i64 0,.bool false] by rw [← hw3];exact D62.out.grow (gbA (gbR _ _) _));clear hw3 hg k2 k3 k4 k7 q2 q3 q4 q7 D12 D62 HA G2;obtain ⟨d,hd⟩:∃d,wrap64 (m.rd+1)=d:=⟨_,rfl⟩
 have HD:Hid (engOkB m=true→d=m.rd+1):=zH (fun h=>by
  have:=Vl (YZ h).2.2.2.2.1;rw [← hd];unfold wrap64
  omega)
 rw [hd];clear hd;refine (implMulsAt_c m.c d _ w3 (R1.out.ar.grow G3.out) WM.out.c.wf).mono ?_;rintro e' w4 ⟨vS,rfl,o4,g4⟩;obtain ⟨ns,hns⟩:∃n,(mulsAt m.c d).length=n:=⟨_,rfl⟩;have hn60:ns≤60:=by rw [← hns];exact WN m.c d
 rw [hns] at o4;obtain ⟨ss,hss⟩:∃s,mulsAt m.c d=s:=⟨_,rfl⟩;rw [hss] at o4 hns;have HSS:Hid (engOkB m=true→ss=mulsOf m):=zH (fun h=>by rw [← hss,HD.out h];rfl);obtain ⟨S,cs,rfl,hSf,_⟩:=Ye o4;have IS:=zH (show Ints w4 S ns ss from Rd.ofOwn o4);have HSF:=zH hSf;have LS:=zH hns;have DP4:=zH (DP.out.grow g4);have DR4:=zH (DR.out.grow g4);have SG4:=zH (SG.out.grow g4);have G4:=zH (gbT G3.out g4);have LF0:=zH SG.out.lt;have LG0:=zH SG.out.ltg;obtain ⟨k0,k1,k2,k3,k4,k5,k6,k7,k8⟩:=DP4.out.c9;clear o4 hns hss g4 DP DR SG G3 HD hSf;go_wp2_with fail;clear k0 k1 k2 k3 k4 k5 k6 k7 k8;refine (implmayRound_c m ts es ss _ S T R ns cs nt ct nr cr w4 (R1.out.al9.grow G4.out) IS.out (CS.grow _ TR.out G4.out) (ER.out.grow G4.out) WM.out WT.out HSS.out hn60 hnt hnr).mono ?_;rintro e' w5 ⟨rfl,g5⟩;have DP5:=zH (DP4.out.grow g5);have DR5:=zH (DR4.out.grow g5);have SG5:=zH (SG4.out.grow g5);have IS5:=zH (IS.out.grow g5);have G5:=zH (gbT G4.out g5);have hz5:w4.heap.size≤w5.heap.size:=g5.size;have hz4:=zb.out;clear g5 DP4 DR4 SG4 IS
 cases hmay:mayB m ts es
 ·have HRES:Hid (Ym m ts es=m):=by unfold Hid Ym;rw [hmay];rfl
  clear hmay;obtain ⟨A9,B9,C9,D9,E9,a9,b9,c9,d9,e9,hB9,hR9⟩:=SOF.eng (SG5.out);have HA9:=SOF.is (SG5.out) (us:=[_,_,_,_,_,_,_,_,_]) hB9;obtain ⟨b0,b1,b2,b3,b4,b5,b6,b7,b8⟩:=hB9.c9;obtain ⟨c0,c1,c2,c3,c4,c5,c6,c7,c8⟩:=(DR5.out).c9;obtain ⟨f0,f1,f2,f3,f4,f5,f6,f7,f8⟩:=(DR5.out).f9;have RS:=SOF.store (DR5.out) (us:=[.int .i64 (m).k.p,.slice A9 (m).k.al.length a9,.int .i64 (m).c.p,.slice B9 (m).c.st.length b9,.slice C9 (m).c.outs.length c9,.slice D9 (m).vs.length d9,.slice E9 (m).op.length e9,.int .i64 (m).rd,.bool (m).bad]) rfl HA9 (fun hx=>by have:=HL0.out _ hx;omega);have GS:=Zv (gbT GW.out G5.out) (Zc (w0.heap.size+1) [.int .i64 (m).k.p,.slice A9 (m).k.al.length a9,.int .i64 (m).c.p,.slice B9 (m).c.st.length b9,.slice C9 (m).c.outs.length c9,.slice D9 (m).vs.length d9,.slice E9 (m).op.length e9,.int .i64 (m).rd,.bool (m).bad] 0 _) (by omega);simp only [ZW,Nat.zero_add,Nat.reduceAdd] at RS GS;obtain ⟨vs9,hBR,hAR⟩:=RS.agg;have HAR:=zH hAR;have HBR:=zH hBR;have GS:=zH GS;have HLF:=zH (fun x hx=>HL0.out x hx);clear hB9 hR9 HA9 RS hAR hBR;go_wp2_with fail;refine Yo Tryz.results27 (by rfl) Wg (cs:=vs9.toArray) HBR.out (by rw [List.size_toArray];exact XL HAR.out) (by rfl) ?_;exact ⟨_,rfl,⟨F0,by rw [HRES.out];exact HAR.out,fun x hx=>by have:=HLF.out x hx;have:=zb.out;omega⟩,GS.out⟩
 have HMAY:=zH hmay;clear hmay;have k0:=DP5.out.cell 0;have k1:=DP5.out.cell 1;simp only [List.getElem?_toArray,List.getElem?_cons_succ,List.getElem?_cons_zero] at k0 k1;go_wp2_with fail;clear k0 k1;obtain ⟨w6,hw6⟩:∃x:World,w5.alloc (.cells #[.int .i64 m.k.p,.slice A m.k.al.length a] 34)=x:=⟨_,rfl⟩;obtain ⟨g9,hg9⟩:∃x,w5.heap.size=x:=⟨_,rfl⟩;have K9:Hid (Blk w6 g9 34 #[.int .i64 m.k.p,.slice A m.k.al.length a]):=by rw [← hw6,← hg9];exact zH (Blk.new _ _ _)
 have SG6:=zH (show SOF 58 (Zd (Zf m ts es ss 0)) g F0 w6 by rw [← hw6];exact SG5.out.grow (gbA (gbR _ _) _));have IS6:=zH (show Ints w6 S ns ss by rw [← hw6];exact IS5.out.grow (gbA (gbR _ _) _));have G6:=zH (show wb.grownBy w6 none by rw [← hw6];exact gbA G5.out _)
 have HGN:Hid (g9∉F0∧g9≠g∧g9<w6.heap.size):=by
  have h1:=SG5.out.lt;have h2:=SG5.out.ltg;rw [← hw6,← hg9];exact zH ⟨fun hx=>by have:=h1 _ hx;omega,by omega,by simp⟩
 rw [hw6]
 try rw [hg9]
 clear hw6 hg9 SG5 IS5 G5 DP5 DR5 hz5;have OKB:=zH (YZ (XM HMAY.out).1);have MIS:=zH (XM HMAY.out);have HMO:=zH (HSS.out MIS.out.1)
 have hSF:Hid (∀gs,S.map (·.block)=some gs→gs∉F0):=zH (fun gs hgs hx=>by
  cases S with
  | none=>cases hgs
  | some ad =>
   simp at hgs;have h1:=(HSF.out ad rfl).2.2.1;have h2:=LF0.out gs hx
   omega)
 have HSg:Hid (∀gs,S.map (·.block)=some gs→gs≠g):=zH (fun gs hgs e=>by
  cases S with
  | none=>cases hgs
  | some ad =>
   simp at hgs;have h1:=(HSF.out ad rfl).2.2.1;have h2:=LG0.out
   omega)
 go_loopw [37] (fun i wr=>∃(j:Nat) (F:List Nat),j≤ns∧i=.int .i64 j∧Hid (SOF 58 (Zd (Zf m ts es ss j)) g F wr)∧Hid (∀x∈F,wb.heap.size≤x)∧Hid (∀gs,S.map (·.block)=some gs→gs∉F)∧Hid (g9∉F)∧Hid (Ints wr S ns ss)∧Hid (Blk wr g9 34 #[.int .i64 m.k.p,.slice A m.k.al.length a])∧Hid (wb.grownBy wr none)) (fun i _=>ns - (intOf i).toNat)
 case atStart=>exact ⟨0,F0,Nat.zero_le _,rfl,SG6,HL0,hSF,zH HGN.out.1,IS6,K9,G6⟩
 case round =>
  clear SG6 IS6 K9 G6;obtain ⟨j,F,hj,rfl,SG,HL,HSN,HGF,IS,K9,G6⟩:=hrel
  by_cases hlt:j<ns
  ·have i1:(j:Int)<(ns:Int):=by omega
   have hjm:j<(mulsOf m).length:=by rw [← HMO.out,LS.out];exact hlt
   have i0:(j:Int)<(nt:Int):=by have:=MIS.out.2.2.2.1;have:=LT.out;omega
   obtain ⟨i,ya,zb,j2,j1,hst,hai,hbi⟩:=step_at MIS.out.1 hjm;rw [← HMO.out] at j2;obtain ⟨sb,so,rfl,hsb,hsc⟩:=IS.out.at_ (by omega);have s9:=hsc j hlt;rw [j2] at s9;obtain ⟨sb2,so2,x,y,z,rfl,_,hx,q0,q1,q2⟩:=YM (FL.grow R1.out.stp G6.out) (k:=i) j1;have HSTT:=zH hst;have hst':stAt m.c i=(x,y,z):=by simp [stAt,zF,hx]
   rw [hst] at hst';injection hst' with ex hst';injection hst' with ey ez;subst ex;subst ey;subst ez;have hvl:m.vs.length=m.c.st.length:=OKB.out.2.2.2.1;have i2:(i:Int)<(m.c.st.length:Int):=by omega
   have i3:(ya:Int)<(m.vs.length:Int):=by omega
   have i4:(zb:Int)<(m.vs.length:Int):=by omega
   obtain ⟨tb,to_,T0,T1,T2,T3,T4,T5,d0,d1,d2,d3,d4,d5,rfl,_,t0,t1,t2,t3,t4,t5,hT⟩:=Yd TR.out (k:=j) (by omega);obtain ⟨vb,vo,xa,Ba,da,Ca,fa,hDe,_,hxa,a0,a1,hXA⟩:=ZL R1.out.va (k:=ya) (by omega);obtain ⟨vb',vo',xb,Bb,db,Cb,fb,hDe',_,hxb,b0,b1,hXB⟩:=ZL R1.out.va (k:=zb) (by omega);subst hDe;injection hDe' with hDe';injection hDe' with h9 h8 _;subst h9;subst h8;have hga:opA m i=xa:=by unfold opA getA;rw [hst,zF,Int.toNat_natCast,hxa];rfl
   have hgb:opB m i=xb:=by unfold opB getA;rw [hst,zF,Int.toNat_natCast,hxb];rfl
   obtain ⟨tx,htx⟩:∃q,trAt ts j=q:=⟨_,rfl⟩;have WX:=zH (VB WT.out (k:=j) (by rw [LT.out];omega));have HTK:=zH (MIS.out.2.2.2.2.2 j hjm);rw [← HMO.out,j2,Int.toNat_natCast] at HTK;rw [htx] at t0 t1 t2 t3 t4 t5 hT WX HTK;have WXA:=zH (WM.out.vs xa (List.mem_of_getElem? hxa));have WXB:=zH (WM.out.vs xb (List.mem_of_getElem? hxb));have HTX:=zH htx;have HT:=zH hT;have HXA:=zH hXA;have HXB:=zH hXB;have HGA:=zH hga;have HGB:=zH hgb;have J2:=zH j2;have BR:=zH (D1.out.grow G6.out);have e3:=BR.out.cell 3;have e5:=BR.out.cell 5;have k0:=K9.out.cell 0;have k1:=K9.out.cell 1;simp only [List.getElem?_toArray,List.getElem?_cons_succ,List.getElem?_cons_zero] at e3 e5 k0 k1;have a0:=gbk G6.out a0;have a1:=gbk G6.out a1;have b0:=gbk G6.out b0;have b1:=gbk G6.out b1;have t0:=gbk G6.out t0;have t1:=gbk G6.out t1;have t2:=gbk G6.out t2;have t3:=gbk G6.out t3;have t4:=gbk G6.out t4;have t5:=gbk G6.out t5;have t0':=fun o=>kA t0 o;have t1':=fun o=>kA t1 o;have t2':=fun o=>kA t2 o;have t3':=fun o=>kA t3 o;have t4':=fun o=>kA t4 o;have t5':=fun o=>kA t5 o;have e52:=fun o p=>kA (kA e5 o) p;have e53:=fun o p q=>kA (kA (kA e5 o) p) q;have a02:=fun o p=>kA (kA a0 o) p;have a12:=fun o p=>kA (kA a1 o) p;have b03:=fun o p q=>kA (kA (kA b0 o) p) q;have b13:=fun o p q=>kA (kA (kA b1 o) p) q;have k04:=fun o p q r=>kA (kA (kA (kA k0 o) p) q) r;have k14:=fun o p q r=>kA (kA (kA (kA k1 o) p) q) r;clear hsc hx hst hxa hxb hga hgb hT hXA hXB a0 a1 b0 b1 e5 t0 t1 t2 t3 t4 t5 k0 k1 htx j2 hjm hvl;go_wp2_with fail;obtain ⟨wa,hwa⟩:∃x:World,(((wr.alloc (.cells #[.int .i64 4,.int .i64 ya,.int .i64 zb] 102)).alloc (.cells #[.slice T0 tx.a.sh.length d0,.slice T1 tx.a.mc.length d1,.slice T2 tx.b.sh.length d2,.slice T3 tx.b.mc.length d3,.slice T4 tx.c.sh.length d4,.slice T5 tx.c.mc.length d5] 82)).alloc (.cells #[.slice Ba xa.sh.length da,.slice Ca xa.mc.length fa] 80)).alloc (.cells #[.slice Bb xb.sh.length db,.slice Cb xb.mc.length fb] 80)=x:=⟨_,rfl⟩;have GA:Hid (wr.grownBy wa none):=by rw [← hwa];exact gbA (gbA (gbA (gbA (gbR _ _) _) _) _) _
   have B13:Hid (Blk wa (wr.heap.size+1) 82 #[.slice T0 tx.a.sh.length d0,.slice T1 tx.a.mc.length d1,.slice T2 tx.b.sh.length d2,.slice T3 tx.b.mc.length d3,.slice T4 tx.c.sh.length d4,.slice T5 tx.c.mc.length d5]):=by rw [← hwa];exact ((Blk.new' _ _ _ _ (by simp)).grow (gbA (gbR _ _) _)).grow (gbA (gbR _ _) _)
   have B14:Hid (Blk wa (wr.heap.size+1+1) 80 #[.slice Ba xa.sh.length da,.slice Ca xa.mc.length fa]):=by rw [← hwa];exact (Blk.new' _ _ _ _ (by simp)).grow (gbA (gbR _ _) _)
   have B15:Hid (Blk wa (wr.heap.size+1+1+1) 80 #[.slice Bb xb.sh.length db,.slice Cb xb.mc.length fb]):=by rw [← hwa];exact Blk.new' _ _ _ _ (by simp)
   rw [hwa];obtain ⟨g13,hg13⟩:∃x,wr.heap.size+1=x:=⟨_,rfl⟩;rw [hg13] at B13 B14 B15 ⊢;obtain ⟨g14,hg14⟩:∃x,g13+1=x:=⟨_,rfl⟩;rw [hg14] at B14 B15 ⊢;obtain ⟨g15,hg15⟩:∃x,g14+1=x:=⟨_,rfl⟩;rw [hg15] at B15 ⊢;have hlt13:wr.heap.size<g13∧g13<g14∧g14<g15:=by omega
   clear hwa hg13 hg14 hg15 q0 q1 q2 s9 e3 t0' t1' t2' t3' t4' t5' e52 e53 a02 a12 b03 b13 k04 k14;refine (Ur m.k xa xb tx _ _ _ _ wa (R1.out.ky.grow (gbT G6.out GA.out)) (HXA.out.grow (gbT G6.out GA.out)) (HXB.out.grow (gbT G6.out GA.out)) (HT.out.tr.grow (gbT G6.out GA.out)) WM.out.k WXA.out WXB.out WX.out).mono ?_;rintro e' wo ⟨rfl,go⟩
   have HFX:Hid (formB m.k tx.a=true∧formB m.k tx.b=true∧formB m.k tx.c=true∧formB m.k xa=true∧formB m.k xb=true):=by
    have h1:=HTK.out;unfold tripOk at h1;rw [HGA.out,HGB.out] at h1;simp only [Bool.and_eq_true,Bool.not_eq_true'] at h1;obtain ⟨⟨⟨⟨h2,h3⟩,h4⟩,h5⟩,h6⟩:=h1;have o1:=OKB.out.2.2.2.2.2 ya;have o2:=OKB.out.2.2.2.2.2 zb;have ea:getA m.vs ya=xa:=by have:=HGA.out;unfold opA at this;rw [HSTT.out] at this;exact this
    have eb:getA m.vs zb=xb:=by have:=HGB.out;unfold opB at this;rw [HSTT.out] at this;exact this
    rw [ea] at o1;rw [eb] at o2;unfold okV at o1 o2;rw [h5,Bool.false_or] at o1;rw [h6,Bool.false_or] at o2;exact ⟨h2,h3,h4,o1,o2⟩
   have HFL:Hid (fieldB m.k.p=true):=zH (YX OKB.out.1).1;obtain ⟨D0,hD0⟩:∃z,openD m.k xa xb tx=z:=⟨_,rfl⟩;obtain ⟨E0,hE0⟩:∃z,openE m.k xa xb tx=z:=⟨_,rfl⟩
   have HOB:Hid (openB m.k xa xb tx=true):=by
    unfold Hid openB;rw [HFX.out.1,HFX.out.2.1,HFX.out.2.2.2.1,HFX.out.2.2.2.2];rfl
   have ED0:Hid (elemB m.k.p D0=true):=by rw [← hD0];unfold Hid openD;rw [if_pos HOB.out];exact Yr HFL.out _
   have EE0:Hid (elemB m.k.p E0=true):=by rw [← hE0];unfold Hid openE;rw [if_pos HOB.out];exact Yr HFL.out _
   rw [hD0,hE0];have HD0:=zH hD0;have HE0:=zH hE0;have GO:=zH (gbT GA.out go);have B13o:=zH (B13.out.grow go);have B14o:=zH (B14.out.grow go);have B15o:=zH (B15.out.grow go);clear go hD0 hE0 B13 B14 B15 GA;go_wp2_with fail;obtain ⟨wp,hwp⟩:∃x:World,wo.alloc (.cells #[.int .i64 D0,.int .i64 E0] 104)=x:=⟨_,rfl⟩;obtain ⟨gO,hgO⟩:∃x,wo.heap.size=x:=⟨_,rfl⟩;have BO:Hid (Blk wp gO 104 #[.int .i64 D0,.int .i64 E0]):=by rw [← hwp,← hgO];exact zH (Blk.new _ _ _)
   have GP:Hid (wr.grownBy wp none):=by rw [← hwp];exact gbA GO.out _
   have K9p:=zH (K9.out.grow GP.out);have B13p:=zH (show Blk wp g13 _ _ by rw [← hwp];exact B13o.out.grow (gbA (gbR _ _) _));have B14p:=zH (show Blk wp g14 _ _ by rw [← hwp];exact B14o.out.grow (gbA (gbR _ _) _));have B15p:=zH (show Blk wp g15 _ _ by rw [← hwp];exact B15o.out.grow (gbA (gbR _ _) _));have hgOl:wr.heap.size≤gO∧g15<gO:=by have:=GO.out.size;have:=B15o.out.lt;omega
   have hg9r:g9<wr.heap.size:=K9.out.lt;rw [hwp]
   try rw [hgO]
   clear hwp hgO B13o B14o B15o GO K9;have hp2:=(ZG HFL.out).1;have ERR:=zH (errAt_el MIS.out.2.2.2.2.1);have ERp:=zH (ER.out.grow (gbT G6.out GP.out));have kp:=zH (K9p.out.cell 0);have d0p:=zH (BO.out.cell 0);have e0p:=zH (BO.out.cell 1);simp only [List.getElem?_toArray,List.getElem?_cons_succ,List.getElem?_cons_zero] at kp d0p e0p;obtain ⟨D1,hD1⟩:∃z,(D0+errAt es (2*j)) % m.k.p=z:=⟨_,rfl⟩;obtain ⟨E1,hE1⟩:∃z,(E0+errAt es (2*j+1)) % m.k.p=z:=⟨_,rfl⟩;have HD1:=zH hD1;have HE1:=zH hE1;clear hD1 hE1
   refine Zg [.rd (.pointer (some ⟨g9,0,none⟩)),.rd (.int .i64 m.k.p),.rd (.pointer (some ⟨gO,0,none⟩)),.rd (.int .i64 D0),.rd (.slice R nr cr),.rd (.int .i64 j),.rd (.int .i64 (2*(j:Int))),.fl (isV (.int .i64 (errAt es (2*j)))),.fl (isV (.int .i64 D1)),.rd (.pointer (some ⟨gO,0,none⟩)),.ch] (fun _=>False)
    [⟨[],fun _ w'=>wp.drew.grownBy w' none⟩,
     ⟨[],fun _ w'=>Blk w' gO 104 #[.int .i64 D1,.int .i64 E0]∧Chg (fun y=>y=gO) wp w'⟩]
    (by kernel_rfl) (by kernel_rfl) (by kernel_rfl) 1 (by kernel_rfl) ?_ (gbR _ _) rfl ?_ ?_
   ·have hst:Zn [⟨[],fun _ w'=>wp.drew.grownBy w' none⟩,⟨[],fun _ w'=>Blk w' gO 104 #[.int .i64 D1,.int .i64 E0]∧Chg (fun y=>y=gO) wp w'⟩]:=by
     refine Zm (fun l w1 w2 h hg=>gbT h hg) ?_;exact Zm (ZE fun l w1 w2 ⟨h1,h2⟩ hg=>⟨h1.grow hg,h2.trans (Chg.of hg (by simp))⟩) YO
    simp only [flOk,true_and,and_true];exact ⟨⟨Zb _,hst⟩,⟨Zb _,hst⟩⟩
   ·simp only [hopsK,hopK,Kd.next,and_true]
    refine ⟨?_, ?_, ?_, ?_, ?_, ?_, ?_, ?_, ?_, ?_, ?_⟩;rotate_left 7
    ·intro f w4 hG hd
     have hg4:=gbT (gbD (gbR wp none)) (chgF hG);have hz4:=hg4.size
     (try simp at hd)
     (first | simp [hd] | simp)
     clear hd;rw [show (2*(j:Int))=((2*j:Nat):Int) by omega];go_wp2_with fail;refine (VC R nr cr es (2*j) w4 (ERp.out.grow hg4) (by omega)).mono ?_;rintro e' w6 ⟨rfl,rfl⟩;go_wp2_with fail;exact ⟨_,rfl,rfl,gbR _ _⟩
    ·intro f w4 hG hd
     have hg4:=gbT (gbD (gbR wp none)) (chgF hG);have hz4:=hg4.size
     (try simp at hd)
     simp only [isV] at hd
     (first | simp [hd] | simp)
     clear hd;go_wp2_with fail;refine (WD m.k.p D0 (errAt es (2*j)) w4 ED0.out (ERR.out _)).mono ?_;rintro e' w6 ⟨rfl,g6⟩;rw [HD1.out];have G6':=zH g6;clear g6;go_wp2_with fail;exact ⟨_,rfl,rfl,G6'.out⟩
    rotate_left 1
    ·intro f w4 hG hI hd
     have hg4:=gbT (gbD (gbR wp none)) (chgF hG);have hz4:=hg4.size
     (try simp at hd)
     simp only [isV] at hd;have R4:=BO.out.grow hg4;have f0:=R4.frozen 0;have b0:=R4.cell 0;simp at b0;have RS:=R4.set_ 0 (.int .i64 D1);have CH:=(Chg.of (S:=fun y=>y=gO) hg4 (by simp)).trans (chgS w4 gO 0 (.int .i64 D1));have RS:=zH RS;have CH:=zH CH
     (first | simp [hd] | simp)
     clear hd R4;go_wp2_with fail;exact ⟨rfl,.bool false,RS.out,CH.out⟩
    all_goals
     intro f w4 hG hd;have hg4:=gbT (gbD (gbR wp none)) (chgF hG);have k0:=gbk hg4 (kp.out);have k1:=gbk hg4 (d0p.out)
     (try simp at hd)
     (first | simp [hd] | simp)
     clear hd;go_wp2_with fail;exact ⟨rfl,rfl⟩
   intro f wq hI hd;simp only [puts,dsts,Act.put,zB,zC,zA,zD,zE];obtain ⟨hBq,hCq⟩:=hI;have BOq:=zH hBq;have CQ:=zH hCq;have hgOw:wr.heap.size≤gO:=hgOl.1;have hgO9:g9≠gO:=by omega
   have K9q:=zH (K9p.out.chg hCq hgO9);have B13q:=zH (B13p.out.chg hCq (by omega));have B14q:=zH (B14p.out.chg hCq (by omega));have B15q:=zH (B15p.out.chg hCq (by omega));have hwbr:wb.heap.size≤wr.heap.size:=G6.out.size;have GQ:=zH (gbChg (gbT G6.out GP.out) hCq (fun y hy=>by omega));have ERq:=zH (ER.out.grow GQ.out);have kq:=zH (K9q.out.cell 0);have e0q:=zH (BOq.out.cell 1);simp only [List.getElem?_toArray,List.getElem?_cons_succ,List.getElem?_cons_zero] at kq e0q;clear hd hBq hCq kp d0p e0p K9p B13p B14p B15p BO ERp;go_wp2_with fail
   refine Zg [.rd (.pointer (some ⟨g9,0,none⟩)),.rd (.int .i64 m.k.p),.rd (.pointer (some ⟨gO,1,none⟩)),.rd (.int .i64 E0),.rd (.slice R nr cr),.rd (.int .i64 j),.rd (.int .i64 (2*(j:Int))),.rd (.int .i64 (2*(j:Int)+1)),.fl (isV (.int .i64 (errAt es (2*j+1)))),.fl (isV (.int .i64 E1)),.rd (.pointer (some ⟨gO,1,none⟩)),.ch] (fun _=>False)
    [⟨[],fun _ w'=>wq.drew.grownBy w' none⟩,
     ⟨[],fun _ w'=>Blk w' gO 104 #[.int .i64 D1,.int .i64 E1]∧Chg (fun y=>y=gO) wq w'⟩]
    (by kernel_rfl) (by kernel_rfl) (by kernel_rfl) 1 (by kernel_rfl) ?_ (gbR _ _) rfl ?_ ?_
   ·have hst:Zn [⟨[],fun _ w'=>wq.drew.grownBy w' none⟩,⟨[],fun _ w'=>Blk w' gO 104 #[.int .i64 D1,.int .i64 E1]∧Chg (fun y=>y=gO) wq w'⟩]:=by
     refine Zm (fun l w1 w2 h hg=>gbT h hg) ?_;exact Zm (ZE fun l w1 w2 ⟨h1,h2⟩ hg=>⟨h1.grow hg,h2.trans (Chg.of hg (by simp))⟩) YO
    simp only [flOk,true_and,and_true];exact ⟨⟨Zb _,hst⟩,⟨Zb _,hst⟩⟩
   ·simp only [hopsK,hopK,Kd.next,and_true]
    refine ⟨?_, ?_, ?_, ?_, ?_, ?_, ?_, ?_, ?_, ?_, ?_, ?_⟩;rotate_left 8
    ·intro f w4 hG hd
     have hg4:=gbT (gbD (gbR wq none)) (chgF hG);have hz4:=hg4.size
     (try simp at hd)
     (first | simp [hd] | simp)
     clear hd;rw [show (2*(j:Int)+1)=((2*j+1:Nat):Int) by omega];go_wp2_with fail;refine (VC R nr cr es (2*j+1) w4 (ERq.out.grow hg4) (by omega)).mono ?_;rintro e' w6 ⟨rfl,rfl⟩;go_wp2_with fail;exact ⟨_,rfl,rfl,gbR _ _⟩
    ·intro f w4 hG hd
     have hg4:=gbT (gbD (gbR wq none)) (chgF hG);have hz4:=hg4.size
     (try simp at hd)
     simp only [isV] at hd
     (first | simp [hd] | simp)
     clear hd;go_wp2_with fail;refine (WD m.k.p E0 (errAt es (2*j+1)) w4 EE0.out (ERR.out _)).mono ?_;rintro e' w6 ⟨rfl,g6⟩;rw [HE1.out];have G6':=zH g6;clear g6;go_wp2_with fail;exact ⟨_,rfl,rfl,G6'.out⟩
    rotate_left 1
    ·intro f w4 hG hI hd
     have hg4:=gbT (gbD (gbR wq none)) (chgF hG);have hz4:=hg4.size
     (try simp at hd)
     simp only [isV] at hd;have R4:=BOq.out.grow hg4;have f0:=R4.frozen 1;have b0:=R4.cell 1;simp at b0;have RS:=R4.set_ 1 (.int .i64 E1);have CH:=(Chg.of (S:=fun y=>y=gO) hg4 (by simp)).trans (chgS w4 gO 1 (.int .i64 E1));have RS:=zH RS;have CH:=zH CH
     (first | simp [hd] | simp)
     clear hd R4;go_wp2_with fail;exact ⟨rfl,.bool false,RS.out,CH.out⟩
    all_goals
     intro f w4 hG hd;have hg4:=gbT (gbD (gbR wq none)) (chgF hG);have k0:=gbk hg4 (kq.out);have k1:=gbk hg4 (e0q.out)
     (try simp at hd)
     (first | simp [hd] | simp)
     clear hd;go_wp2_with fail;exact ⟨rfl,rfl⟩
   intro f wz hI hd;simp only [puts,dsts,Act.put,zB,zC,zA,zD,zE];obtain ⟨hBz,hCz⟩:=hI;have BOz:=zH hBz;have CZ:=zH (((Chg.of (S:=fun y=>y=gO) GP.out (by simp)).trans CQ.out).trans hCz);have K9z:=zH (K9q.out.chg hCz hgO9);have B13z:=zH (B13q.out.chg hCz (by omega));have B14z:=zH (B14q.out.chg hCz (by omega));have B15z:=zH (B15q.out.chg hCz (by omega));have GZ:=zH (gbChg GQ.out hCz (fun y hy=>by omega));have hFlt:=zH SG.out.lt;have SGz:=zH (SG.out.chg CZ.out (fun x hx e=>by have:=hFlt.out x hx;omega) (fun e=>by have:=SG.out.ltg;omega));have ISz:=zH (CZ.out.rd (sz:=1) IS.out (fun ad e h6=>by injection e with e;subst e;simp at h6;omega));have hwz:=CZ.out.size;clear hd hBz hCz kq e0q K9q B13q B14q B15q BOq ERq CQ;obtain ⟨OE,oe,F6,v6,f6,o6,m6,g6,lt6,up6⟩:=SGz.out.opn
   have hop:(Zf m ts es ss j).op.length≤1048576+2*j:=by
    have:=(Yk m ts es ss j).2.2.2.2;have:=WM.out.op;omega
   obtain ⟨opl,hopl⟩:∃l,(Zf m ts es ss j).op=l:=⟨_,rfl⟩;rw [hopl] at v6 o6 hop;obtain ⟨_,_,_,hF6,hrow6⟩:=Wk o6;have ROW:=zH (hrow6 0 (fun _ _=>Nat.zero_le _));have UP6:=zH up6;have HOPL:=zH hopl;have HF6:=zH hF6;have M6:=zH m6;have LT6:=zH lt6;have x0:=BOz.out.cell 0;have x1:=BOz.out.cell 1;simp only [List.getElem?_toArray,List.getElem?_cons_succ,List.getElem?_cons_zero] at x0 x1;have hgz:=SGz.out.ltg;clear hrow6 up6 hopl hF6 m6 lt6 o6
   go_wp2_with (at_builtin;refine Wv (wz.alloc (.cells #[.int .i64 D1,.int .i64 E1] 3)) YF rfl (.tmp 94) (.tmp 99) rfl 0 (.slice OE opl.length oe) opl.length _ (Zu ROW.out (gbA (gbR _ _) _)) rfl ⟨wz.heap.size,0,none⟩ 2 2 [.int .i64 D1,.int .i64 E1] rfl rfl (lit2_cells _ _ _ _) (by simp [Value.oneCell']) (by unfold maxLen;omega) (by omega) (Nat.zero_le _) ?_;intro v' w9 o9 g9' k9;have b6:=(opn_cells g9' v6 f6 hgz LT6.out HF6.out g6).1;have f6':=(opn_cells g9' v6 f6 hgz LT6.out HF6.out g6).2;obtain ⟨A6,c6,hv6,_⟩:=Ye o9;subst hv6;have O9:=zH o9;have G9:=zH g9';have N9:=zH k9;clear o9 g9' k9 v6 f6)
   obtain ⟨wx,hwx⟩:∃x,w9.setCell ⟨g,6,none⟩ (.slice A6 (opl.length+2) c6)=x:=⟨_,rfl⟩;have CH9:Chg (fun y=>y∈F6) wz w9:=(Chg.of (S:=fun y=>y∈F6) (gbA (gbR wz none) _) (by simp)).trans (Chg.of G9.out (fun y hy=>by rw [HF6.out,hy];simp));have CX:Hid (Chg (fun y=>y∈F6∨y=g) wz wx):=by rw [← hwx];exact zH ((CH9.mono (fun y hy=>.inl hy)).trans ((chgS w9 g 6 _).mono (fun y hy=>.inr hy)))
   have O9':w9.ownsRow 0 3 1 (.slice A6 (opl.length+2) c6) (opl.length+2) ((opl ++ [D1,E1]).map (Value.int .i64)):=by rw [List.map_append];exact O9.out
   obtain ⟨Fx,hSx,hFx⟩:=UP6.out w9 (opl ++ [D1,E1]) _ _ CH9 (Yi O9') (fun x hx=>by
    rcases N9.out x (by simpa using hx) with h6 | h6
    ·exact .inl (by rw [HF6.out,← h6];simp)
    ·exact .inr (by simp at h6;omega))
   rw [hwx] at hSx;have SX:=zH hSx;have HFX6:=zH hFx;have F6lo:∀y∈F6,wb.heap.size≤y:=fun y hy=>HL.out y (M6.out y hy);have F6lt:∀y∈F6,y<wr.heap.size:=fun y hy=>hFlt.out y (M6.out y hy);have GX:=zH (gbChg GZ.out CX.out (fun y hy=>by rcases hy with h6 | h6;exact F6lo y h6;omega));have hggr:g<wr.heap.size:=SG.out.ltg;have K9x:=zH (K9z.out.chg CX.out (fun e=>by rcases e with h6 | h6;exact HGF.out (M6.out _ h6);exact HGN.out.2.1 h6));have B13x:=zH (B13z.out.chg CX.out (fun e=>by rcases e with h6 | h6;have:=F6lt _ h6;omega;omega));have B14x:=zH (B14z.out.chg CX.out (fun e=>by rcases e with h6 | h6;have:=F6lt _ h6;omega;omega));have B15x:=zH (B15z.out.chg CX.out (fun e=>by rcases e with h6 | h6;have:=F6lt _ h6;omega;omega));have BOx:=zH (BOz.out.chg CX.out (fun e=>by rcases e with h6 | h6;have:=F6lt _ h6;omega;omega))
   have ISx:=zH (CX.out.rd (sz:=1) ISz.out (fun ad e h6=>by
    injection e with e;subst e
    rcases h6 with h6 | h6
    ·exact HSN.out _ rfl (M6.out _ h6)
    ·exact HSg.out _ rfl h6))
   have hzx:=CX.out.size;rw [hwx];clear hwx CH9 O9' hSx hFx UP6 O9 N9 G9 b6 f6' x0 x1 K9z B13z B14z B15z BOz ISz CX
   have hFxlo:Hid (∀y∈Fx,wb.heap.size≤y):=zH (fun y hy=>by
    rcases HFX6.out y hy with h6 | h6
    ·exact HL.out y h6
    ·omega)
   have hFxS:Hid (∀y∈Fx,y∈F∨wr.heap.size≤y):=zH (fun y hy=>(HFX6.out y hy).imp id (fun h6=>by omega));have hxlt:=zH SX.out.lt;refine reg17_c m.k xa xb tx D1 E1 _ _ _ _ _ _ _ _ _ _ _ _ _ _ _ _ _ _ _ _ _ _ _ _ _ _ _ _ wx K9x.out B13x.out B14x.out B15x.out BOx.out (R1.out.ky.grow GX.out) (HXA.out.grow GX.out) (HXB.out.grow GX.out) (HT.out.grow GX.out) WM.out.k WXA.out WXB.out WX.out (by omega) _ _ _ _ _ _ _ _ _ _ _ _ _ _ _ _ _ _ _ _ _ _ _ _ _ _ _ _ _ _ _ _ _ _ _ _ _ _ _ _ _ _ _ _ _ _ _ _ _ _ _ _ _ _ _ _ _ _ _ _ _ _ _ _ _ _ _ _ _ _ _ _ _ _ _ _ _ _ _ _ _ _ _ _ _ _ _ _ _ _ _ _ _ _ _ _ _ _ _ _ _ _ _ _ _ _ _ _ _ _ _ _ _ _ _ _ _ _ _ _ _ _ _ _ _ _ _ _ _ _ _ _ _ _ _ _ ?_;intro v102 v103 v104 v105 v106 v107 v108 v109 v110 v111 v112 v113 v114 v115 v116 v117 v118 v119 v120 v121 v122 wv gv9;have HBD:Hid (rBad m tx D1 E1 i=rb17 m.k xa xb tx D1 E1):=by unfold Hid rBad rb17;rw [HGA.out,HGB.out]
   have GV9:=zH gv9;clear gv9
   cases hbd:rb17 m.k xa xb tx D1 E1
   focus
    rw [hbd] at HBD;clear hbd;have SY:Hid (SOF 58 (Zd ⟨(Zf m ts es ss j).k,(Zf m ts es ss j).c,(Zf m ts es ss j).vs,opl ++ [D1,E1],(Zf m ts es ss j).rd,(Zf m ts es ss j).bad||rBad m tx D1 E1 i⟩) g Fx wv):=by rw [HBD.out,Bool.or_false];exact zH (SX.out.grow GV9.out)
    go_wp2_with fail;have GYb:=zH (gbT GX.out GV9.out);have K9y:=zH (K9x.out.grow GV9.out);have B13y:=zH (B13x.out.grow GV9.out);have BOy:=zH (BOx.out.grow GV9.out);have ISy:=zH (ISx.out.grow GV9.out);have HWs:Hid (wr.heap.size≤wv.heap.size):=by have:=GV9.out.size;exact zH (by omega)
    have FYs:=hFxS
   rotate_left
   focus
    rw [hbd] at HBD;clear hbd;have SXv:=zH (SX.out.grow GV9.out);obtain ⟨A7,B7,C7,D7,E7,a7,b7,c7,d7,e7,hB7,_⟩:=SXv.out.eng;have b8:=hB7.cell 8;have f8:=hB7.frozen 8;simp only [List.getElem?_toArray,List.getElem?_cons_succ,List.getElem?_cons_zero] at b8;obtain ⟨Fx,hSy,hFy⟩:=SXv.out.flag true;have SY':=zH hSy;have HFY:=zH hFy;clear hB7 hSy hFy;have CY:=zH ((Chg.of (S:=fun y=>y=g) GV9.out (by simp)).trans (chgS wv g 8 (.bool true)));go_wp2_with fail;clear b8 f8;obtain ⟨wv,hwy⟩:∃x,wv.setCell ⟨g,8,none⟩ (.bool true)=x:=⟨_,rfl⟩;rw [hwy] at SY' CY;rw [hwy];clear hwy;have SY:Hid (SOF 58 (Zd ⟨(Zf m ts es ss j).k,(Zf m ts es ss j).c,(Zf m ts es ss j).vs,opl ++ [D1,E1],(Zf m ts es ss j).rd,(Zf m ts es ss j).bad||rBad m tx D1 E1 i⟩) g Fx wv):=by rw [HBD.out,Bool.or_true];exact SY'
    have GYb:=zH (gbChg GX.out CY.out (fun y hy=>by omega));have K9y:=zH (K9x.out.chg CY.out HGN.out.2.1);have B13y:=zH (B13x.out.chg CY.out (by omega));have BOy:=zH (BOx.out.chg CY.out (by omega))
    have ISy:=zH (CY.out.rd (sz:=1) ISx.out (fun ad e h6=>by
     injection e with e;subst e
     exact HSg.out _ rfl h6))
    have HWs:Hid (wr.heap.size≤wv.heap.size):=by have:=CY.out.size;exact zH (by omega)
    have FYs:Hid (∀y∈Fx,y∈F∨wr.heap.size≤y):=zH (fun y hy=>by
     rcases HFY.out y hy with h6 | h6
     ·exact hFxS.out y h6
     ·exact .inr (by have:=GV9.out.size;omega))
   rotate_left
   all_goals
    obtain ⟨DV,dv,F5,v5,f5,o5,m5,g5,lt5,_,up5⟩:=SY.out.val;have hlen:(Zf m ts es ss j).vs.length=m.vs.length:=(Yk m ts es ss j).2.2.2.1;have v5:wv.cell? ⟨g,5,none⟩=some (.slice DV (Zf m ts es ss j).vs.length dv):=v5;have o5:(cauths (Zf m ts es ss j).vs).own wv F5 (.slice DV (Zf m ts es ss j).vs.length dv):=o5;rw [hlen] at v5 o5
    dsimp only at up5
    rw [hlen] at up5;have hiv:i<m.vs.length:=by have:=OKB.out.2.2.2.1;omega
    have hiv':(i:Int)<(m.vs.length:Int):=by omega
    obtain ⟨gv,rfl,hgv⟩:=XX o5 (by rw [hlen];omega);have V5:=zH v5;have O5:=zH o5;have M5:=zH m5;have LT5:=zH lt5;have UP:=zH up5;have HLEN:=zH hlen;have kx0:=zH (K9y.out.cell 0);have kx1:=zH (K9y.out.cell 1);have dx0:=zH (BOy.out.cell 0);have ex0:=zH (BOy.out.cell 1);have tx0:=zH (B13y.out.cell 0);have tx1:=zH (B13y.out.cell 1);have tx2:=zH (B13y.out.cell 2);have tx3:=zH (B13y.out.cell 3);have tx4:=zH (B13y.out.cell 4);have tx5:=zH (B13y.out.cell 5);simp only [List.getElem?_toArray,List.getElem?_cons_succ,List.getElem?_cons_zero] at kx0 kx1 dx0 ex0 tx0 tx1 tx2 tx3 tx4 tx5;clear v5 o5 m5 lt5 up5 hlen
    refine Zg [.rd (.pointer (some ⟨g,5,none⟩)),.rd (.slice (some ⟨gv,0,none⟩) m.vs.length dv),.rd (.int .i64 i),.rd (.agg #[.int .i64 m.k.p,.slice A m.k.al.length a]),.rd (.agg #[.slice T0 tx.a.sh.length d0,.slice T1 tx.a.mc.length d1,.slice T2 tx.b.sh.length d2,.slice T3 tx.b.mc.length d3,.slice T4 tx.c.sh.length d4,.slice T5 tx.c.mc.length d5]),.rd (.agg #[.int .i64 D1,.int .i64 E1]),.fl (autF wv.heap.size (Zw m.k tx D1 E1)),.rd (.pointer (some ⟨gv,i*2,none⟩)),.ch] (fun _=>False)
     [⟨[],fun _ w'=>wv.drew.grownBy w' none⟩,
      ⟨[],fun _ w'=>∃F'',SOF 58 (Zd ⟨(Zf m ts es ss j).k,(Zf m ts es ss j).c,(Zf m ts es ss j).vs.set i (Zw m.k tx D1 E1),opl ++ [D1,E1],(Zf m ts es ss j).rd,(Zf m ts es ss j).bad||rBad m tx D1 E1 i⟩) g F'' w'∧(∀x∈F'',x∈Fx∨wv.heap.size≤x)∧Chg (fun y=>y∈F5) wv w'⟩]
     (by kernel_rfl) (by kernel_rfl) (by kernel_rfl) 1 (by kernel_rfl) ?_ (gbR _ _) rfl ?_ ?_
    ·have hst:Zn [⟨[],fun _ w'=>wv.drew.grownBy w' none⟩,⟨[],fun _ w'=>∃F'',SOF 58 (Zd ⟨(Zf m ts es ss j).k,(Zf m ts es ss j).c,(Zf m ts es ss j).vs.set i (Zw m.k tx D1 E1),opl ++ [D1,E1],(Zf m ts es ss j).rd,(Zf m ts es ss j).bad||rBad m tx D1 E1 i⟩) g F'' w'∧(∀x∈F'',x∈Fx∨wv.heap.size≤x)∧Chg (fun y=>y∈F5) wv w'⟩]:=by
      refine Zm (fun l w1 w2 h hg=>gbT h hg) ?_;exact Zm (ZE fun l w1 w2 ⟨F'',h1,h2,h3⟩ hg=>⟨F'',h1.grow hg,h2,h3.trans (Chg.of hg (by simp))⟩) YO
     simp only [flOk,true_and,and_true];exact ⟨ZH,hst⟩
    ·simp only [hopsK,hopK,Kd.next,and_true]
     refine ⟨?_, ?_, ?_, ?_, ?_, ?_, ?_, ?_, ?_⟩;rotate_left 6
     ·intro f w4 hG hd
      have hg4:=gbT (gbD (gbR wv none)) (chgF hG);have hz4:=hg4.size
      (try simp at hd)
      (first | simp [hd] | simp)
      clear hd;go_wp2_with fail;refine (Qg m.k tx D1 E1 _ _ w4 (R1.out.ky.grow (gbT GYb.out hg4)) (HT.out.tr.grow (gbT GYb.out hg4)) WM.out.k WX.out).mono ?_;rintro e' w6 ⟨v6,rfl,o6,g6⟩;have O6:=zH (autF.lo o6 hz4);have G6':=zH g6;clear o6 g6;go_wp2_with fail;exact ⟨_,rfl,O6.out,G6'.out⟩
     rotate_left 1
     ·intro f w4 hG hI hd
      have hg4:=gbT (gbD (gbR wv none)) (chgF hG);have hz4:=hg4.size
      (try simp at hd)
      obtain ⟨e78,h77,_⟩:=hd;obtain ⟨A9,n9,c9,B9,q9,d9,Fz,e77,hx,lx⟩:=autF.own h77;have O4:=Zj _ O5.out hg4;obtain ⟨X0,x0,X1,x1,y0,y1,z0,z1,_⟩:=YB O4 (i:=i) (by rw [HLEN.out];exact hiv);obtain ⟨F5',r1,r2⟩:=XU O4 (i:=i) (by rw [HLEN.out];exact hiv) hx (fun y hy hy'=>by have:=lx y hy;have:=LT5.out y hy';omega);have hch:Chg (fun y=>y∈F5) wv ((w4.setCell ⟨gv,i*2,none⟩ (.slice A9 n9 c9)).setCell ⟨gv,i*2+1,none⟩ (.slice B9 q9 d9)):=(Chg.of hg4 (by simp)).trans (((chgS w4 gv (i*2) _).trans (chgS _ gv (i*2+1) _)).mono (fun y hy=>by rw [hy];exact hgv));obtain ⟨F'',t1,t2⟩:=UP.out _ _ F5' hch (by have h8:=r1;exact h8) (fun y hy=>(r2 y hy).imp id (lx y));simp [puts,dsts,Act.put,e77,e78];go_wp2_with fail;exact ⟨rfl,.bool false,F'',t1,t2,hch⟩
     all_goals
      intro f w4 hG hd;have hg4:=gbT (gbD (gbR wv none)) (chgF hG);have k0:=gbk hg4 (V5.out);have k1:=gbk hg4 (kx0.out);have k2:=gbk hg4 (kx1.out);have k3:=gbk hg4 (tx0.out);have k4:=gbk hg4 (tx1.out);have k5:=gbk hg4 (tx2.out);have k6:=gbk hg4 (tx3.out);have k7:=gbk hg4 (tx4.out);have k8:=gbk hg4 (tx5.out);have k9:=gbk hg4 (dx0.out);have k10:=gbk hg4 (ex0.out)
      (try simp at hd)
      (first | simp [hd] | simp)
      clear hd;go_wp2_with fail;exact ⟨rfl,rfl⟩
    intro f wf hI hd;simp only [puts,dsts,Act.put,zB,zC,zA,zD,zE];obtain ⟨F'',h1,h2,h3⟩:=hI
    have HNEXT:Hid (Zf m ts es ss (j+1)=⟨(Zf m ts es ss j).k,(Zf m ts es ss j).c,(Zf m ts es ss j).vs.set i (Zw m.k tx D1 E1),opl ++ [D1,E1],(Zf m ts es ss j).rd,(Zf m ts es ss j).bad||rBad m tx D1 E1 i⟩):=by
     unfold Hid;have e1:rD m tx (errAt es (2*j)) i=D1:=by unfold rD;rw [HGA.out,HGB.out,HD0.out,HD1.out]
     have e2:rE m tx (errAt es (2*j+1)) i=E1:=by unfold rE;rw [HGA.out,HGB.out,HE0.out,HE1.out]
     rw [Zf,HTX.out,J2.out,Int.toNat_natCast,e1,e2];unfold mulStep;rw [HOPL.out]
    have hws:=HWs.out;have hyF:∀y∈Fx,y∈F∨wr.heap.size≤y:=FYs.out
    have hzF:∀y∈F'',y∈F∨wr.heap.size≤y:=fun y hy=>by
     rcases h2 y hy with h6 | h6
     ·exact hyF y h6
     ·exact .inr (by omega)
    have hS9:sb∉F∧sb<wr.heap.size:=⟨HSN.out _ rfl,hsb⟩;have NS:∀y∈F5,y∈F∨wr.heap.size≤y:=fun y hy=>hyF y (M5.out y hy);have L1:Hid (SOF 58 (Zd (Zf m ts es ss (j+1))) g F'' wf):=by rw [HNEXT.out];exact zH h1
    have L2:Hid (∀x∈F'',wb.heap.size≤x):=zH (fun x hx=>(hzF x hx).elim (HL.out x) (fun h6=>by omega))
    have L3:Hid (∀gs,(some (⟨sb,so,none⟩:Addr)).map (·.block)=some gs→gs∉F''):=zH (fun gs hgs hx=>by
     simp at hgs;subst hgs
     rcases hzF _ hx with h6 | h6
     ·exact hS9.1 h6
     ·omega)
    have L4:Hid (g9∉F''):=zH (fun hx=>by
     rcases hzF _ hx with h6 | h6
     ·exact HGF.out h6
     ·omega)
    have L5:Hid (Ints wf (some ⟨sb,so,none⟩) ns ss):=zH (h3.rd (sz:=1) ISy.out (fun ad e h6=>by
     injection e with e;subst e
     rcases NS _ h6 with h7 | h7
     ·exact hS9.1 h7
     ·simp at h7;omega))
    have L6:=zH (K9y.out.chg h3 (fun h6=>by
     rcases NS _ h6 with h7 | h7
     ·exact HGF.out h7
     ·omega))
    have L7:=zH (gbChg GYb.out h3 (fun y hy=>(NS y hy).elim (HL.out y) (fun h6=>by omega)));clear hd h1 h2 h3 hyF hzF hS9 NS;go_wp2_with fail
    go_roundw
    case rel=>exact ⟨j+1,F'',by omega,by go_num,L1,L2,L3,L4,L5,L6,L7⟩
    case measure=>simp [intOf];omega
  ·have hjn:j=ns:=by omega
   subst hjn;have hfx:=Yk m ts es ss j;have HFK:=zH hfx.1;have HFC:=zH hfx.2.1;have HFR:=zH hfx.2.2.1;have HFN:=zH hfx.2.2.2.1;have hlen:j=(mulsOf m).length:=by rw [← LS.out,HMO.out]
   have HRE:Hid (Ym m ts es=Xs m (Zf m ts es ss j)):=by
    unfold Hid Ym;rw [HMAY.out,if_pos rfl,← hlen,HMO.out]
   have HRD:=zH (Vl OKB.out.2.2.2.2.1);clear hfx hlen;have HAW:Hid (∀a∈(Zf m ts es ss j).vs,awf a):=zH (Wi WM.out.vs WT.out j (by have:=MIS.out.2.2.2.1;rw [← HMO.out,LS.out] at this;exact this));go_wp2_with fail;refine (impladdAll_c (Zf m ts es ss j) g F wr SG.out (by rw [HFC.out];exact OKB.out.2.1) (by rw [HFN.out,HFC.out];exact OKB.out.2.2.2.1) (by rw [HFK.out];exact WM.out.k) HAW.out).mono ?_;rintro e' wz ⟨rfl,Fz,hSz,hlz,hch⟩;obtain ⟨M,hM⟩:∃M:EM,({ Zf m ts es ss j with vs:=addsTo (Zf m ts es ss j).k (Zf m ts es ss j).c (Zf m ts es ss j).vs (Zf m ts es ss j).c.st.length }:EM)=M:=⟨_,rfl⟩
   have HRES:Hid (Ym m ts es={ M with rd:=m.rd+1 }):=by
    unfold Hid;rw [HRE.out,← hM];unfold Xs;rw [HFK.out,HFC.out]
   have hMr:M.rd=m.rd:=by rw [← hM];exact HFR.out
   have hSz:SOF 58 (Zd M) g Fz wz:=by rw [← hM];exact hSz
   have HLz:=zH (fun x hx=>(hlz x hx).elim (HL.out x) (fun h6=>Nat.le_trans G6.out.size h6):∀x∈Fz,wb.heap.size≤x);have GZb:=zH (gbChg G6.out hch (fun y hy=>HL.out y hy));have DRz:=zH ((D6.out.grow G6.out).chg hch (fun hy=>by have:=HL.out _ hy;omega));obtain ⟨A7,B7,C7,D7,E7,a7,b7',c7',d7,e7,hB7,_⟩:=hSz.eng;have z7:=hB7.cell 7;have y7:=hB7.frozen 7;simp only [List.getElem?_toArray,List.getElem?_cons_succ,List.getElem?_cons_zero] at z7;rw [hMr] at z7;obtain ⟨Fy,hSy,hFy⟩:=hSz.round (m.rd+1);have SY:=zH hSy;have HFY:=zH (fun x hx=>(hFy x hx).elim (HLz.out x) (fun h6=>by have:=GZb.out.size;omega):∀x∈Fy,wb.heap.size≤x);have hgz:wb.heap.size≤g:=hgl;have hzb9:=zb.out;have DRy:=zH (DRz.out.chg (chgS wz g 7 (.int .i64 (m.rd+1))) (by omega));have GYY:=zH (gbT GW.out (gbChg GZb.out (chgS wz g 7 (.int .i64 (m.rd+1))) (fun y hy=>by omega)));have hrd1:=HRD.out.1;have hrd2:=HRD.out.2;clear hB7 hSz hlz hch hSy hFy hM;obtain ⟨A9,B9,C9,D9,E9,a9,b9,c9,d9,e9,hB9,hR9⟩:=SOF.eng (SY.out);have HA9:=SOF.is (SY.out) (us:=[_,_,_,_,_,_,_,_,_]) hB9;obtain ⟨b0,b1,b2,b3,b4,b5,b6,b7,b8⟩:=hB9.c9;obtain ⟨c0,c1,c2,c3,c4,c5,c6,c7,c8⟩:=(DRy.out).c9;obtain ⟨f0,f1,f2,f3,f4,f5,f6,f7,f8⟩:=(DRy.out).f9;have RS:=SOF.store (DRy.out) (us:=[.int .i64 ({ M with rd:=m.rd+1 }).k.p,.slice A9 ({ M with rd:=m.rd+1 }).k.al.length a9,.int .i64 ({ M with rd:=m.rd+1 }).c.p,.slice B9 ({ M with rd:=m.rd+1 }).c.st.length b9,.slice C9 ({ M with rd:=m.rd+1 }).c.outs.length c9,.slice D9 ({ M with rd:=m.rd+1 }).vs.length d9,.slice E9 ({ M with rd:=m.rd+1 }).op.length e9,.int .i64 ({ M with rd:=m.rd+1 }).rd,.bool ({ M with rd:=m.rd+1 }).bad]) rfl HA9 (fun hx=>by have:=HFY.out _ hx;omega);have GS:=Zv (GYY.out) (Zc (w0.heap.size+1) [.int .i64 ({ M with rd:=m.rd+1 }).k.p,.slice A9 ({ M with rd:=m.rd+1 }).k.al.length a9,.int .i64 ({ M with rd:=m.rd+1 }).c.p,.slice B9 ({ M with rd:=m.rd+1 }).c.st.length b9,.slice C9 ({ M with rd:=m.rd+1 }).c.outs.length c9,.slice D9 ({ M with rd:=m.rd+1 }).vs.length d9,.slice E9 ({ M with rd:=m.rd+1 }).op.length e9,.int .i64 ({ M with rd:=m.rd+1 }).rd,.bool ({ M with rd:=m.rd+1 }).bad] 0 _) (by omega);simp only [ZW,Nat.zero_add,Nat.reduceAdd] at RS GS;obtain ⟨vs9,hBR,hAR⟩:=RS.agg;have HAR:=zH hAR;have HBR:=zH hBR;have GS:=zH GS;have HLF:=zH (fun x hx=>HFY.out x hx);clear hB9 hR9 HA9 RS hAR hBR;go_wp2_with fail;refine Yo Tryz.results27 (by rfl) Wg (cs:=vs9.toArray) HBR.out (by rw [List.size_toArray];exact XL HAR.out) (by rfl) ?_;exact ⟨_,rfl,⟨Fy,by rw [HRES.out];exact HAR.out,fun x hx=>by have:=HLF.out x hx;have:=zb.out;omega⟩,GS.out⟩
end Go.Proofs.YthaadgdeadbhkaaGreat
