/-
 EngineRound of the reference (printed by wip/gen_sengrnd.py).
-/
import Derived.Test.YthaadgdeadbhkaaGreatMgFnExactEngineRound40
import Derived.Test.YthaadgdeadbhkaaGreatMgFnExactEngineRound42
import Derived.Test.YthaadgdeadbhkaaGreatMgFnExactEngineRound43
open Go.RowKit
set_option linter.unusedVariables false
set_option linter.unusedSimpArgs false
namespace Go.Proofs.YthaadgdeadbhkaaGreat
theorem ewfW_round {m:EM} {ts:List TrM} {es:List Int} (h:ewf m) (ht:∀x∈ts,twf x) (hm:mayB m ts es=true):ewfW (Xs m (Zf m ts es (mulsOf m) (mulsOf m).length)):=by
 obtain ⟨f1,f2,f3,f4,f5⟩:=Yk m ts es (mulsOf m) (mulsOf m).length;have hfew:(mulsOf m).length≤60:=WN _ _;obtain ⟨h1,h2,h3,h4,h5,h6⟩:=XM hm;have ho:=h.op;refine ⟨?_, ?_, ?_, ?_, ?_⟩
 ·show kwf (Zf m ts es (mulsOf m) (mulsOf m).length).k;rw [f1];exact h.k
 ·show amwf (Zf m ts es (mulsOf m) (mulsOf m).length).c;rw [f2];exact h.c
 ·exact UB (Wi h.vs ht _ h4) _
 ·show (addsTo _ _ _ _).length≤_;rw [XW,f4];exact h.n
 ·show (Zf m ts es (mulsOf m) (mulsOf m).length).op.length≤_;rw [f5];omega
set_option maxHeartbeats 20000000 in
set_option maxRecDepth 100000 in
theorem Ud (m:EM) (ts:List TrM) (es:List Int) (v:Value) (T R:Option Addr) (nt ct nr cr:Nat) (w0:World) (h:AggR w0 (Zd m) v) (ht:(Zs ts).rd w0 (.slice T nt ct)) (he:Ints w0 R nr es) (wm:ewf m) (wt:∀x∈ts,twf x) (hnt:nt≤1048576) (hnr:nr≤1048576) :
  Calls Tryz.prog 24 #[v,.slice T nt ct,.slice R nr cr] w0 fun e w'=>∃v,e=.returned v∧aggF w0.heap.size (Zd (Ym m ts es)) v w'∧w0.grownBy w' none:=by
 obtain ⟨A,B,C,D,E,a,b,c,d,e,rfl,hR⟩:=Zo h;obtain ⟨wb,hwb⟩:∃x:World,(w0.alloc (.cells #[.int .i64 m.k.p,.slice A m.k.al.length a,.int .i64 m.c.p,.slice B m.c.st.length b,.slice C m.c.outs.length c,.slice D m.vs.length d,.slice E m.op.length e,.int .i64 m.rd,.bool m.bad] 58)).alloc (.cells #[.int .i64 0,.slice none 0 0,.int .i64 0,.slice none 0 0,.slice none 0 0,.slice none 0 0,.slice none 0 0,.int .i64 0,.bool false] 58)=x:=⟨_,rfl⟩;have GW:Hid (w0.grownBy wb none):=by rw [← hwb];exact gbA (gbA (gbR _ _) _) _
 have zb:Hid (wb.heap.size=w0.heap.size+2):=by rw [← hwb];exact zH (by simp)
 have D1:Hid (Blk wb w0.heap.size 58 #[.int .i64 m.k.p,.slice A m.k.al.length a,.int .i64 m.c.p,.slice B m.c.st.length b,.slice C m.c.outs.length c,.slice D m.vs.length d,.slice E m.op.length e,.int .i64 m.rd,.bool m.bad]):=by rw [← hwb];exact (Blk.new w0 _ _).grow (gbA (gbR _ _) _)
 have D6:Hid (Blk wb (w0.heap.size+1) 58 #[.int .i64 0,.slice none 0 0,.int .i64 0,.slice none 0 0,.slice none 0 0,.slice none 0 0,.slice none 0 0,.int .i64 0,.bool false]):=by rw [← hwb];exact Blk.new' _ _ _ _ (by simp)
 have R1:=zH (hR.grow GW.out);have WM:=zH wm;have WT:=zH wt;have TR:=zH (CS.grow _ ht GW.out);have ER:=zH (he.grow GW.out);have LT:=zH (YQ ht);clear h hR wm wt ht he
 go_enter Tryz.func24,Tryz.ntmps24
 obtain ⟨k0,k1,k2,k3,k4,k5,k6,k7,k8⟩:=D1.out.c9;go_wp2_with fail
 try rw [hwb]
 clear hwb k0 k1 k2 k3 k4 k5 k6 k7 k8;refine (VF m _ wb R1.out.al9 WM.out.w).mono ?_;rintro e' w2 ⟨v2,rfl,o2,g2⟩;obtain ⟨F0,hA,hl0⟩:=o2;obtain ⟨A',B',C',D',E',a',b',c',d',e',rfl,hR2⟩:=Zo hA.rd;have D12:=zH (D1.out.grow g2);have D62:=zH (D6.out.grow g2);have G2:=zH g2;have HA:=zH hA;have HL0:=zH hl0;have k2:=D12.out.cell 2;have k3:=D12.out.cell 3;have k4:=D12.out.cell 4;have k7:=D12.out.cell 7;simp only [List.getElem?_toArray,List.getElem?_cons_succ,List.getElem?_cons_zero] at k2 k3 k4 k7;have q2:=fun o=>kA k2 o;have q3:=fun o=>kA k3 o;have q4:=fun o=>kA k4 o;have q7:=fun o=>kA k7 o;clear hA hl0 hR2 g2;go_wp2_with fail;obtain ⟨w3,hw3⟩:∃x:World,w2.alloc (.cells #[.int .i64 m.k.p,.slice A' m.k.al.length a',.int .i64 m.c.p,.slice B' m.c.st.length b',.slice C' m.c.outs.length c',.slice D' m.vs.length d',.slice E' m.op.length e',.int .i64 m.rd,.bool m.bad] 58)=x:=⟨_,rfl⟩;have G3:Hid (wb.grownBy w3 none):=by rw [← hw3];exact gbA G2.out _
 obtain ⟨g,hg⟩:∃x,w2.heap.size=x:=⟨_,rfl⟩
 have SG:Hid (SOF 58 (Zd m) g F0 w3):=by
  rw [← hw3,← hg];exact zH (SOF.made (vs:=[_,_,_,_,_,_,_,_,_]) (Blk.new w2 _ _) (HA.out.grow (gbA (gbR _ _) _)) (fun hx=>by have:=HA.out.lt _ hx;omega))
 have hgl:wb.heap.size≤g:=by have:=G2.out.size;omega
 rw [hw3];rw [hg];have DP:=zH (show Blk w3 w0.heap.size 58 #[.int .i64 m.k.p,.slice A m.k.al.length a,.int .i64 m.c.p,.slice B m.c.st.length b,.slice C m.c.outs.length c,.slice D m.vs.length d,.slice E m.op.length e,.int .i64 m.rd,.bool m.bad] by rw [← hw3];exact D12.out.grow (gbA (gbR _ _) _));have DR:=zH (show Blk w3 (w0.heap.size+1) 58 #[.int .i64 0,.slice none 0 0,.int .i64 0,.slice none 0 0,.slice none 0 0,.slice none 0 0,.slice none 0 0,.int .i64 0,.bool false] by rw [← hw3];exact D62.out.grow (gbA (gbR _ _) _));clear hw3 hg k2 k3 k4 k7 q2 q3 q4 q7 D12 D62 HA G2;obtain ⟨d,hd⟩:∃d,wrap64 (m.rd+1)=d:=⟨_,rfl⟩
 have HD:Hid (engOkB m=true→d=m.rd+1):=zH (fun h=>by
  have:=Vl (YZ h).2.2.2.2.1;rw [← hd];unfold wrap64
  omega)
 rw [hd];clear hd;refine (specMulsAt_c m.c d _ w3 (R1.out.ar.grow G3.out) WM.out.c.wf).mono ?_;rintro e' w4 ⟨vS,rfl,o4,g4⟩;obtain ⟨ns,hns⟩:∃n,(mulsAt m.c d).length=n:=⟨_,rfl⟩;have hn60:ns≤60:=by rw [← hns];exact WN m.c d
 rw [hns] at o4;obtain ⟨ss,hss⟩:∃s,mulsAt m.c d=s:=⟨_,rfl⟩;rw [hss] at o4 hns;have HSS:Hid (engOkB m=true→ss=mulsOf m):=zH (fun h=>by rw [← hss,HD.out h];rfl);obtain ⟨S,cs,rfl,hSf,_⟩:=Ye o4;have IS:=zH (show Ints w4 S ns ss from Rd.ofOwn o4);have HSF:=zH hSf;have LS:=zH hns;have DP4:=zH (DP.out.grow g4);have DR4:=zH (DR.out.grow g4);have SG4:=zH (SG.out.grow g4);have G4:=zH (gbT G3.out g4);have LF0:=zH SG.out.lt;have LG0:=zH SG.out.ltg;obtain ⟨k0,k1,k2,k3,k4,k5,k6,k7,k8⟩:=DP4.out.c9;clear o4 hns hss g4 DP DR SG G3 HD hSf;go_wp2_with fail;clear k0 k1 k2 k3 k4 k5 k6 k7 k8;refine (specl28May_c m ts es ss _ S T R ns cs nt ct nr cr w4 (R1.out.al9.grow G4.out) IS.out (CS.grow _ TR.out G4.out) (ER.out.grow G4.out) WM.out WT.out HSS.out hn60 hnt hnr).mono ?_;rintro e' w5 ⟨rfl,g5⟩;have DP5:=zH (DP4.out.grow g5);have DR5:=zH (DR4.out.grow g5);have SG5:=zH (SG4.out.grow g5);have IS5:=zH (IS.out.grow g5);have G5:=zH (gbT G4.out g5);have hz5:w4.heap.size≤w5.heap.size:=g5.size;have hz4:=zb.out;clear g5 DP4 DR4 SG4 IS
 cases hmay:mayB m ts es
 ·have HRES:Hid (Ym m ts es=m):=by unfold Hid Ym;rw [hmay];rfl
  clear hmay;obtain ⟨A9,B9,C9,D9,E9,a9,b9,c9,d9,e9,hB9,hR9⟩:=SOF.eng (SG5.out);have HA9:=SOF.is (SG5.out) (us:=[_,_,_,_,_,_,_,_,_]) hB9;obtain ⟨b0,b1,b2,b3,b4,b5,b6,b7,b8⟩:=hB9.c9;obtain ⟨c0,c1,c2,c3,c4,c5,c6,c7,c8⟩:=(DR5.out).c9;obtain ⟨f0,f1,f2,f3,f4,f5,f6,f7,f8⟩:=(DR5.out).f9;have RS:=SOF.store (DR5.out) (us:=[.int .i64 (m).k.p,.slice A9 (m).k.al.length a9,.int .i64 (m).c.p,.slice B9 (m).c.st.length b9,.slice C9 (m).c.outs.length c9,.slice D9 (m).vs.length d9,.slice E9 (m).op.length e9,.int .i64 (m).rd,.bool (m).bad]) rfl HA9 (fun hx=>by have:=HL0.out _ hx;omega);have GS:=Zv (gbT GW.out G5.out) (Zc (w0.heap.size+1) [.int .i64 (m).k.p,.slice A9 (m).k.al.length a9,.int .i64 (m).c.p,.slice B9 (m).c.st.length b9,.slice C9 (m).c.outs.length c9,.slice D9 (m).vs.length d9,.slice E9 (m).op.length e9,.int .i64 (m).rd,.bool (m).bad] 0 _) (by omega);simp only [ZW,Nat.zero_add,Nat.reduceAdd] at RS GS;obtain ⟨vs9,hBR,hAR⟩:=RS.agg;have HAR:=zH hAR;have HBR:=zH hBR;have GS:=zH GS;have HLF:=zH (fun x hx=>HL0.out x hx);clear hB9 hR9 HA9 RS hAR hBR;go_wp2_with fail;refine Yo Tryz.results24 (by rfl) Wg (cs:=vs9.toArray) HBR.out (by rw [List.size_toArray];exact XL HAR.out) (by rfl) ?_;exact ⟨_,rfl,⟨F0,by rw [HRES.out];exact HAR.out,fun x hx=>by have:=HLF.out x hx;have:=zb.out;omega⟩,GS.out⟩
 have HMAY:=zH hmay;clear hmay;have MIS:=zH (XM HMAY.out);have HMO:=HSS.out MIS.out.1;subst HMO;have HZ0:w0.heap.size≤wb.heap.size:=by have:=zb.out;omega
 have HGA:Hid (∀w',Chg (fun y=>y=g∨y∈F0) w5 w'→wb.grownBy w' none):=zH (fun w' hc=>gbChg G5.out hc (fun y hy=>by
  rcases hy with rfl | hy
  ·exact hgl
  ·exact HL0.out y hy))
 have HSB:Hid (∀ad,S=some ad→0<ns→ad.block≠g∧ad.block∉F0):=zH (fun ad e hp=>by
  obtain ⟨_,_,h1,h2⟩:=HSF.out ad e
  exact ⟨fun h=>by have:=LG0.out;omega,fun h=>by have:=LF0.out _ h;omega⟩)
 have TRB:Hid (0<nt→∀tb o,T=some ⟨tb,o,none⟩→tb<wb.heap.size):=zH (fun hp tb o e=>by
  obtain ⟨b1,o1,_,_,_,_,_,_,_,_,_,_,_,_,e1,h1,_⟩:=Yd TR.out (k:=0) hp;rw [e] at e1;injection e1 with e1;injection e1 with h9 _ _
  omega)
 have L60:Hid ((mulsOf m).length≤60):=zH (by rw [LS.out];exact hn60);go_wp2_with fail;refine (specl28Round_c m ts es g F0 S T R ns cs nt ct nr cr w5 SG5.out LS.out hn60 (fun w' hc=>⟨?_,CS.grow _ TR.out (HGA.out w' hc),ER.out.grow (HGA.out w' hc)⟩) (fun hp tb o e => ?_) WM.out WT.out HMAY.out hnt hnr).mono ?_
 ·exact Chg.rdk (w:=w5) (w':=w') IS5.out hc (fun hp b hb hs=>by
   have h1:=HSB.out b hb (by have:=LS.out;omega)
   rcases hs with h2 | h2
   ·exact h1.1 h2
   ·exact h1.2 h2)
 ·have h1:=TRB.out hp tb o e
  refine ⟨by omega,fun h => ?_,by have:=G5.out.size;omega⟩;have:=HL0.out _ h;omega
 rintro e' w6 ⟨rfl,F',hS',hF',hC'⟩;obtain ⟨M,hM⟩:∃M,Xs m (Zf m ts es (mulsOf m) (mulsOf m).length)=M:=⟨_,rfl⟩;rw [hM] at hS';have HRES:Hid (Ym m ts es=M):=by unfold Hid Ym;rw [HMAY.out,if_pos rfl,hM]
 have WMM:Hid (ewfW M):=by
  rw [← hM];exact zH (ewfW_round WM.out WT.out HMAY.out)
 have SG6:=zH hS';have G6:=zH (HGA.out _ hC');have hC:=zH hC'
 have HF':Hid (∀x∈F',wb.heap.size≤x):=zH (fun x hx=>by
  rcases hF' x hx with h1 | h1
  ·exact HL0.out x h1
  ·have:=G5.out.size;omega)
 have DR6:=zH (DR5.out.chg hC' (fun h=>by
  rcases h with h1 | h1
  ·omega
  ·have:=HL0.out _ h1;omega))
 clear hM hS' hF' hC';obtain ⟨A7,B7,C7,D7,E7,a7,b7,c7,d7,e7,hB7,hR7⟩:=SG6.out.eng;obtain ⟨k0,k1,k2,k3,k4,k5,k6,k7,k8⟩:=hB7.c9;have R7:=zH hR7.al9;clear hB7 hR7;go_wp2_with fail;clear k0 k1 k2 k3 k4 k5 k6 k7 k8;refine (VF M _ w6 R7.out WMM.out).mono ?_;rintro e' w7 ⟨v7,rfl,o7,g7⟩;obtain ⟨A9,B9,C9,D9,E9,a9,b9,c9,d9,e9,rfl⟩:=o7.eng;obtain ⟨F7,hA7,hl7⟩:=o7;have DR7:=DR6.out.grow g7;obtain ⟨c0,c1,c2,c3,c4,c5,c6,c7,c8⟩:=DR7.c9;obtain ⟨f0,f1,f2,f3,f4,f5,f6,f7,f8⟩:=DR7.f9;have hgF:=Qw (Xx _) hA7 DR7 (by decide);have RS:=SOF.store DR7 (us:=[.int .i64 M.k.p,.slice A9 M.k.al.length a9,.int .i64 M.c.p,.slice B9 M.c.st.length b9,.slice C9 M.c.outs.length c9,.slice D9 M.vs.length d9,.slice E9 M.op.length e9,.int .i64 M.rd,.bool M.bad]) rfl hA7 hgF;have GS:=Zv (gbT GW.out (gbT G6.out g7)) (Zc (w0.heap.size+1) [.int .i64 M.k.p,.slice A9 M.k.al.length a9,.int .i64 M.c.p,.slice B9 M.c.st.length b9,.slice C9 M.c.outs.length c9,.slice D9 M.vs.length d9,.slice E9 M.op.length e9,.int .i64 M.rd,.bool M.bad] 0 w7) (by omega);simp only [ZW,Nat.zero_add,Nat.reduceAdd] at RS GS;obtain ⟨vs9,hBR,hAR⟩:=RS.agg;have HAR:=zH hAR;have HBR:=zH hBR;have GS:=zH GS;have HLF:Hid (∀x∈F7,w0.heap.size≤x):=zH (fun x hx=>by have:=hl7 x hx;have:=G6.out.size;omega);clear RS hAR hBR DR7 hA7 hl7 g7 hgF;go_wp2_with fail;refine Yo Tryz.results24 (by rfl) Wg (cs:=vs9.toArray) HBR.out (by rw [List.size_toArray];exact XL HAR.out) (by rfl) ?_;exact ⟨_,rfl,⟨F7,by rw [HRES.out];exact HAR.out,HLF.out⟩,GS.out⟩
end Go.Proofs.YthaadgdeadbhkaaGreat
