/-
 l28Round of the reference (printed by wip/gen_sround.py).
-/
import Derived.Test.YthaadgdeadbhkaaGreatMgFnExactEngineRound38
import Derived.Test.YthaadgdeadbhkaaGreatMgFnExactEngineRound39
open Go.RowKit
set_option linter.unusedVariables false
set_option linter.unusedSimpArgs false
namespace Go.Proofs.YthaadgdeadbhkaaGreat
attribute [local simp] depsC dstAt kAt bindE List.filter_cons Zy Zp Zq Zr Zz Yu puts dsts Act.put
set_option maxHeartbeats 4000000 in
set_option maxRecDepth 100000 in
theorem specl28Round_c (m:EM) (ts:List TrM) (es:List Int) (g:Nat) (F0:List Nat) (S T R:Option Addr) (ns cs nt ct nr cr:Nat) (w0:World) (hS:SOF 58 (Zd m) g F0 w0) (hns:(mulsOf m).length=ns) (hn60:ns≤60) (dS:∀w',Chg (fun y=>y=g∨y∈F0) w0 w'→Ints w' S ns (mulsOf m)∧(Zs ts).rd w' (.slice T nt ct)∧Ints w' R nr es) (dT:0<nt→∀tb o,T=some ⟨tb,o,none⟩→tb≠g∧tb∉F0∧tb<w0.heap.size) (wm:ewf m) (wt:∀x∈ts,twf x) (hmay:mayB m ts es=true) (hnt:nt≤1048576) (hnr:nr≤1048576) :
  Calls Tryz.prog 46 #[.pointer (some ⟨g,0,none⟩),.slice S ns cs,.slice T nt ct,.slice R nr cr] w0 fun e w'=>e=.returned (.tuple #[])∧∃F',SOF 58 (Zd (Xs m (Zf m ts es (mulsOf m) (mulsOf m).length))) g F' w'∧(∀x∈F',x∈F0∨w0.heap.size≤x)∧Chg (fun y=>y=g∨y∈F0) w0 w':=by
 obtain ⟨A0,B0,C0,D0,E0,a0,b0,c0,d0,e0,hB0,_⟩:=hS.eng;have MIS:=zH (XM hmay);have HMAY:=zH hmay;have OKB:=zH (YZ (XM hmay).1);have WM:=zH wm;have WT:=zH wt;have DS:=zH dS;have DT:=zH dT;have LS:=zH hns;have HS:=zH hS;have hgl0:=hS.ltg;have HLT0:=zH hS.lt;have c0:=hB0.cell 0;simp at c0;clear hS hB0 hmay wm wt dS dT hns
 go_enter Tryz.func46,Tryz.ntmps46
 go_wp2_with fail;clear c0
 go_loopw [9] (fun i wr=>∃(j:Nat) (F:List Nat),j≤ns∧i=.int .i64 j∧Hid (SOF 58 (Zd (Zf m ts es (mulsOf m) j)) g F wr)∧Hid (∀x∈F,x∈F0∨w0.heap.size≤x)∧Hid (Chg (fun y=>y=g∨y∈F0) w0 wr)) (fun i _=>ns - (intOf i).toNat)
 case atStart=>exact ⟨0,F0,Nat.zero_le _,rfl,HS,zH (fun x hx=>.inl hx),zH (Chg.refl _ _)⟩
 case round =>
  clear HS;obtain ⟨j,F,hj,rfl,SG,HF,HC⟩:=hrel;obtain ⟨vj,oj,bj,hmj,hvl,hol⟩:=roundTo_form m ts es (mulsOf m) j;have HMJ:=zH hmj;rw [hmj] at SG
  by_cases hlt:j<ns
  ·have i1:(j:Int)<(ns:Int):=by omega
   have hjm:j<(mulsOf m).length:=by rw [LS.out];exact hlt
   have i0:(j:Int)<(nt:Int):=by have:=MIS.out.2.2.2.1;have:=LS.out;have:=YQ (DS.out _ HC.out).2.1;omega
   obtain ⟨i,ya,zb,j2,j1,hst,hai,hbi⟩:=step_at MIS.out.1 hjm;have hsame:=opd_same (ts:=ts) (es:=es) MIS.out.1 hjm j2 hst;rw [hmj] at hsame;obtain ⟨hsa,hsb⟩:=hsame;have hsa:getA vj ya=getA m.vs ya:=hsa;have hsb:getA vj zb=getA m.vs zb:=hsb;obtain ⟨IS0,TR0,ER0⟩:=DS.out _ HC.out;have LT:=zH (YQ TR0);obtain ⟨sb,so,rfl,hsb9,hsc⟩:=IS0.at_ (by omega);have s9:=hsc j hlt;rw [j2] at s9;obtain ⟨A,B,C,D,E,a,b,c,d,e,hB,hR⟩:=SG.out.eng;have hR:EngR ⟨m.k,m.c,vj,oj,m.rd,bj⟩ wr A B C D E a b c d e:=hR;obtain ⟨sb2,so2,x,y,z,rfl,_,hx,q0,q1,q2⟩:=YM hR.stp (k:=i) j1;have hst':stAt m.c i=(x,y,z):=by simp [stAt,zF,hx]
   have HSTT:=zH hst;rw [hst] at hst';injection hst' with ex hst';injection hst' with ey ez;subst ex;subst ey;subst ez;have hvm:m.vs.length=m.c.st.length:=OKB.out.2.2.2.1;have i2:(i:Int)<(m.c.st.length:Int):=by omega
   have i3:(ya:Int)<(vj.length:Int):=by omega
   have i4:(zb:Int)<(vj.length:Int):=by omega
   obtain ⟨tb,to_,T0,T1,T2,T3,T4,T5,d0,d1,d2,d3,d4,d5,rfl,_,t0,t1,t2,t3,t4,t5,hT⟩:=Yd TR0 (k:=j) (by omega);obtain ⟨vb,vo,xa,Ba,da,Ca,fa,hDe,hvb9,hxa,a0,a1,hXA⟩:=ZL hR.va (k:=ya) (by show ya<vj.length;omega);obtain ⟨vb',vo',xb,Bb,db,Cb,fb,hDe',_,hxb,b0,b1,hXB⟩:=ZL hR.va (k:=zb) (by show zb<vj.length;omega);subst hDe;injection hDe' with hDe';injection hDe' with h9 h8 _;subst h9;subst h8;have hxa:vj[ya]?=some xa:=hxa;have hxb:vj[zb]?=some xb:=hxb;have hga0:getA m.vs ya=xa:=by rw [← hsa];unfold getA;rw [zF,hxa];rfl
   have hgb0:getA m.vs zb=xb:=by rw [← hsb];unfold getA;rw [zF,hxb];rfl
   have HGA:Hid (opA m i=xa):=by unfold Hid opA;rw [hst,Int.toNat_natCast];exact hga0
   have HGB:Hid (opB m i=xb):=by unfold Hid opB;rw [hst,Int.toNat_natCast];exact hgb0
   obtain ⟨tx,htx⟩:∃q,trAt ts j=q:=⟨_,rfl⟩;have WX:=zH (VB WT.out (k:=j) (by rw [LT.out];omega));have HTK:=zH (MIS.out.2.2.2.2.2 j hjm);rw [j2,Int.toNat_natCast] at HTK;rw [htx] at t0 t1 t2 t3 t4 t5 hT WX HTK;have WXA:Hid (awf xa):=by rw [← hga0];exact zH (Qj WM.out.vs ya)
   have WXB:Hid (awf xb):=by rw [← hgb0];exact zH (Qj WM.out.vs zb)
   have HFX:Hid (formB m.k tx.a=true∧formB m.k tx.b=true∧formB m.k tx.c=true∧formB m.k xa=true∧formB m.k xb=true):=by
    have h1:=HTK.out;unfold tripOk at h1;rw [HGA.out,HGB.out] at h1;simp only [Bool.and_eq_true,Bool.not_eq_true'] at h1;obtain ⟨⟨⟨⟨h2,h3⟩,h4⟩,h5⟩,h6⟩:=h1;have o1:=OKB.out.2.2.2.2.2 ya;have o2:=OKB.out.2.2.2.2.2 zb;rw [hga0] at o1;rw [hgb0] at o2;unfold okV at o1 o2;rw [h5,Bool.false_or] at o1;rw [h6,Bool.false_or] at o2;exact ⟨h2,h3,h4,o1,o2⟩
   have HTX:=zH htx;have HT:=zH hT;have HXA:=zH hXA;have HXB:=zH hXB;have J2:=zH j2;have KY:=zH (show AggR wr (ckeys m.k) (.agg #[.int .i64 m.k.p,.slice A m.k.al.length a]) from hR.ky);have ER:=zH ER0;have HB:=zH hB;have Q0:=zH q0;have Q1:=zH q1;have Q2:=zH q2;have S9:=zH s9;have A0:=zH a0;have A1:=zH a1;have B0:=zH b0;have B1:=zH b1;have TT0:=zH t0;have TT1:=zH t1;have TT2:=zH t2;have TT3:=zH t3;have TT4:=zH t4;have TT5:=zH t5;have HVL:=zH hvl;have HVA:=zH hxa;have HVZ:=zH hxb;have HVB:=zH hvb9;have HOL:=zH hol;clear hsc hx hst hxa hxb hT hXA hXB a0 a1 b0 b1 t0 t1 t2 t3 t4 t5 htx j2 hjm hvm hsa hsb hR hB q0 q1 q2 s9 IS0 TR0 ER0 hga0 hgb0 hmj hvl hol hvb9;have C0:=zH (HB.out.cell 0);have C1:=zH (HB.out.cell 1);have C3:=zH (HB.out.cell 3);have C5:=zH (HB.out.cell 5);simp only [List.getElem?_toArray,List.getElem?_cons_succ,List.getElem?_cons_zero] at C0 C1 C3 C5;go_wp2_with fail
   refine Zg [.rd (.pointer (some ⟨g,0,none⟩)),.rd (.pointer (some ⟨g,0,none⟩)),.rd (.pointer (some ⟨g,2,none⟩)),.rd (.pointer (some ⟨g,3,none⟩)),.rd (.slice (some ⟨sb2,so2,none⟩) m.c.st.length b),.rd (.slice (some ⟨sb,so,none⟩) ns cs),.rd (.int .i64 j),.rd (.pointer (some ⟨sb,so+j,none⟩)),.rd (.int .i64 i),.rd (.pointer (some ⟨sb2,so2+i*3,none⟩)),.rd (.agg #[.int .i64 4,.int .i64 ya,.int .i64 zb]),.ch,.ch] (fun _=>False)
    [⟨[],fun _ w'=>wr.drew.grownBy w' none⟩,
     ⟨[10],fun l w'=>(∃g,l.getD 0 undef=.pointer (some ⟨g,0,none⟩)∧wr.heap.size≤g∧Blk w' g 102 #[.int .i64 0,.int .i64 0,.int .i64 0])∧wr.grownBy w' none⟩,
     ⟨[10],fun l w'=>(∃g,l.getD 0 undef=.pointer (some ⟨g,0,none⟩)∧wr.heap.size≤g∧Blk w' g 102 #[.int .i64 4,.int .i64 ya,.int .i64 zb])∧wr.grownBy w' none⟩]
    (by kernel_rfl) (by kernel_rfl) (by kernel_rfl) 2 (by kernel_rfl) (by simp only [flOk,and_true]) (gbR _ _) rfl ?_ ?_
   ·simp only [hopsK,hopK,Kd.next,and_true]
    refine ⟨?_, ?_, ?_, ?_, ?_, ?_, ?_, ?_, ?_, ?_, ?_, ?_, ?_⟩;rotate_left 11
    ·intro f w4 hG hI hd
     have hg4:=gbT (gbD (gbR wr none)) (chgF hG);have hz4:=hg4.size;clear hd;simp [puts,dsts,Act.put];go_wp2_with fail;exact ⟨_,rfl,⟨⟨_,rfl,hz4,Blk.new _ _ _⟩,gbA hg4 _⟩,⟨Chg.of (gbA (gbR _ none) _) (by simp),by simp [keepsC,dstAt]⟩⟩
    ·intro f w4 hG hI hd
     have hg4:=gbT (gbD (gbR wr none)) (chgF hG);have hz4:=hg4.size;obtain ⟨⟨g9,e9,hg9,R4⟩,hI⟩:=hI;have e9:f 10=.pointer (some ⟨g9,0,none⟩):=e9
     (try simp at hd)
     have f0:=R4.frozen 0;have f1:=R4.frozen 1;have f2:=R4.frozen 2;have b0:=R4.cell 0;have b1:=R4.cell 1;have b2:=R4.cell 2;simp at b0 b1 b2;have RS:=zH (Zh R4 [.int .i64 4,.int .i64 ya,.int .i64 zb] rfl);have GS:=zH (Zv hg4 (Zc g9 [.int .i64 4,.int .i64 ya,.int .i64 zb] 0 w4) hg9);clear R4 hI;simp [puts,dsts,Act.put,e9,hd];clear hd;go_wp2_with fail;exact ⟨rfl,.bool false,⟨g9,e9,hg9,RS.out⟩,GS.out⟩
    all_goals
     intro f w4 hG hd;have hg4:=gbT (gbD (gbR wr none)) (chgF hG);have k0:=gbk hg4 (C3.out);have k1:=gbk hg4 (S9.out);have k2:=gbk hg4 (Q0.out);have k3:=gbk hg4 (Q1.out);have k4:=gbk hg4 (Q2.out)
     (try simp at hd)
     (first | simp [hd] | simp)
     clear hd;go_wp2_with fail;exact ⟨rfl,rfl⟩
   intro f wa hI hd;simp only [puts,dsts,Act.put,zB,zC,zA,zD,zE];obtain ⟨⟨gs,e9,hgs,Bgs⟩,hgr⟩:=hI;have e9:f 10=.pointer (some ⟨gs,0,none⟩):=e9;rw [e9];clear hd e9;have GR:=zH hgr;have BS:=zH Bgs;have t0:=gbk hgr TT0.out;have t1:=gbk hgr TT1.out;have t2:=gbk hgr TT2.out;have t3:=gbk hgr TT3.out;have t4:=gbk hgr TT4.out;have t5:=gbk hgr TT5.out;clear hgr Bgs C3 S9 Q0 Q1 Q2;go_wp2_with fail;clear t0 t1 t2 t3 t4 t5;obtain ⟨wb,hw2⟩:∃x:World,wa.alloc (.cells #[.slice T0 tx.a.sh.length d0,.slice T1 tx.a.mc.length d1,.slice T2 tx.b.sh.length d2,.slice T3 tx.b.mc.length d3,.slice T4 tx.c.sh.length d4,.slice T5 tx.c.mc.length d5] 82)=x:=⟨_,rfl⟩;obtain ⟨gt,hgt⟩:∃x,wa.heap.size=x:=⟨_,rfl⟩;have GRb:Hid (wr.grownBy wb none):=by rw [← hw2];exact gbA GR.out _
   have BSb:Hid (Blk wb gs 102 #[.int .i64 4,.int .i64 ya,.int .i64 zb]):=by rw [← hw2];exact BS.out.grow (gbA (gbR _ _) _)
   have BTb:Hid (Blk wb gt 82 #[.slice T0 tx.a.sh.length d0,.slice T1 tx.a.mc.length d1,.slice T2 tx.b.sh.length d2,.slice T3 tx.b.mc.length d3,.slice T4 tx.c.sh.length d4,.slice T5 tx.c.mc.length d5]):=by rw [← hw2,← hgt];exact zH (Blk.new _ _ _)
   have hgtl:wr.heap.size≤gt:=by have:=GR.out.size;omega
   have hgts:gs<gt:=by have:=BS.out.lt;omega
   rw [hw2]
   try rw [hgt]
   clear hw2 hgt GR BS;have X5:=zH (gbk GRb.out C5.out);have XS:=zH (BSb.out.cell 1);simp only [List.getElem?_toArray,List.getElem?_cons_succ,List.getElem?_cons_zero] at XS;have X0:=zH (gbk GRb.out A0.out);have X1:=zH (gbk GRb.out A1.out);go_wp2_with fail
   refine Zg [.rd (.pointer (some ⟨g,0,none⟩)),.rd (.pointer (some ⟨g,0,none⟩)),.rd (.pointer (some ⟨g,5,none⟩)),.rd (.slice (some ⟨vb,vo,none⟩) vj.length d),.rd (.pointer (some ⟨gs,1,none⟩)),.rd (.int .i64 ya),.rd (.pointer (some ⟨vb,vo+ya*2,none⟩)),.rd (.agg #[.slice Ba xa.sh.length da,.slice Ca xa.mc.length fa]),.ch,.ch] (fun _=>False)
    [⟨[],fun _ w'=>wb.drew.grownBy w' none⟩,
     ⟨[12],fun l w'=>(∃g,l.getD 0 undef=.pointer (some ⟨g,0,none⟩)∧wb.heap.size≤g∧Blk w' g 80 #[.slice none 0 0,.slice none 0 0])∧wb.grownBy w' none⟩,
     ⟨[12],fun l w'=>(∃g,l.getD 0 undef=.pointer (some ⟨g,0,none⟩)∧wb.heap.size≤g∧Blk w' g 80 #[.slice Ba xa.sh.length da,.slice Ca xa.mc.length fa])∧wb.grownBy w' none⟩]
    (by kernel_rfl) (by kernel_rfl) (by kernel_rfl) 2 (by kernel_rfl) (by simp only [flOk,and_true]) (gbR _ _) rfl ?_ ?_
   ·simp only [hopsK,hopK,Kd.next,and_true]
    refine ⟨?_, ?_, ?_, ?_, ?_, ?_, ?_, ?_, ?_, ?_⟩;rotate_left 8
    ·intro f w4 hG hI hd
     have hg4:=gbT (gbD (gbR wb none)) (chgF hG);have hz4:=hg4.size;clear hd;simp [puts,dsts,Act.put];go_wp2_with fail;exact ⟨_,rfl,⟨⟨_,rfl,hz4,Blk.new _ _ _⟩,gbA hg4 _⟩,⟨Chg.of (gbA (gbR _ none) _) (by simp),by simp [keepsC,dstAt]⟩⟩
    ·intro f w4 hG hI hd
     have hg4:=gbT (gbD (gbR wb none)) (chgF hG);have hz4:=hg4.size;obtain ⟨⟨g9,e9,hg9,R4⟩,hI⟩:=hI;have e9:f 12=.pointer (some ⟨g9,0,none⟩):=e9
     (try simp at hd)
     have f0:=R4.frozen 0;have f1:=R4.frozen 1;have b0:=R4.cell 0;have b1:=R4.cell 1;simp at b0 b1;have RS:=zH (Zh R4 [.slice Ba xa.sh.length da,.slice Ca xa.mc.length fa] rfl);have GS:=zH (Zv hg4 (Zc g9 [.slice Ba xa.sh.length da,.slice Ca xa.mc.length fa] 0 w4) hg9);clear R4 hI;simp [puts,dsts,Act.put,e9,hd];clear hd;go_wp2_with fail;exact ⟨rfl,.bool false,⟨g9,e9,hg9,RS.out⟩,GS.out⟩
    all_goals
     intro f w4 hG hd;have hg4:=gbT (gbD (gbR wb none)) (chgF hG);have k0:=gbk hg4 (X5.out);have k1:=gbk hg4 (XS.out);have k2:=gbk hg4 (X0.out);have k3:=gbk hg4 (X1.out)
     (try simp at hd)
     (first | simp [hd] | simp)
     clear hd;go_wp2_with fail;exact ⟨rfl,rfl⟩
   intro f wc hI hd;simp only [puts,dsts,Act.put,zB,zC,zA,zD,zE];obtain ⟨⟨ga,e9,hga,Bga⟩,hgr⟩:=hI;have e9:f 12=.pointer (some ⟨ga,0,none⟩):=e9;rw [e9];clear hd e9;have GRc:=zH (gbT GRb.out hgr);have BSc:=zH (BSb.out.grow hgr);have BTc:=zH (BTb.out.grow hgr);have BAc:=zH Bga;have hga9:wr.heap.size≤ga:=by have:=GRb.out.size;omega
   clear hgr Bga GRb BSb BTb X5 XS X0 X1;have X5:=zH (gbk GRc.out C5.out);have XS:=zH (BSc.out.cell 2);simp only [List.getElem?_toArray,List.getElem?_cons_succ,List.getElem?_cons_zero] at XS;have X0:=zH (gbk GRc.out B0.out);have X1:=zH (gbk GRc.out B1.out);go_wp2_with fail
   refine Zg [.rd (.pointer (some ⟨g,0,none⟩)),.rd (.pointer (some ⟨g,0,none⟩)),.rd (.pointer (some ⟨g,5,none⟩)),.rd (.slice (some ⟨vb,vo,none⟩) vj.length d),.rd (.pointer (some ⟨gs,2,none⟩)),.rd (.int .i64 zb),.rd (.pointer (some ⟨vb,vo+zb*2,none⟩)),.rd (.agg #[.slice Bb xb.sh.length db,.slice Cb xb.mc.length fb]),.ch,.ch] (fun _=>False)
    [⟨[],fun _ w'=>wc.drew.grownBy w' none⟩,
     ⟨[13],fun l w'=>(∃g,l.getD 0 undef=.pointer (some ⟨g,0,none⟩)∧wc.heap.size≤g∧Blk w' g 80 #[.slice none 0 0,.slice none 0 0])∧wc.grownBy w' none⟩,
     ⟨[13],fun l w'=>(∃g,l.getD 0 undef=.pointer (some ⟨g,0,none⟩)∧wc.heap.size≤g∧Blk w' g 80 #[.slice Bb xb.sh.length db,.slice Cb xb.mc.length fb])∧wc.grownBy w' none⟩]
    (by kernel_rfl) (by kernel_rfl) (by kernel_rfl) 2 (by kernel_rfl) (by simp only [flOk,and_true]) (gbR _ _) rfl ?_ ?_
   ·simp only [hopsK,hopK,Kd.next,and_true]
    refine ⟨?_, ?_, ?_, ?_, ?_, ?_, ?_, ?_, ?_, ?_⟩;rotate_left 8
    ·intro f w4 hG hI hd
     have hg4:=gbT (gbD (gbR wc none)) (chgF hG);have hz4:=hg4.size;clear hd;simp [puts,dsts,Act.put];go_wp2_with fail;exact ⟨_,rfl,⟨⟨_,rfl,hz4,Blk.new _ _ _⟩,gbA hg4 _⟩,⟨Chg.of (gbA (gbR _ none) _) (by simp),by simp [keepsC,dstAt]⟩⟩
    ·intro f w4 hG hI hd
     have hg4:=gbT (gbD (gbR wc none)) (chgF hG);have hz4:=hg4.size;obtain ⟨⟨g9,e9,hg9,R4⟩,hI⟩:=hI;have e9:f 13=.pointer (some ⟨g9,0,none⟩):=e9
     (try simp at hd)
     have f0:=R4.frozen 0;have f1:=R4.frozen 1;have b0:=R4.cell 0;have b1:=R4.cell 1;simp at b0 b1;have RS:=zH (Zh R4 [.slice Bb xb.sh.length db,.slice Cb xb.mc.length fb] rfl);have GS:=zH (Zv hg4 (Zc g9 [.slice Bb xb.sh.length db,.slice Cb xb.mc.length fb] 0 w4) hg9);clear R4 hI;simp [puts,dsts,Act.put,e9,hd];clear hd;go_wp2_with fail;exact ⟨rfl,.bool false,⟨g9,e9,hg9,RS.out⟩,GS.out⟩
    all_goals
     intro f w4 hG hd;have hg4:=gbT (gbD (gbR wc none)) (chgF hG);have k0:=gbk hg4 (X5.out);have k1:=gbk hg4 (XS.out);have k2:=gbk hg4 (X0.out);have k3:=gbk hg4 (X1.out)
     (try simp at hd)
     (first | simp [hd] | simp)
     clear hd;go_wp2_with fail;exact ⟨rfl,rfl⟩
   intro f wd hI hd;simp only [puts,dsts,Act.put,zB,zC,zA,zD,zE];obtain ⟨⟨gb,e9,hgb,Bgb⟩,hgr⟩:=hI;have e9:f 13=.pointer (some ⟨gb,0,none⟩):=e9;rw [e9];clear hd e9;have GRd:=zH (gbT GRc.out hgr);have BSd:=zH (BSc.out.grow hgr);have BTd:=zH (BTc.out.grow hgr);have BAd:=zH (BAc.out.grow hgr);have BBd:=zH Bgb;have hgb9:wr.heap.size≤gb:=by have:=GRc.out.size;omega
   clear hgr Bgb GRc BSc BTc X5 XS X0 X1 BAc;clear BSd C5;have HFL:Hid (fieldB m.k.p=true):=zH (YX OKB.out.1).1;obtain ⟨D0,hD0⟩:∃z,openD m.k xa xb tx=z:=⟨_,rfl⟩;obtain ⟨E0,hE0⟩:∃z,openE m.k xa xb tx=z:=⟨_,rfl⟩
   have HOB:Hid (openB m.k xa xb tx=true):=by
    unfold Hid openB;rw [HFX.out.1,HFX.out.2.1,HFX.out.2.2.2.1,HFX.out.2.2.2.2];rfl
   have ED0:Hid (elemB m.k.p D0=true):=by rw [← hD0];unfold Hid openD;rw [if_pos HOB.out];exact Yr HFL.out _
   have EE0:Hid (elemB m.k.p E0=true):=by rw [← hE0];unfold Hid openE;rw [if_pos HOB.out];exact Yr HFL.out _
   have HD0:=zH hD0;have HE0:=zH hE0;clear hD0 hE0;have X0:=zH (gbk GRd.out C0.out);have X1:=zH (gbk GRd.out C1.out);have a0:=zH (BAd.out.cell 0);have a1:=zH (BAd.out.cell 1);have b0:=zH (BBd.out.cell 0);have b1:=zH (BBd.out.cell 1);have x0:=zH (BTd.out.cell 0);have x1:=zH (BTd.out.cell 1);have x2:=zH (BTd.out.cell 2);have x3:=zH (BTd.out.cell 3);have x4:=zH (BTd.out.cell 4);have x5:=zH (BTd.out.cell 5);simp only [List.getElem?_toArray,List.getElem?_cons_succ,List.getElem?_cons_zero] at a0 a1 b0 b1 x0 x1 x2 x3 x4 x5;go_wp2_with fail
   refine Zg [.rd (.pointer (some ⟨g,0,none⟩)),.rd (.pointer (some ⟨g,0,none⟩)),.rd (.pointer (some ⟨g,0,none⟩)),.rd (.agg #[.int .i64 m.k.p,.slice A m.k.al.length a]),.rd (.agg #[.slice Ba xa.sh.length da,.slice Ca xa.mc.length fa]),.rd (.agg #[.slice Bb xb.sh.length db,.slice Cb xb.mc.length fb]),.rd (.agg #[.slice T0 tx.a.sh.length d0,.slice T1 tx.a.mc.length d1,.slice T2 tx.b.sh.length d2,.slice T3 tx.b.mc.length d3,.slice T4 tx.c.sh.length d4,.slice T5 tx.c.mc.length d5]),.fl (isV (.tuple #[.agg #[.int .i64 D0,.int .i64 E0],.bool true])),.rd (.tuple #[.agg #[.int .i64 D0,.int .i64 E0],.bool true]),.rd (.agg #[.int .i64 D0,.int .i64 E0]),.rd (.bool true),.ch,.ch,.ch] (fun x=>wd.heap.size≤x)
    [⟨[],fun _ w'=>wd.drew.grownBy w' none⟩,
     ⟨[14],fun l w'=>(∃g,l.getD 0 undef=.pointer (some ⟨g,0,none⟩)∧wd.heap.size≤g∧Blk w' g 104 #[.int .i64 0,.int .i64 0])∧wd.grownBy w' none⟩,
     ⟨[14],fun l w'=>(∃g,l.getD 0 undef=.pointer (some ⟨g,0,none⟩)∧wd.heap.size≤g∧Blk w' g 104 #[.int .i64 D0,.int .i64 E0])∧wd.grownBy w' none⟩,
     ⟨[14,15],fun l w'=>(∃g,l.getD 0 undef=.pointer (some ⟨g,0,none⟩)∧l.getD 1 undef=.bool true∧wd.heap.size≤g∧Blk w' g 104 #[.int .i64 D0,.int .i64 E0])∧wd.grownBy w' none⟩]
    (by kernel_rfl) (by kernel_rfl) (by kernel_rfl) 3 (by kernel_rfl) ?_ (gbR _ _) rfl ?_ ?_
   ·have hst:Zn [⟨[],fun _ w'=>wd.drew.grownBy w' none⟩,⟨[14],fun l w'=>(∃g,l.getD 0 undef=.pointer (some ⟨g,0,none⟩)∧wd.heap.size≤g∧Blk w' g 104 #[.int .i64 0,.int .i64 0])∧wd.grownBy w' none⟩,⟨[14],fun l w'=>(∃g,l.getD 0 undef=.pointer (some ⟨g,0,none⟩)∧wd.heap.size≤g∧Blk w' g 104 #[.int .i64 D0,.int .i64 E0])∧wd.grownBy w' none⟩,⟨[14,15],fun l w'=>(∃g,l.getD 0 undef=.pointer (some ⟨g,0,none⟩)∧l.getD 1 undef=.bool true∧wd.heap.size≤g∧Blk w' g 104 #[.int .i64 D0,.int .i64 E0])∧wd.grownBy w' none⟩]:=by
     refine Zm (fun l w1 w2 h hg=>gbT h hg) ?_;refine Zm (ZE fun l w1 w2 ⟨⟨g,h1,h2,h3⟩,h4⟩ hg=>⟨⟨g,h1,h2,h3.grow hg⟩,gbT h4 hg⟩) ?_;refine Zm (ZE fun l w1 w2 ⟨⟨g,h1,h2,h3⟩,h4⟩ hg=>⟨⟨g,h1,h2,h3.grow hg⟩,gbT h4 hg⟩) ?_;exact Zm (ZE fun l w1 w2 ⟨⟨g,h1,h1',h2,h3⟩,h4⟩ hg=>⟨⟨g,h1,h1',h2,h3.grow hg⟩,gbT h4 hg⟩) YO
    simp only [flOk,true_and,and_true];exact ⟨Zb _,hst⟩
   ·simp only [hopsK,hopK,Kd.next,and_true]
    refine ⟨?_, ?_, ?_, ?_, ?_, ?_, ?_, ?_, ?_, ?_, ?_, ?_, ?_, ?_⟩;rotate_left 7
    ·intro f w4 hG hd
     have hg4:=gbChg (gbD (gbR wd none)) hG (fun y hy=>hy);have hz4:=hg4.size
     (try simp at hd)
     (first | simp [hd] | simp)
     clear hd;go_wp2_with fail;refine (Uu m.k xa xb tx _ _ _ _ w4 (KY.out.grow (gbT GRd.out hg4)) (HXA.out.grow (gbT GRd.out hg4)) (HXB.out.grow (gbT GRd.out hg4)) (HT.out.tr.grow (gbT GRd.out hg4)) WM.out.k WXA.out WXB.out WX.out HOB.out).mono ?_;rintro e' w6 ⟨rfl,g6⟩;rw [HD0.out,HE0.out];have G6':=zH g6;clear g6;go_wp2_with fail;exact ⟨_,rfl,rfl,G6'.out⟩
    ·intro f w4 hG hd
     have hg4:=gbChg (gbD (gbR wd none)) hG (fun y hy=>hy)
     (try simp at hd)
     try simp only [isV] at hd
     (first | simp [hd] | simp)
     clear hd;go_wp2_with fail;exact ⟨rfl,rfl⟩
    ·intro f w4 hG hd
     have hg4:=gbChg (gbD (gbR wd none)) hG (fun y hy=>hy)
     (try simp at hd)
     try simp only [isV] at hd
     (first | simp [hd] | simp)
     clear hd;go_wp2_with fail;exact ⟨rfl,rfl⟩
    ·intro f w4 hG hd
     have hg4:=gbChg (gbD (gbR wd none)) hG (fun y hy=>hy)
     (try simp at hd)
     try simp only [isV] at hd
     (first | simp [hd] | simp)
     clear hd;go_wp2_with fail;exact ⟨rfl,rfl⟩
    ·intro f w4 hG hI hd
     have hg4:=gbChg (gbD (gbR wd none)) hG (fun y hy=>hy);have hz4:=hg4.size;clear hd;simp [puts,dsts,Act.put];go_wp2_with fail;exact ⟨_,rfl,⟨⟨_,rfl,hz4,Blk.new _ _ _⟩,gbA hg4 _⟩,⟨chgA _ _,by simp [keepsC,dstAt];exact isV_w⟩⟩
    ·intro f w4 hG hI hd
     have hg4:=gbChg (gbD (gbR wd none)) hG (fun y hy=>hy);have hz4:=hg4.size;obtain ⟨⟨g9,e12,hg9,R4⟩,hI⟩:=hI;have e12:f 14=.pointer (some ⟨g9,0,none⟩):=e12
     (try simp at hd)
     have f0:=R4.frozen 0;have f1:=R4.frozen 1;have b0:=R4.cell 0;have b1:=R4.cell 1;simp at b0 b1;have RS:=zH (Zh R4 [.int .i64 D0,.int .i64 E0] rfl);have CH:=Zc g9 [.int .i64 D0,.int .i64 E0] 0 w4;have GS:=zH (Zv hg4 CH hg9);have CS9:=zH (CH.mono (T:=fun x=>wd.heap.size≤x) (fun y hy=>by rw [hy];exact hg9));clear CH hI R4
     try simp only [isV] at hd
     simp [puts,dsts,Act.put,e12,hd];clear hd;go_wp2_with fail;refine ⟨rfl,⟨.bool false,⟨g9,e12,hg9,RS.out⟩,GS.out⟩,CS9.out, ?_⟩;simp [keepsC,dstAt];exact isV_w
    ·intro f w4 hG hI hd
     have hg4:=gbChg (gbD (gbR wd none)) hG (fun y hy=>hy);have hz4:=hg4.size;obtain ⟨⟨g9,e12,hg9,hs9⟩,hI⟩:=hI
     (try simp at hd)
     try simp only [isV] at hd
     (first | simp [hd] | simp)
     clear hd;go_wp2_with fail;exact ⟨.bool true,rfl,⟨g9,e12,rfl,hg9,hs9⟩,hI⟩
    all_goals
     intro f w4 hG hd;have hg4:=gbChg (gbD (gbR wd none)) hG (fun y hy=>hy);have k0:=gbk hg4 (X0.out);have k1:=gbk hg4 (X1.out);have k2:=gbk hg4 (a0.out);have k3:=gbk hg4 (a1.out);have k4:=gbk hg4 (b0.out);have k5:=gbk hg4 (b1.out);have k6:=gbk hg4 (x0.out);have k7:=gbk hg4 (x1.out);have k8:=gbk hg4 (x2.out);have k9:=gbk hg4 (x3.out);have k10:=gbk hg4 (x4.out);have k11:=gbk hg4 (x5.out)
     (try simp at hd)
     (first | simp [hd] | simp)
     clear hd;go_wp2_with fail;exact ⟨rfl,rfl⟩
   intro f we hI hd;simp only [puts,dsts,Act.put,zB,zC,zA,zD,zE];obtain ⟨⟨go,e14,e15,hgo4,Bgo⟩,hgr⟩:=hI;have e14:f 14=.pointer (some ⟨go,0,none⟩):=e14;have e15:f 15=.bool true:=e15;rw [e14,e15];have GRe:=zH (gbT GRd.out hgr);have BTe:=zH (BTd.out.grow hgr);have BAe:=zH (BAd.out.grow hgr);have BBe:=zH (BBd.out.grow hgr);have BOe:=zH Bgo;have hgo9:wr.heap.size≤go:=by have:=GRd.out.size;omega
   have hgol:gt<go∧ga<go∧gb<go:=by have h1:=BTd.out.lt;have h2:=BAd.out.lt;have h3:=BBd.out.lt;omega
   clear hd e14 e15 hgr Bgo GRd BTd BAd BBd X0 X1 a0 a1 b0 b1 x0 x1 x2 x3 x4 x5;have ERR:=zH (errAt_el MIS.out.2.2.2.2.1);obtain ⟨D1,hD1⟩:∃z,(D0+errAt es (2*j)) % m.k.p=z:=⟨_,rfl⟩;obtain ⟨E1,hE1⟩:∃z,(E0+errAt es (2*j+1)) % m.k.p=z:=⟨_,rfl⟩;have HD1:=zH hD1;have HE1:=zH hE1;clear hD1 hE1;have x0:=zH (BOe.out.cell 0);simp only [List.getElem?_toArray,List.getElem?_cons_succ,List.getElem?_cons_zero] at x0;have ERp:=zH (ER.out.grow GRe.out);go_wp2_with fail
   refine Zg [.rd (.int .i64 m.k.p),.rd (.pointer (some ⟨go,0,none⟩)),.rd (.int .i64 D0),.rd (.slice R nr cr),.rd (.int .i64 j),.rd (.int .i64 (2*(j:Int))),.fl (isV (.int .i64 (errAt es (2*j)))),.fl (isV (.int .i64 D1)),.rd (.pointer (some ⟨go,0,none⟩)),.ch] (fun _=>False)
    [⟨[],fun _ w'=>we.drew.grownBy w' none⟩,
     ⟨[],fun _ w'=>Blk w' go 104 #[.int .i64 D1,.int .i64 E0]∧Chg (fun y=>y=go) we w'⟩]
    (by kernel_rfl) (by kernel_rfl) (by kernel_rfl) 1 (by kernel_rfl) ?_ (gbR _ _) rfl ?_ ?_
   ·have hst:Zn [⟨[],fun _ w'=>we.drew.grownBy w' none⟩,⟨[],fun _ w'=>Blk w' go 104 #[.int .i64 D1,.int .i64 E0]∧Chg (fun y=>y=go) we w'⟩]:=by
     refine Zm (fun l w1 w2 h hg=>gbT h hg) ?_;exact Zm (ZE fun l w1 w2 ⟨h1,h2⟩ hg=>⟨h1.grow hg,h2.trans (Chg.of hg (by simp))⟩) YO
    simp only [flOk,true_and,and_true];exact ⟨⟨Zb _,hst⟩,⟨Zb _,hst⟩⟩
   ·simp only [hopsK,hopK,Kd.next,and_true]
    refine ⟨?_, ?_, ?_, ?_, ?_, ?_, ?_, ?_, ?_, ?_⟩;rotate_left 6
    ·intro f w4 hG hd
     have hg4:=gbT (gbD (gbR we none)) (chgF hG);have hz4:=hg4.size
     (try simp at hd)
     (first | simp [hd] | simp)
     clear hd;rw [show (2*(j:Int))=((2*j:Nat):Int) by omega];go_wp2_with fail;refine (Vc R nr cr es (2*j) w4 (ERp.out.grow hg4) (by omega)).mono ?_;rintro e' w6 ⟨rfl,rfl⟩;go_wp2_with fail;exact ⟨_,rfl,rfl,gbR _ _⟩
    ·intro f w4 hG hd
     have hg4:=gbT (gbD (gbR we none)) (chgF hG);have hz4:=hg4.size
     (try simp at hd)
     try simp only [isV] at hd
     (first | simp [hd] | simp)
     clear hd;go_wp2_with fail;refine (Wz m.k.p D0 (errAt es (2*j)) w4 ED0.out (ERR.out _)).mono ?_;rintro e' w6 ⟨rfl,g6⟩;rw [HD1.out];have G6':=zH g6;clear g6;go_wp2_with fail;exact ⟨_,rfl,rfl,G6'.out⟩
    rotate_left 1
    ·intro f w4 hG hI hd
     have hg4:=gbT (gbD (gbR we none)) (chgF hG);have hz4:=hg4.size
     (try simp at hd)
     try simp only [isV] at hd
     have R4:=BOe.out.grow hg4;have f0:=R4.frozen 0;have b0:=R4.cell 0;simp at b0;have RS:=R4.set_ 0 (.int .i64 D1);have CH:=(Chg.of (S:=fun y=>y=go) hg4 (by simp)).trans (chgS w4 go 0 (.int .i64 D1));have RS:=zH RS;have CH:=zH CH
     (first | simp [hd] | simp)
     clear hd R4;go_wp2_with fail;exact ⟨rfl,.bool false,RS.out,CH.out⟩
    all_goals
     intro f w4 hG hd;have hg4:=gbT (gbD (gbR we none)) (chgF hG);have k0:=gbk hg4 (x0.out)
     (try simp at hd)
     (first | simp [hd] | simp)
     clear hd;go_wp2_with fail;exact ⟨rfl,rfl⟩
   intro f wf hI hd;simp only [puts,dsts,Act.put,zB,zC,zA,zD,zE];obtain ⟨hBq,hCq⟩:=hI;have BOf:=zH hBq;have BTf:=zH (BTe.out.chg hCq (by omega));have BAf:=zH (BAe.out.chg hCq (by omega));have BBf:=zH (BBe.out.chg hCq (by omega));have GRf:=zH (gbChg GRe.out hCq (fun y hy=>by subst hy;exact hgo9));clear hd hBq hCq x0 ERp BOe BTe BAe BBe GRe;have x0:=zH (BOf.out.cell 1);simp only [List.getElem?_toArray,List.getElem?_cons_succ,List.getElem?_cons_zero] at x0;have ERp:=zH (ER.out.grow GRf.out);go_wp2_with fail
   refine Zg [.rd (.int .i64 m.k.p),.rd (.pointer (some ⟨go,1,none⟩)),.rd (.int .i64 E0),.rd (.slice R nr cr),.rd (.int .i64 j),.rd (.int .i64 (2*(j:Int))),.rd (.int .i64 (2*(j:Int)+1)),.fl (isV (.int .i64 (errAt es (2*j+1)))),.fl (isV (.int .i64 E1)),.rd (.pointer (some ⟨go,1,none⟩)),.ch] (fun _=>False)
    [⟨[],fun _ w'=>wf.drew.grownBy w' none⟩,
     ⟨[],fun _ w'=>Blk w' go 104 #[.int .i64 D1,.int .i64 E1]∧Chg (fun y=>y=go) wf w'⟩]
    (by kernel_rfl) (by kernel_rfl) (by kernel_rfl) 1 (by kernel_rfl) ?_ (gbR _ _) rfl ?_ ?_
   ·have hst:Zn [⟨[],fun _ w'=>wf.drew.grownBy w' none⟩,⟨[],fun _ w'=>Blk w' go 104 #[.int .i64 D1,.int .i64 E1]∧Chg (fun y=>y=go) wf w'⟩]:=by
     refine Zm (fun l w1 w2 h hg=>gbT h hg) ?_;exact Zm (ZE fun l w1 w2 ⟨h1,h2⟩ hg=>⟨h1.grow hg,h2.trans (Chg.of hg (by simp))⟩) YO
    simp only [flOk,true_and,and_true];exact ⟨⟨Zb _,hst⟩,⟨Zb _,hst⟩⟩
   ·simp only [hopsK,hopK,Kd.next,and_true]
    refine ⟨?_, ?_, ?_, ?_, ?_, ?_, ?_, ?_, ?_, ?_, ?_⟩;rotate_left 7
    ·intro f w4 hG hd
     have hg4:=gbT (gbD (gbR wf none)) (chgF hG);have hz4:=hg4.size
     (try simp at hd)
     (first | simp [hd] | simp)
     clear hd;rw [show (2*(j:Int)+1)=((2*j+1:Nat):Int) by omega];go_wp2_with fail;refine (Vc R nr cr es (2*j+1) w4 (ERp.out.grow hg4) (by omega)).mono ?_;rintro e' w6 ⟨rfl,rfl⟩;go_wp2_with fail;exact ⟨_,rfl,rfl,gbR _ _⟩
    ·intro f w4 hG hd
     have hg4:=gbT (gbD (gbR wf none)) (chgF hG);have hz4:=hg4.size
     (try simp at hd)
     try simp only [isV] at hd
     (first | simp [hd] | simp)
     clear hd;go_wp2_with fail;refine (Wz m.k.p E0 (errAt es (2*j+1)) w4 EE0.out (ERR.out _)).mono ?_;rintro e' w6 ⟨rfl,g6⟩;rw [HE1.out];have G6':=zH g6;clear g6;go_wp2_with fail;exact ⟨_,rfl,rfl,G6'.out⟩
    rotate_left 1
    ·intro f w4 hG hI hd
     have hg4:=gbT (gbD (gbR wf none)) (chgF hG);have hz4:=hg4.size
     (try simp at hd)
     try simp only [isV] at hd
     have R4:=BOf.out.grow hg4;have f0:=R4.frozen 1;have b0:=R4.cell 1;simp at b0;have RS:=R4.set_ 1 (.int .i64 E1);have CH:=(Chg.of (S:=fun y=>y=go) hg4 (by simp)).trans (chgS w4 go 1 (.int .i64 E1));have RS:=zH RS;have CH:=zH CH
     (first | simp [hd] | simp)
     clear hd R4;go_wp2_with fail;exact ⟨rfl,.bool false,RS.out,CH.out⟩
    all_goals
     intro f w4 hG hd;have hg4:=gbT (gbD (gbR wf none)) (chgF hG);have k0:=gbk hg4 (x0.out)
     (try simp at hd)
     (first | simp [hd] | simp)
     clear hd;go_wp2_with fail;exact ⟨rfl,rfl⟩
   intro f wg hI hd;simp only [puts,dsts,Act.put,zB,zC,zA,zD,zE];obtain ⟨hBq,hCq⟩:=hI;have BOg:=zH hBq;have BTg:=zH (BTf.out.chg hCq (by omega));have BAg:=zH (BAf.out.chg hCq (by omega));have BBg:=zH (BBf.out.chg hCq (by omega));have GRg:=zH (gbChg GRf.out hCq (fun y hy=>by subst hy;exact hgo9));clear hd hBq hCq x0 ERp BOf BTf BAf BBf GRf;have SGg:=SG.out.grow GRg.out;obtain ⟨OE,oe,F6,v6,f6,o6,m6,g6,lt6,up6⟩:=SGg.opn;have hggw:=SGg.ltg;have hggr:=SG.out.ltg;have FLT:=zH SG.out.lt;have v6:wg.cell? ⟨g,6,none⟩=some (.slice OE oj.length oe):=v6;have o6:(cints oj).own wg F6 (.slice OE oj.length oe):=o6;have hop:oj.length≤1048576+2*j:=by have:=HOL.out;have:=WM.out.op;omega
   obtain ⟨_,_,_,hF6,hrow6⟩:=Wk o6;have ROW:=zH (hrow6 0 (fun _ _=>Nat.zero_le _));have UP6:=zH up6;have HF6:=zH hF6;have M6:=zH m6;have LT6:=zH lt6;have V6:=zH v6;have Z6:=zH f6;have G6:=zH g6;have hgoS:∀y,(Value.slice OE oj.length oe).ownBlock=some y→y<wr.heap.size:=fun y hy=>FLT.out y (M6.out y (by rw [HF6.out,hy];simp));have HGOS:=zH hgoS;clear hrow6 up6 hF6 m6 lt6 o6 v6 f6 g6 SGg hgoS;go_wp2_with fail
   refine region_chainT [.rd (.pointer (some ⟨g,0,none⟩)),.rd (.pointer (some ⟨g,0,none⟩)),.rd (.pointer (some ⟨g,0,none⟩)),.rd (.pointer (some ⟨g,6,none⟩)),.rd (.slice OE oj.length oe),.rd (.pointer (some ⟨go,0,none⟩)),.rd (.int .i64 D1),.rd (.pointer (some ⟨go,1,none⟩)),.rd (.int .i64 E1),.ch,.ch,.rd (.pointer (some ⟨g,0,none⟩)),.rd (.pointer (some ⟨g,6,none⟩)),.ch] (fun y=>(Value.slice OE oj.length oe).ownBlock=some y)
    [⟨[],fun _ w'=>w'=wg.drew⟩,
     ⟨[97],fun l w'=>w'=wg.drew.alloc (.cells #[.int .i64 D1,.int .i64 E1] 3)∧l.getD 0 undef=.slice (some ⟨wg.drew.heap.size,0,none⟩) 2 2⟩,
     ⟨[98],fun l w'=>Chg (fun y=>y∈F6) wg.drew w'∧∃F,(cints (oj ++ [D1,E1])).own w' F (l.getD 0 undef)∧∀y∈F,y∈F6∨wg.heap.size≤y⟩,
     ⟨[],fun _ w'=>((∃F',SOF 58 (Zd ⟨m.k,m.c,vj,oj ++ [D1,E1],m.rd,bj⟩) g F' w'∧(∀x∈F',x∈F∨wg.heap.size≤x))∧∃B' n' s',Blk w' g 58 #[.int .i64 m.k.p,.slice A m.k.al.length a,.int .i64 m.c.p,.slice (some ⟨sb2,so2,none⟩) m.c.st.length b,.slice C m.c.outs.length c,.slice (some ⟨vb,vo,none⟩) vj.length d,.slice B' n' s',.int .i64 m.rd,.bool bj])∧Chg (fun y=>y∈F6∨y=g) wg w'⟩]
    (by kernel_rfl) (by kernel_rfl) (by kernel_rfl) 3 (by kernel_rfl) (by simp only [flOk,and_true]) rfl rfl ?_ ?_
   ·simp only [hopsK,hopK,Kd.next,and_true]
    refine ⟨?_, ?_, ?_, ?_, ?_, ?_, ?_, ?_, ?_, ?_, ?_, ?_, ?_, ?_⟩;rotate_left 4
    ·intro f w4 hG hd
     have b6:=hG.cell (gbk (gbD (gbR wg none)) V6.out) (by simp;omega) (fun e=>G6.out (by rw [HF6.out,e];simp))
     (try simp at hd)
     (first | simp [hd] | simp)
     clear hd;go_wp2_with fail;exact ⟨rfl,rfl⟩
    rotate_left 1
    ·intro f w4 hG hd
     have b6:=((BOg.out.grow (gbD (gbR wg none))).chg hG (fun e=>by have:=HGOS.out _ e;omega)).cell 0;simp only [List.getElem?_toArray,List.getElem?_cons_succ,List.getElem?_cons_zero] at b6
     (try simp at hd)
     (first | simp [hd] | simp)
     clear hd;go_wp2_with fail;exact ⟨rfl,rfl⟩
    rotate_left 1
    ·intro f w4 hG hd
     have b6:=((BOg.out.grow (gbD (gbR wg none))).chg hG (fun e=>by have:=HGOS.out _ e;omega)).cell 1;simp only [List.getElem?_toArray,List.getElem?_cons_succ,List.getElem?_cons_zero] at b6
     (try simp at hd)
     (first | simp [hd] | simp)
     clear hd;go_wp2_with fail;exact ⟨rfl,rfl⟩
    ·intro f w4 hG hI hd
     have hI:w4=wg.drew:=hI;subst hI
     (try simp at hd)
     (first | simp [hd] | simp)
     clear hd;go_wp2_with fail;exact ⟨_,rfl,⟨rfl,rfl⟩,⟨Chg.of (gbA (gbR _ none) _) (by simp),by simp [keepsC,dstAt]⟩⟩
    ·intro f w4 hG hI hd
     obtain ⟨rfl,e97⟩:=hI;have e97:f 97=.slice (some ⟨wg.drew.heap.size,0,none⟩) 2 2:=e97
     (try simp at hd)
     simp [puts,dsts,Act.put,hd,e97];refine Wv (wg.drew.alloc (.cells #[.int .i64 D1,.int .i64 E1] 3)) YF rfl (.tmp 92) (.tmp 97) rfl 0 (.slice OE oj.length oe) oj.length _ (Zu ROW.out (gbT (gbD (gbR _ _)) (gbA (gbR _ _) _))) rfl ⟨wg.drew.heap.size,0,none⟩ 2 2 [.int .i64 D1,.int .i64 E1] rfl rfl (lit2_cells _ _ _ _) (by simp [Value.oneCell']) (by unfold maxLen;omega) (by omega) (Nat.zero_le _) ?_;intro v' w9 o9 g9 k9;have O9':w9.ownsRow 0 3 1 v' (oj.length+2) ((oj ++ [D1,E1]).map (Value.int .i64)):=by rw [List.map_append];exact o9
     have O9:=zH O9';have G9:=zH g9;have N9:=zH k9;clear O9' o9 g9 k9;obtain ⟨A6,c6,rfl,_⟩:=Ye O9.out;go_wp2_with fail;refine ⟨_,rfl,⟨(Chg.of (gbA (gbR wg.drew none) _) (by simp)).trans (Chg.of G9.out (fun y hy=>by rw [HF6.out,hy];simp)),(Value.slice A6 (oj.length+2) c6).ownBlock.toList,Yi O9.out,fun x hx => ?_⟩,⟨Chg.of G9.out (fun y hy=>hy),by simp [keepsC,dstAt]⟩⟩
     rcases N9.out x (by simpa using hx) with h6 | h6
     ·exact .inl (by rw [HF6.out,← h6];simp)
     ·exact .inr (by simp at h6;omega)
    rotate_left 2
    ·intro f w4 hG hI hd
     obtain ⟨hch,F',o6,l6⟩:=hI;have o6:(cints (oj ++ [D1,E1])).own w4 F' (f 98):=o6;obtain ⟨B',n',s',e98⟩:=ZJ o6;rw [e98] at o6;have hch2:Chg (fun y=>y∈F6) wg w4:=(Chg.of (gbD (gbR wg none)) (by simp)).trans hch;have b6:=hch2.cell V6.out hggw G6.out;have q6:=hch2.frozen Z6.out hggw G6.out;obtain ⟨F'',s1,s2⟩:=UP6.out w4 _ _ _ hch2 o6 l6;have S1:=zH s1;have S2:=zH s2;have SB:=zH (((HB.out.grow GRg.out).chg hch2 G6.out).set_ 6 (.slice B' n' s'));have CH:=zH ((hch2.mono (T:=fun y=>y∈F6∨y=g) (fun y hy=>.inl hy)).trans ((chgS w4 g 6 (.slice B' n' s')).mono (fun y hy=>.inr hy)));clear s1 s2 hch2 hch o6 l6
     (try simp at hd)
     simp [puts,dsts,Act.put,hd,e98];clear hd;go_wp2_with fail;exact ⟨rfl,.bool false,⟨⟨F'',S1.out,S2.out⟩,_,_,_,SB.out⟩,CH.out⟩
    all_goals
     intro f w4 hG hd
     (try simp at hd)
     (first | simp [hd] | simp)
     clear hd;go_wp2_with fail;exact ⟨rfl,rfl⟩
   intro f wh hI hd;simp only [puts,dsts,Act.put,zB,zC,zA,zD,zE];obtain ⟨⟨⟨Fh,hSh,hFh⟩,Eh,neh,ceh,hBh⟩,hCh⟩:=hI;have SGh:=zH hSh;have HFh:=zH hFh;have hb1:=BTg.out.lt;have CHh:=zH hCh;have BTh:=zH (BTg.out.chg hCh (fun e=>by rcases e with h6 | h6;have:=FLT.out _ (M6.out _ h6);omega;omega));have BAh:=zH (BAg.out.chg hCh (fun e=>by rcases e with h6 | h6;have:=FLT.out _ (M6.out _ h6);omega;omega));have BBh:=zH (BBg.out.chg hCh (fun e=>by rcases e with h6 | h6;have:=FLT.out _ (M6.out _ h6);omega;omega));have BOh:=zH (BOg.out.chg hCh (fun e=>by rcases e with h6 | h6;have:=FLT.out _ (M6.out _ h6);omega;omega));clear hd hSh hFh hCh hb1 BTg BAg BBg BOg UP6 V6 Z6;have hBh_:=zH hBh;have hAR:=(SGh.out.is (us:=[_,_,_,_,_,_,_,_,_]) hBh).rd;obtain ⟨_,_,_,_,_,hRh⟩:=EngR.of (m:=⟨m.k,m.c,vj,oj ++ [D1,E1],m.rd,bj⟩) hAR;have KYh:=zH (show AggR wh (ckeys m.k) (.agg #[.int .i64 m.k.p,.slice A m.k.al.length a]) from hRh.ky);obtain ⟨VD,vd,F5,v5,f5,o5,m5,g5,lt5,_,up5⟩:=(SG.out.grow GRg.out).val;have v5:wg.cell? ⟨g,5,none⟩=some (.slice VD vj.length vd):=v5;have c5w:=HB.out.cell 5;simp only [List.getElem?_toArray,List.getElem?_cons_succ,List.getElem?_cons_zero] at c5w;have hvd:=v5.symm.trans (gbk GRg.out c5w);injection hvd with hvd;injection hvd with hvd1 _ hvd2;subst hvd1;subst hvd2;have o5:(cauths vj).own wg F5 (.slice (some ⟨vb,vo,none⟩) vj.length vd):=o5;obtain ⟨_,hrow5,_,_⟩:=Vi o5
   have hvlt:vb<wg.heap.size:=by
    have:=Nat.lt_of_lt_of_le HVB.out GRg.out.size;exact this
   have hvbn:¬(vb∈F6∨vb=g):=by
    have hob:(Value.slice (some ⟨vb,vo,none⟩) vj.length vd).ownBlock=some vb:=rfl;obtain ⟨cur2,hb2,_⟩:=own_blk hrow5 hob;rintro (h6 | h6)
    ·rw [HF6.out] at h6
     obtain ⟨cur,hb1,_⟩:=own_blk ROW.out (show (Value.slice OE oj.length oe).ownBlock=some vb by simpa using h6);have h7:=Option.some.inj (hb1.symm.trans hb2);injection h7 with _ h7 _;exact absurd h7 (by decide)
    ·have hb1:=HB.out.grow GRg.out
     rw [← h6] at hb1;have h7:=Option.some.inj (hb1.symm.trans hb2);injection h7 with _ h7 _;exact absurd h7 (by decide)
   obtain ⟨vb1,vo1,x1,B1',d1',C1',f1',hDe1,_,hx1,q01,q11,hX1⟩:=ZL hRh.va (k:=ya) (by show ya<vj.length;omega);injection hDe1 with hDe1;injection hDe1 with h9 h8 _;subst h9;subst h8;have hx1:vj[ya]?=some x1:=hx1;rw [HVA.out] at hx1;injection hx1 with hx1;subst hx1;have u0:=CHh.out.cell (gbk GRg.out A0.out) hvlt hvbn;have u1:=CHh.out.cell (gbk GRg.out A1.out) hvlt hvbn;have u0:=u0.symm.trans q01;have u1:=u1.symm.trans q11;injection u0 with u0;injection u0 with u01 _ u02;injection u1 with u1;injection u1 with u11 _ u12;subst u01;subst u02;subst u11;subst u12;have HXAh:=zH hX1;clear q01 q11 hX1;obtain ⟨vb1,vo1,x1,B1',d1',C1',f1',hDe1,_,hx1,q01,q11,hX1⟩:=ZL hRh.va (k:=zb) (by show zb<vj.length;omega);injection hDe1 with hDe1;injection hDe1 with h9 h8 _;subst h9;subst h8;have hx1:vj[zb]?=some x1:=hx1;rw [HVZ.out] at hx1;injection hx1 with hx1;subst hx1;have u0:=CHh.out.cell (gbk GRg.out B0.out) hvlt hvbn;have u1:=CHh.out.cell (gbk GRg.out B1.out) hvlt hvbn;have u0:=u0.symm.trans q01;have u1:=u1.symm.trans q11;injection u0 with u0;injection u0 with u01 _ u02;injection u1 with u1;injection u1 with u11 _ u12;subst u01;subst u02;subst u11;subst u12;have HXBh:=zH hX1;clear q01 q11 hX1;have HDT:=zH (DT.out (by omega) tb to_ rfl)
   have htbn:¬(tb∈F6∨tb=g):=by
    obtain ⟨h1,h2,h3⟩:=HDT.out;rintro (h6 | h6)
    ·rcases HF.out tb (M6.out tb h6) with h7 | h7
     ·exact h2 h7
     ·omega
    ·exact h1 h6
   have hcw:=HC.out.size
   have htlt:tb<wg.heap.size:=by
    have h3:=HDT.out.2.2;have:=GRg.out.size;omega
   have HCh:Hid (Chg (fun y=>y=g∨y∈F0) w0 wh):=zH ((HC.out.trans (Chg.of GRg.out (by simp))).join CHh.out (fun y hy=>by
    rcases hy with h6 | h6
    ·rcases HF.out y (M6.out y h6) with h7 | h7
     ·exact .inl (.inr h7)
     ·exact .inr h7
    ·exact .inl (.inl h6)))
   obtain ⟨tb1,to1,U0,U1,U2,U3,U4,U5,v0,v1,v2,v3,v4,v5',hTe,_,t0,t1,t2,t3,t4,t5,hT1⟩:=Yd (DS.out _ HCh.out).2.1 (k:=j) (by omega);injection hTe with hTe;injection hTe with h9 h8 _;subst h9;subst h8;rw [HTX.out] at t0 t1 t2 t3 t4 t5 hT1;have u0:=(CHh.out.cell (gbk GRg.out TT0.out) htlt htbn).symm.trans t0;injection u0 with u0;injection u0 with ua0 _ ub0;subst ua0;subst ub0;have u1:=(CHh.out.cell (gbk GRg.out TT1.out) htlt htbn).symm.trans t1;injection u1 with u1;injection u1 with ua1 _ ub1;subst ua1;subst ub1;have u2:=(CHh.out.cell (gbk GRg.out TT2.out) htlt htbn).symm.trans t2;injection u2 with u2;injection u2 with ua2 _ ub2;subst ua2;subst ub2;have u3:=(CHh.out.cell (gbk GRg.out TT3.out) htlt htbn).symm.trans t3;injection u3 with u3;injection u3 with ua3 _ ub3;subst ua3;subst ub3;have u4:=(CHh.out.cell (gbk GRg.out TT4.out) htlt htbn).symm.trans t4;injection u4 with u4;injection u4 with ua4 _ ub4;subst ua4;subst ub4;have u5:=(CHh.out.cell (gbk GRg.out TT5.out) htlt htbn).symm.trans t5;injection u5 with u5;injection u5 with ua5 _ ub5;subst ua5;subst ub5;have HTh:=zH hT1;have hv0:vb=vb:=rfl;clear t0 t1 t2 t3 t4 t5 hT1 hrow5 hAR hRh hBh hv0 HXA HXB KY HT;have QQA:Hid (awf (minusA m.k xa tx.a)):=zH (YY WXA.out);have QQB:Hid (awf (minusA m.k xb tx.b)):=zH (YY WXB.out);have HKB:=zH (hBh_.out.cell 0);have HKC:=zH (hBh_.out.cell 1);have dx0:=zH (BOh.out.cell 0);have ex0:=zH (BOh.out.cell 1);have ax0:=zH (BAh.out.cell 0);have ax1:=zH (BAh.out.cell 1);have bx0:=zH (BBh.out.cell 0);have bx1:=zH (BBh.out.cell 1);have tx0:=zH (BTh.out.cell 0);have tx1:=zH (BTh.out.cell 1);have tx2:=zH (BTh.out.cell 2);have tx3:=zH (BTh.out.cell 3);simp only [List.getElem?_toArray,List.getElem?_cons_succ,List.getElem?_cons_zero] at HKB HKC dx0 ex0 ax0 ax1 bx0 bx1 tx0 tx1 tx2 tx3;have HBD:Hid (rBad m tx D1 E1 i=(!Yb m.k D1 (minusA m.k xa tx.a)||!Yb m.k E1 (minusA m.k xb tx.b))):=by unfold Hid rBad;rw [HGA.out,HGB.out]
   go_wp2_with fail;refine sreg12_c m.k xa xb tx D1 E1 _ _ _ _ _ _ _ _ _ _ _ _ _ _ _ _ _ _ _ _ _ _ _ _ _ _ _ _ wh HKB.out HKC.out BTh.out BAh.out BBh.out BOh.out KYh.out HXAh.out HXBh.out HTh.out WM.out.k WXA.out WXB.out WX.out HFL.out _ _ _ _ _ _ _ _ _ _ _ _ _ _ _ _ _ _ _ _ _ _ _ _ _ _ _ _ _ _ _ _ _ _ _ _ _ _ _ _ _ _ _ _ _ _ _ _ _ _ _ _ _ _ _ _ _ _ _ _ _ _ _ _ _ _ _ _ _ _ _ _ _ _ _ _ _ _ _ _ _ _ _ _ _ _ _ _ _ _ _ _ _ _ _ _ _ _ _ _ _ _ _ _ _ _ _ _ _ _ _ _ _ _ _ _ _ _ _ _ _ _ _ _ _ _ _ _ _ _ _ _ _ _ _ _ _ _ _ _ _ _ _ _ _ _ _ _ _ _ _ _ _ _ _ _ _ _ _ _ ?_;intro v101 v102 v103 v104 v105 v106 v107 v108 v109 v110 v111 v112 v113 v114 v115 v116 v117 v118 v119 v120 v121 v122 v123 v124 v125 v126 v127 v128 v129 v130 v131 v132 v133 wi gi;have HBD:Hid (rBad m tx D1 E1 i=rb17 m.k xa xb tx D1 E1):=by unfold Hid rBad rb17;rw [HGA.out,HGB.out]
   have HFW0:Hid (∀x∈Fh,x∈F0∨w0.heap.size≤x):=zH (fun x hx=>by
    rcases HFh.out x hx with h6 | h6
    ·exact HF.out x h6
    ·have:=GRg.out.size;exact .inr (by omega))
   have CELLH:Hid (∀(o:Nat) (v:Value),wr.cell? ⟨tb,o,none⟩=some v→wi.cell? ⟨tb,o,none⟩=some v):=zH (fun o v h=>gbk gi (CHh.out.cell (gbk GRg.out h) htlt htbn));have SGI:=zH (SGh.out.grow gi);have BTI:=zH (BTh.out.grow gi);have BOI:=zH (BOh.out.grow gi);have HCI:=zH (HCh.out.trans (Chg.of gi (by simp)));have HTL:=zH htlt;have HTN:=zH htbn;have hsz:wg.heap.size≤wi.heap.size:=Nat.le_trans CHh.out.size gi.size;have hszr:wr.heap.size≤wg.heap.size:=GRg.out.size;have hszw:w0.heap.size≤wg.heap.size:=by have:=HC.out.size;omega
   clear gi SGh BTh BAh BBh BOh HTh HXAh HXBh KYh HCh HKB HKC dx0 ex0 ax0 ax1 bx0 bx1 tx0 tx1 tx2 tx3 htlt htbn HFh
   cases hbd:rb17 m.k xa xb tx D1 E1
   focus
    rw [hbd] at HBD;clear hbd;have SGW:=SGI;have BTW:=BTI;have BOW:=BOI;have HCW:=HCI;have HFW:=HFW0;have CELLW:=CELLH;clear SGI BTI BOI HCI HFW0 CELLH;go_wp2_with fail
   rotate_left
   focus
    rw [hbd] at HBD;clear hbd;obtain ⟨A7,B7,C7,D7,E7,a7,b7,c7,d7,e7,hB7,_⟩:=SGI.out.eng;have b8:=hB7.cell 8;have f8:=hB7.frozen 8;simp only [List.getElem?_toArray,List.getElem?_cons_succ,List.getElem?_cons_zero] at b8;obtain ⟨Fh,hSy,hFy⟩:=SGI.out.flag true;have SY':=zH hSy;have HFY:=zH hFy;have CY:=zH (chgS wi g 8 (.bool true));clear hB7 hSy hFy;go_wp2_with fail;clear b8 f8;obtain ⟨wi,hwy⟩:∃x,wi.setCell ⟨g,8,none⟩ (.bool true)=x:=⟨_,rfl⟩;rw [hwy] at SY' CY;rw [hwy];clear hwy;have SGW:=SY';have hgtl:=BTI.out.lt;have hgol:=BOI.out.lt;have BTW:=zH (BTI.out.chg CY.out (by omega));have BOW:=zH (BOI.out.chg CY.out (by omega));have HCW:=zH (HCI.out.trans (CY.out.mono (fun y hy=>.inl hy)))
    have HFW:Hid (∀x∈Fh,x∈F0∨w0.heap.size≤x):=zH (fun x hx=>by
     rcases HFY.out x hx with h6 | h6
     ·exact HFW0.out x h6
     ·exact .inr (by omega))
    have CELLW:Hid (∀(o:Nat) (v:Value),wr.cell? ⟨tb,o,none⟩=some v→wi.cell? ⟨tb,o,none⟩=some v):=zH (fun o v h=>CY.out.cell (CELLH.out o v h) (by have:=HTL.out;omega) (fun e=>HTN.out (.inr e)));clear SGI BTI BOI HCI HFW0 CELLH SY' CY HFY
   rotate_left
   all_goals
    obtain ⟨VW,vw,F5w,v5w,f5w,o5w,m5w,g5w,lt5w,_,up5w⟩:=SGW.out.val;have v5w:wi.cell? ⟨g,5,none⟩=some (.slice VW vj.length vw):=v5w;have o5w:(cauths vj).own wi F5w (.slice VW vj.length vw):=o5w;have hiv:i<vj.length:=by have:=HVL.out;have:=OKB.out.2.2.2.1;omega
    obtain ⟨gv,rfl,hgv⟩:=XX o5w (by omega);obtain ⟨Aw,Bw,Cw,Dw,Ew,aw,bw,cw,dw,ew,hBw,hRw⟩:=SGW.out.eng;have KYw:AggR wi (ckeys m.k) (.agg #[.int .i64 m.k.p,.slice Aw m.k.al.length aw]):=hRw.ky;have kw0:=hBw.cell 0;have kw1:=hBw.cell 1;simp only [List.getElem?_toArray,List.getElem?_cons_succ,List.getElem?_cons_zero] at kw0 kw1;obtain ⟨ISw,TRw,_⟩:=DS.out _ HCW.out;obtain ⟨sb1,so1,hse,_,hsc1⟩:=ISw.at_ (by omega);injection hse with hse;injection hse with h9 h8 _;subst h9;subst h8;have s9w:=hsc1 j hlt;rw [J2.out] at s9w;have ED1:elemB m.k.p D1=true:=by rw [← HD1.out];exact Yr HFL.out _
    have EE1:elemB m.k.p E1=true:=by rw [← HE1.out];exact Yr HFL.out _
    obtain ⟨tb1,to1,U0,U1,U2,U3,U4,U5,v0,v1,v2,v3,v4,v5',hTe,_,t0,t1,t2,t3,t4,t5,hT1⟩:=Yd TRw (k:=j) (by omega);injection hTe with hTe;injection hTe with h9 h8 _;subst h9;subst h8;rw [HTX.out] at t0 t1 t2 t3 t4 t5 hT1;have u0:=(CELLW.out _ _ TT0.out).symm.trans t0;injection u0 with u0;injection u0 with ua0 _ ub0;subst ua0;subst ub0;have u1:=(CELLW.out _ _ TT1.out).symm.trans t1;injection u1 with u1;injection u1 with ua1 _ ub1;subst ua1;subst ub1;have u2:=(CELLW.out _ _ TT2.out).symm.trans t2;injection u2 with u2;injection u2 with ua2 _ ub2;subst ua2;subst ub2;have u3:=(CELLW.out _ _ TT3.out).symm.trans t3;injection u3 with u3;injection u3 with ua3 _ ub3;subst ua3;subst ub3;have u4:=(CELLW.out _ _ TT4.out).symm.trans t4;injection u4 with u4;injection u4 with ua4 _ ub4;subst ua4;subst ub4;have u5:=(CELLW.out _ _ TT5.out).symm.trans t5;injection u5 with u5;injection u5 with ua5 _ ub5;subst ua5;subst ub5;have UP:=zH up5w;have M5:=zH m5w;go_wp2_with fail;refine sreg14_c m.k vj tx D1 E1 Aw T0 T1 T2 T3 T4 T5 aw d0 d1 d2 d3 d4 d5 g gt go gv vw sb so ns cs j i F5w wi v5w kw0 kw1 BTW.out BOW.out s9w hlt hiv o5w lt5w hgv KYw hT1 WM.out.k WX.out HFX.out.1 HFX.out.2.1 HFX.out.2.2.1 ED1 EE1 _ _ _ _ _ _ _ _ _ _ _ _ _ _ _ _ _ _ _ _ _ _ _ _ _ _ _ _ _ _ _ _ _ _ _ _ _ _ _ _ _ _ _ _ _ _ _ _ _ _ _ _ _ _ _ _ _ _ _ _ _ _ _ _ _ _ _ _ _ _ _ _ _ _ _ _ _ _ _ _ _ _ _ _ _ _ _ _ _ _ _ _ _ _ _ _ _ _ _ _ _ _ _ _ _ _ _ _ _ _ _ _ _ _ _ _ _ _ _ _ _ _ _ _ _ _ _ _ _ _ _ _ _ _ _ _ _ _ _ _ _ _ _ _ _ _ _ _ _ _ _ _ _ _ _ _ _ _ _ _ ?_;intro v138 v139 v140 v141 v142 v143 v144 v145 v146 v147 v148 v149 v150 v151 v152 v153 wf hr1 hch;obtain ⟨F5',r1,r2⟩:=hr1;obtain ⟨F'',h1,h2⟩:=UP.out _ _ F5' hch (by have h8:=r1;exact h8) r2
    have HNEXT:Hid (Zf m ts es (mulsOf m) (j+1)=⟨m.k,m.c,vj.set i (Zw m.k tx D1 E1),oj ++ [D1,E1],m.rd,bj||rBad m tx D1 E1 i⟩):=by
     unfold Hid;have e1:rD m tx (errAt es (2*j)) i=D1:=by unfold rD;rw [HGA.out,HGB.out,HD0.out,HD1.out]
     have e2:rE m tx (errAt es (2*j+1)) i=E1:=by unfold rE;rw [HGA.out,HGB.out,HE0.out,HE1.out]
     rw [Zf,HTX.out,J2.out,Int.toNat_natCast,e1,e2];unfold mulStep;rw [HMJ.out]
    have hWl:=HCW.out.size;have L1:Hid (SOF 58 (Zd (Zf m ts es (mulsOf m) (j+1))) g F'' wf):=by rw [HNEXT.out,HBD.out];simp only [Bool.or_false,Bool.or_true];exact zH h1
    have L2:Hid (∀x∈F'',x∈F0∨w0.heap.size≤x):=zH (fun x hx=>by
     rcases h2 x hx with h6 | h6
     ·exact HFW.out x h6
     ·exact .inr (by omega))
    have L3:Hid (Chg (fun y=>y=g∨y∈F0) w0 wf):=zH (HCW.out.join hch (fun y hy=>by
     rcases HFW.out y (M5.out y hy) with h6 | h6
     ·exact .inl (.inr h6)
     ·exact .inr h6))
    clear h1 h2 hch r1 r2 v5w f5w o5w m5w g5w lt5w up5w hBw hRw ISw TRw hsc1 s9w t0 t1 t2 t3 t4 t5 hT1 kw0 kw1 KYw ED1 EE1 UP;go_wp2_with fail
    go_roundw
    case rel=>exact ⟨j+1,F'',by omega,by go_num,L1,L2,L3⟩
    case measure=>simp [intOf];omega
  ·have hjn:j=ns:=by omega
   subst hjn;have hlen:(mulsOf m).length=j:=LS.out
   have HAW:Hid (∀a∈vj,awf a):=by
    have h1:=Wi (es:=es) (ss:=mulsOf m) WM.out.vs WT.out j (by have:=MIS.out.2.2.2.1;rw [hlen] at this;exact this);rw [hmj] at h1;exact zH h1
   have HOV:Hid (∀a∈vj,okV m.k a=true):=by
    have h1:=Vk HMAY.out j (by omega);rw [hmj] at h1;exact zH h1
   have HRE:Hid (Xs m (Zf m ts es (mulsOf m) (mulsOf m).length)=⟨m.k,m.c,addsTo m.k m.c vj m.c.st.length,oj,m.rd+1,bj⟩):=by
    unfold Hid;rw [hlen,hmj];rfl
   have HRD:=zH (Vl OKB.out.2.2.2.2.1);have hv9:vj.length=m.c.st.length:=by rw [hvl];exact OKB.out.2.2.2.1
   have HV9:=zH hv9;clear hmj hvl hol hlen hv9;go_wp2_with fail;refine (specl28Adds_c ⟨m.k,m.c,vj,oj,m.rd,bj⟩ g F wr SG.out OKB.out.2.1 HV9.out WM.out.k HAW.out HOV.out).mono ?_;rintro e' wz ⟨rfl,Fz,hSz,hlz,hch⟩;have hSz:SOF 58 (Zd ⟨m.k,m.c,addsTo m.k m.c vj m.c.st.length,oj,m.rd,bj⟩) g Fz wz:=hSz;obtain ⟨A7,B7,C7,D7,E7,a7,b7',c7',d7,e7,hB7,_⟩:=hSz.eng;have z7:=hB7.cell 7;have y7:=hB7.frozen 7;simp only [List.getElem?_toArray,List.getElem?_cons_succ,List.getElem?_cons_zero] at z7;obtain ⟨Fy,hSy,hFy⟩:=hSz.round (m.rd+1);have SY:=zH hSy;have hrd1:=HRD.out.1;have hrd2:=HRD.out.2;have hc0:=HC.out.size;have hc1:=hch.size
   have HFY:Hid (∀x∈Fy,x∈F0∨w0.heap.size≤x):=zH (fun x hx=>by
    rcases hFy x hx with h6 | h6
    ·rcases hlz x h6 with h7 | h7
     ·exact HF.out x h7
     ·exact .inr (by omega)
    ·exact .inr (by omega))
   have HCY:=zH ((HC.out.join hch (fun y hy=>by
    rcases HF.out y hy with h6 | h6
    ·exact .inl (.inr h6)
    ·exact .inr h6)).trans ((chgS wz g 7 (.int .i64 (m.rd+1))).mono (fun y hy=>.inl hy)))
   clear hB7 hSz hlz hch hSy hFy hc0 hc1;go_wp2_with fail;refine bodyPost_end (results_none rfl _ _ _) rfl ?_;exact ⟨rfl,Fy,by rw [HRE.out];exact SY.out,HFY.out,HCY.out⟩
end Go.Proofs.YthaadgdeadbhkaaGreat
