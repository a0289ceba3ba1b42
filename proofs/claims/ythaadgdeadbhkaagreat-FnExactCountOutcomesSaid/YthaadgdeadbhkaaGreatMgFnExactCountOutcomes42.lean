/-
 EngineRun of the reference,where it runs (printed by wip/gen_srun.py).
-/
import Derived.Test.YthaadgdeadbhkaaGreatMgFnExactCountOutcomes41
open Go.RowKit
set_option linter.unusedVariables false
set_option linter.unusedSimpArgs false
namespace Go.Proofs.YthaadgdeadbhkaaGreat
attribute [local simp] puts dsts Act.put
theorem errAt_cut (es:List Int) (i:Nat) {a b:Nat} (h:b=a∨(es.length≤b∧es.length≤a)):errAt (es.drop b) i=errAt es (a+i):=by
 unfold errAt;rw [zF,zF,List.getElem?_drop]
 rcases h with rfl | ⟨h1,h2⟩
 ·rfl
 ·rw [List.getElem?_eq_none (by omega),List.getElem?_eq_none (by omega)]
theorem errs_drop {p:Int} {es:List Int} (h:elemsB p es=true) (a:Nat):elemsB p (es.drop a)=true:=by
 obtain ⟨hf,_,_,h1⟩:=ZI h;exact YZ hf fun z hz=>h1 z (List.mem_of_mem_drop hz)
theorem QE (e:EM) (ts:List TrM) (es1 es2 ss:List Int):∀j,(∀i,i<2*j→errAt es1 i=errAt es2 i)→Zl e ts es1 ss j=Zl e ts es2 ss j
 | 0,_=>rfl
 | j+1,h=>by
  rw [Zl,Zl,QE e ts es1 es2 ss j (fun i hi=>h i (by omega)),h (2*j) (by omega),h (2*j+1) (by omega)]
set_option maxHeartbeats 8000000 in
set_option maxRecDepth 100000 in
theorem Qs (k:KM) (c:AM) (P s a:Nat) (I R:Option Addr) (ci nr cr:Nat) (ins es:List Int) (kv cv:Value) (w0:World) (h:AggR w0 (ckeys k) kv) (hc:AggR w0 (carith c) cv) (hi:Ints w0 I 60 ins) (he:Ints w0 R nr es) (wk:kwf k) (wc:amwf c) (hf:Fit k c P ins) (hes:elemsB k.p es=true) (hs:s<4294967296) (ha:a≤900000) (hnr:nr≤1048576) (hcr:nr≤cr) :
  Calls Tryz.prog 9 #[kv,cv,.slice I 60 ci,.agg #[.int .i64 s,.int .i64 a],.slice R nr cr] w0 (OutJ (runAt k c P s ins es) w0):=by
 obtain ⟨KA,kc,rfl,_,_,_⟩:=ZG h;obtain ⟨u1,u2,rfl,c1,c2⟩:=Zt hc;obtain ⟨A1,n1,rfl,_,_,_⟩:=ZP (s:=3) (fun _=>rfl) (by omega) c1;obtain ⟨A2,n2,rfl,_,_,_⟩:=Zx c2;obtain ⟨wi,hw1⟩:∃y:World,((w0.alloc (.cells #[.int .i64 k.p,.slice KA k.al.length kc] 34)).alloc (.cells #[.int .i64 c.p,.slice A1 c.st.length n1,.slice A2 c.outs.length n2] 38)).alloc (.cells #[.int .i64 s,.int .i64 a] 41)=y:=⟨_,rfl⟩;have GB:Hid (w0.grownBy wi none):=by rw [← hw1];exact gbA (gbA (gbA (gbR _ _) _) _) _
 have z1:Hid (wi.heap.size=w0.heap.size+3):=by rw [← hw1];exact zH (by simp)
 have D0:Hid (Blk wi w0.heap.size 34 #[.int .i64 k.p,.slice KA k.al.length kc]):=by rw [← hw1];exact ((Blk.new w0 _ _).grow (gbA (gbR _ _) _)).grow (gbA (gbR _ _) _)
 have D1:Hid (Blk wi (w0.heap.size+1) 38 #[.int .i64 c.p,.slice A1 c.st.length n1,.slice A2 c.outs.length n2]):=by rw [← hw1];exact (Blk.new' _ _ _ _ (by simp)).grow (gbA (gbR _ _) _)
 have D2:Hid (Blk wi (w0.heap.size+1+1) 41 #[.int .i64 s,.int .i64 a]):=by rw [← hw1];exact Blk.new' _ _ _ _ (by simp)
 have HK:=zH (AggR.grow h GB.out);have HC:=zH (AggR.grow hc GB.out);have HI:=zH (hi.grow GB.out);have HE:=zH (he.grow GB.out);have WK:=zH wk;have WC:=zH wc;have FT:=zH hf;have EB:=zH hes;have KB:=zH hf.kb;have TB:=zH (Yw hs (show a≤1000000 by omega));have d9:¬(900000:Int)<(a:Int):=by omega
 have hkp1:=wk.1.1;have hkp2:=wk.1.2;obtain ⟨s1,hs1⟩:∃x,keyN s 9 1=x:=⟨_,rfl⟩;obtain ⟨s2,hs2⟩:∃x,keyN s 9 2=x:=⟨_,rfl⟩;have hs1l:s1<4294967296:=by rw [← hs1];exact Wf hs (by omega) (by omega)
 have hs2l:s2<4294967296:=by rw [← hs2];exact Wf hs (by omega) (by omega)
 have NB:=zH (newB_yes (s:=s1) hf hs1l);have HPN:=zH hf.pn;have HRA:Hid (runAt k c P s ins es=engAt k c P s1 s2 ins es (rounds c).toNat):=by unfold Hid runAt;rw [hs1,hs2]
 have HS1:=zH hs1;have HS2:=zH hs2;clear h hc hi he wk wc c1 c2 hes hf hs1 hs2
 go_enter Tryz.func9,Tryz.ntmps9
 go_wp2_with fail
 try rw [hw1]
 clear hw1;obtain ⟨w2,hw2⟩:∃w2,wi=w2:=⟨_,rfl⟩;subst hw2;have G2:=zH (gbR wi none);have B0:=D0;have B1:=D1;have B2:=D2;obtain ⟨m0,hm0⟩:∃m,engNew k c P s1 ins=m:=⟨_,rfl⟩;have HM0:=zH hm0;clear hm0;refine specrun1_c k c m0 true KA A1 A2 I kc n1 n2 60 ci w0.heap.size (w0.heap.size+1) (w0.heap.size+1+1) s a s1 wi D0.out D1.out D2.out (fun w4 _=>by rw [← HS1.out];exact Xb s a 1 w4 hs (by omega) (by omega)) (fun w4 hg=>((Vb k c P s1 0 I ci ins _ _ w4 (HK.out.grow hg) (HC.out.grow hg) (HI.out.grow hg) WK.out WC.out HPN.out NB.out).mono fun e w6 ⟨v6,h1,h2,h3⟩=>⟨v6,h1,by rw [← HM0.out];exact h2,h3⟩)) _ _ _ _ _ _ _ _ _ _ _ _ _ _ _ _ _ _ _ _ _ _ _ _ _ _ _ _ _ _ _ _ _ _ _ _ _ _ _ _ _ _ _ _ _ _ _ _ _ _ _ _ _ _ _ _ _ _ _ _ _ _ _ _ _ _ _ _ _ _ _ _ _ _ _ _ _ _ _ _ _ _ _ _ _ _ _ _ _ _ _ _ _ _ _ ?_;intro v21 v22 v23 v24 v25 v26 v27 v28 v29 w3 g12 hg12 hs12 hg3;have GZ3:=zH hg3;have y0:=(D2.out.grow hg3).cell 0;have y1:=(D2.out.grow hg3).cell 1;simp at y0 y1;have S12:=zH hs12;clear hs12 hg3;go_wp2_with fail;clear y0 y1;refine (XQ s a w3).mono ?_;rintro e w4 ⟨rfl,g4⟩;rw [TB.out,show decide ((900000:Int)<(a:Int))=false by simpa using d9];have GZ4:=zH (gbT GZ3.out g4);have S12a:=zH (S12.out.grow g4);have k0:=(D0.out.grow GZ4.out).cell 0;simp at k0;clear g4 S12 GZ3;go_wp2_with fail;clear k0;refine (ZQ k.p R nr cr es w4 (by omega) (HE.out.grow GZ4.out) (by omega)).mono ?_;rintro e w5 ⟨rfl,rfl⟩;rw [EB.out];have y0:=(D2.out.grow GZ4.out).cell 0;have y1:=(D2.out.grow GZ4.out).cell 1;simp at y0 y1;go_wp2_with fail;clear y0 y1;refine (Xb s a 2 w4 hs (by omega) (by omega)).mono ?_;rintro e w5 ⟨rfl,g4⟩;rw [HS2.out];have G4:=zH (gbT GZ4.out g4);have S12':=zH (S12a.out.grow g4);have hz43:=G4.out.size;clear g4 S12a GZ4;go_wp2_with fail;obtain ⟨g14,hg14⟩:∃x,w5.heap.size=x:=⟨_,rfl⟩;obtain ⟨w6,hw6⟩:∃x:World,w5.alloc (.cells #[.int .i64 s2,.int .i64 0] 41)=x:=⟨_,rfl⟩;have D14:Hid (Blk w6 g14 41 #[.int .i64 s2,.int .i64 0]):=by rw [← hw6,← hg14];exact zH (Blk.new _ _ _)
 have S12:Hid (sofF wi.heap.size 58 (Zf m0) g12 w6):=by rw [← hw6];exact zH (S12'.out.grow (gbA (gbR _ _) _))
 have G6:Hid (wi.grownBy w6 none):=by rw [← hw6];exact zH (gbA G4.out _)
 have hg14l:wi.heap.size≤g14:=by omega
 rw [hw6]
 try rw [hg14]
 have hne:g12≠g14:=fun e=>by
  obtain ⟨F,h1,_⟩:=S12'.out;have:=h1.ltg;omega
 clear hw6 hg14 G4 S12' hz43
 go_loopw [15] (fun u wr=>∃(r:Nat) (F:List Nat),(r:Int)≤rounds c∧u=.int .i64 ((2*totM c r:Nat):Int)∧Hid (r=0∨(engAt k c P s1 s2 ins es (r - 1)).bad=false)∧Hid (SOF 58 (Zf (engAt k c P s1 s2 ins es r)) g12 F wr)∧Hid (Blk wr g14 41 #[.int .i64 s2,.int .i64 ((totM c r*trW k:Nat):Int)])∧Hid (wi.grownBy wr none)∧Hid (∀x∈F,wi.heap.size≤x)) (fun u _=>120 - (intOf u).toNat)
 case atStart =>
  obtain ⟨F,h1,h2⟩:=S12.out;exact ⟨0,F,(Wl c).1,by rw [UR];rfl,zH (.inl rfl),by rw [engAt,HM0.out];exact zH h1,by rw [UR,Nat.zero_mul];exact D14,G6,zH h2⟩
 case round =>
  clear S12 D14 G6;obtain ⟨r,F,hr,rfl,HP,SG,TG,G6,HFL⟩:=hrel;have hat:=Kh (s1:=s1) (s2:=s2) FT.out EB.out r hr HP.out;have hwf:=ewf_run (s1:=s1) (s2:=s2) FT.out EB.out WK.out WC.out r hr HP.out;obtain ⟨m,hm⟩:∃m,engAt k c P s1 s2 ins es r=m:=⟨_,rfl⟩;rw [hm] at hat hwf SG;have hmrd:m.rd=(r:Int):=hat.rd;have HM:=zH hm;have AT:=zH hat;have WM:=zH hwf.1;clear hm hat hwf;obtain ⟨A9,B9,C9,D9,E9,a9,b9,c9,d9',e9,hB9,hR9⟩:=SOF.eng SG.out;have hrr:=Wl c;have v7:=hB9.cell 7;have v8:=hB9.cell 8;have x0:=(B1.out.grow G6.out).cell 0;have x1:=(B1.out.grow G6.out).cell 1;have x2:=(B1.out.grow G6.out).cell 2;simp only [List.getElem?_toArray,List.getElem?_cons_succ,List.getElem?_cons_zero] at v7 v8 x0 x1 x2;rw [hmrd] at v7;have V7:=zH v7;have V8:=zH v8;have X0:=zH x0;have X1:=zH x1;have X2:=zH x2;obtain ⟨Rd,hRd⟩:∃x,rounds c=x:=⟨_,rfl⟩;have HRD:=zH hRd;rw [hRd] at hr hrr;clear v7 v8 x0 x1 x2 hRd hmrd
  by_cases hlt:(r:Int)<Rd
  ·cases hbad:m.bad with
   | true =>
    have HFIN:Hid (engAt k c P s1 s2 ins es (rounds c).toNat=m):=by
     have:=Ul (k:=k) (c:=c) (P:=P) (s1:=s1) (s2:=s2) (ins:=ins) (es:=es) (r:=r) (by rw [HM.out];exact hbad) ((rounds c).toNat - r);rw [HRD.out] at this ⊢;rw [show r+(Rd.toNat - r)=Rd.toNat by omega,HM.out] at this;exact this
    rw [hbad] at V8;clear hbad;go_wp2_with fail;refine Zv [isV (.pointer (some ⟨g12,7,none⟩)),isV (.int .i64 r),isV (.agg #[.int .i64 c.p,.slice A1 c.st.length n1,.slice A2 c.outs.length n2]),isV (.int .i64 Rd),isV (.bool true),isV (.bool true),isV (.pointer (some ⟨g12,8,none⟩)),isV (.bool true),isV (.bool false),isV (.bool false)] (by kernel_rfl) (by kernel_rfl) (by kernel_rfl) (by simp [ZM,Zb]) ?_ ?_
    ·simp only [hops,and_true]
     refine ⟨?_, ?_, ?_, ?_, ?_, ?_, ?_, ?_, ?_, ?_⟩;rotate_left 3
     ·intro f w1 hG hd
      have hg4:=gbT (gbD (gbR wr none)) hG;simp [deps,tAt,isV] at hd
      first | simp [hd] | simp
      clear hd;go_wp2_with fail;refine (Wx c _ w1 (HC.out.grow (gbT (gbR _ _) (gbT G6.out hg4))) WC.out.wf).mono ?_;rintro e w6 ⟨rfl,hw⟩;rw [HRD.out];go_wp2_with fail;exact ⟨_,rfl,by first | with_reducible exact gbR _ _ | exact hw,by simp [tAt,isV]⟩
     all_goals
      intro f w1 hG hd;have hg4:=gbT (gbD (gbR wr none)) hG;have k0:=gbk hg4 (V7.out);have k1:=gbk hg4 (X0.out);have k2:=gbk hg4 (X1.out);have k3:=gbk hg4 (X2.out);have k4:=gbk hg4 (V8.out);simp [deps,tAt,isV] at hd
      first | simp [hd] | simp
      clear hd;go_wp2_with fail;exact ⟨_,rfl,by with_reducible exact gbR _ _,by simp [tAt,isV]⟩
    intro f w5 hG hd;simp [knows,tAt,isV] at hd;simp only [puts,dsts,Act.put,hd,zB,zC,zA,zD,zE];clear hd;have g5:=gbT (gbD (gbR wr none)) hG;clear hG;have G7:=zH (gbT G6.out g5);obtain ⟨c0,c1,c2,c3,c4,c5,c6,c7,c8⟩:=(hB9.grow g5).c9;have AL:=zH (hR9.al9.grow g5);have GW7:=zH (gbT GB.out G7.out);have hz7:=GW7.out.size;clear g5 hB9 hR9;go_wp2_with fail;clear c0 c1 c2 c3 c4 c5 c6 c7 c8;refine (Ws m _ w5 AL.out WM.out).mono ?_;rintro e' w9 ⟨V,rfl,o9,g9⟩;obtain ⟨AV,cV,rfl,_,_⟩:=ZB o9;have O9:=zH (ZE o9 hz7);have G9:=zH (gbT GW7.out g9);clear o9 g9;go_wp2_with fail;refine bodyPost_ret (v:=.tuple #[.slice AV (outR m).length cV,.bool (outB m)]) (by simp [results,Tryz.results9]) rfl ?_;rw [HRA.out,HFIN.out];exact ⟨_,rfl,O9.out,G9.out⟩
   | false =>
    rw [hbad] at V8;have HBD:=zH hbad;clear hbad;go_wp2_with fail;refine Zv [isV (.pointer (some ⟨g12,7,none⟩)),isV (.int .i64 r),isV (.agg #[.int .i64 c.p,.slice A1 c.st.length n1,.slice A2 c.outs.length n2]),isV (.int .i64 Rd),isV (.bool true),isV (.bool true),isV (.pointer (some ⟨g12,8,none⟩)),isV (.bool false),isV (.bool true),isV (.bool true)] (by kernel_rfl) (by kernel_rfl) (by kernel_rfl) (by simp [ZM,Zb]) ?_ ?_
    ·simp only [hops,and_true]
     refine ⟨?_, ?_, ?_, ?_, ?_, ?_, ?_, ?_, ?_, ?_⟩;rotate_left 3
     ·intro f w1 hG hd
      have hg4:=gbT (gbD (gbR wr none)) hG;simp [deps,tAt,isV] at hd
      first | simp [hd] | simp
      clear hd;go_wp2_with fail;refine (Wx c _ w1 (HC.out.grow (gbT (gbR _ _) (gbT G6.out hg4))) WC.out.wf).mono ?_;rintro e w6 ⟨rfl,hw⟩;rw [HRD.out];go_wp2_with fail;exact ⟨_,rfl,by first | with_reducible exact gbR _ _ | exact hw,by simp [tAt,isV]⟩
     all_goals
      intro f w1 hG hd;have hg4:=gbT (gbD (gbR wr none)) hG;have k0:=gbk hg4 (V7.out);have k1:=gbk hg4 (X0.out);have k2:=gbk hg4 (X1.out);have k3:=gbk hg4 (X2.out);have k4:=gbk hg4 (V8.out);simp [deps,tAt,isV] at hd
      first | simp [hd] | simp
      clear hd;go_wp2_with fail;exact ⟨_,rfl,by with_reducible exact gbR _ _,by simp [tAt,isV]⟩
    intro f w5 hG hd;simp [knows,tAt,isV] at hd;simp only [puts,dsts,Act.put,hd,zB,zC,zA,zD,zE];clear hd;have g5:=gbT (gbD (gbR wr none)) hG;clear hG;have G7:=zH (gbT G6.out g5);have v7:=gbk g5 V7.out;have x0:=gbk g5 X0.out;have x1:=gbk g5 X1.out;have x2:=gbk g5 X2.out;have SG7:=zH (SG.out.grow g5);have TG7:=zH (TG.out.grow g5);clear g5 V7 V8 X0 X1 X2 hB9 hR9 SG TG;go_wp2_with fail;clear v7 x0 x1 x2;refine (specMulsAt_c c ((r:Int)+1) _ w5 (HC.out.grow (gbT (gbR _ _) G7.out)) WC.out.wf).mono ?_;rintro e' w7 ⟨vS,rfl,oS,gS⟩;obtain ⟨ns,hns⟩:∃x,(mulsAt c ((r:Int)+1)).length=x:=⟨_,rfl⟩;have hns60:ns≤60:=by rw [← hns];exact VP _ _
    have hns0:0<ns:=by rw [← hns];exact mulsAt_pos FT.out.ok (by omega) (by rw [HRD.out];omega)
    rw [hns] at oS;have HNS:=zH (show nAt c r=ns from hns);obtain ⟨S,cs,rfl,hSf,_⟩:=ZB oS;have HSF:=zH hSf;have IS8:=zH (show Ints w7 S ns (mulsAt c ((r:Int)+1)) from _root_.Go.Proofs.YthaadgdeadbhkaaGreat.Rd.ofOwn oS);have HLN:=zH hns;have LF5:=zH SG7.out.lt;have LG5:=zH SG7.out.ltg;have LT5:=zH TG7.out.lt;have HW5:=zH gS.size;have SG8:=zH (SG7.out.grow gS);have TG8:=zH (TG7.out.grow gS);have G8:=zH (gbT G7.out gS);clear oS gS hns SG7 TG7 G7 hSf;go_wp2_with fail;obtain ⟨w8,hw8⟩:∃x:World,w7.alloc (.cells #[] 82)=x:=⟨_,rfl⟩;obtain ⟨g17,hg17⟩:∃x,w7.heap.size=x:=⟨_,rfl⟩
    have TL0:Hid (TLB w7.heap.size (trsN k P s2 (totM c r*trW k) 0) (.slice (some ⟨g17,0,none⟩) 0 0) w8):=by
     rw [← hw8,← hg17];exact zH ⟨[],World.ownsRow_lit w7 #[] 0 (Nat.le_refl _) (by omega) rfl,OwnB.nil _ _⟩
    have SG0:Hid (SOF 58 (Zf m) g12 F w8):=by rw [← hw8];exact zH (SG8.out.grow (gbA (gbR _ _) _))
    have TG0:Hid (Blk w8 g14 41 #[.int .i64 s2,.int .i64 ((totM c r*trW k+0*trW k:Nat):Int)]):=by rw [← hw8,Nat.zero_mul,Nat.add_zero];exact zH (TG8.out.grow (gbA (gbR _ _) _))
    have N0:Hid (Chg (fun y=>y=g14) w7 w8):=by rw [← hw8];exact zH (chgA _ _)
    have LF7:Hid (∀x∈F,x<w7.heap.size):=zH SG8.out.lt;have LG7:=zH TG8.out.lt;have HW7I:Hid (wi.heap.size≤w7.heap.size):=zH G8.out.size;have HW57:Hid (w5.heap.size≤w7.heap.size):=HW5;have G0:Hid (wi.grownBy w8 none):=by rw [← hw8];exact zH (gbA G8.out _)
    rw [hw8,hg17];clear hw8 hg17 SG8 TG8 G8 G6;have hT60:totM c r≤60:=JA FT.out.ok (by rw [HRD.out];omega);have hTW:=trW_bd KB.out;have hA:=Nat.mul_le_mul hT60 hTW;obtain ⟨wo,rfl⟩:∃wo:World,wo=wr:=⟨_,rfl⟩
    go_loopw [17,18] (fun t i wr=>∃(j:Nat),j≤ns∧i=.int .i64 j∧Hid (TLB w7.heap.size (trsN k P s2 (totM c r*trW k) j) t wr)∧Hid (SOF 58 (Zf m) g12 F wr)∧Hid (Blk wr g14 41 #[.int .i64 s2,.int .i64 ((totM c r*trW k+j*trW k:Nat):Int)])∧Hid (wi.grownBy wr none)∧Hid (Chg (fun y=>y=g14) w7 wr)) (fun _ i _=>ns - (intOf i).toNat)
    case atStart=>exact ⟨0,Nat.zero_le _,rfl,TL0,SG0,TG0,G0,N0⟩
    case round =>
     clear TL0 SG0 TG0 G0 N0;obtain ⟨j,hj,rfl,TLj,SG,TG,G9,N9⟩:=hrel
     by_cases hjl:j<ns
     ·have i1:(j:Int)<(ns:Int):=by omega
      obtain ⟨vs,hrow,hvs⟩:=TLj.out;rw [XP] at hrow;obtain ⟨AT',cT,rfl,_,_⟩:=ZB hrow;have ROW:=zH hrow;have VS:=zH hvs;have hB:=Nat.mul_le_mul (show j≤60 by omega) hTW;obtain ⟨aj,haj⟩:∃x,totM c r*trW k+j*trW k=x:=⟨_,rfl⟩;rw [haj] at TG;have HAJ:=zH haj;have haj8:aj≤800000:=by omega
      have k0:=(B0.out.grow G9.out).cell 0;have k1:=(B0.out.grow G9.out).cell 1;have t0:=TG.out.cell 0;have t1:=TG.out.cell 1;simp only [List.getElem?_toArray,List.getElem?_cons_succ,List.getElem?_cons_zero] at k0 k1 t0 t1;clear hrow hvs haj TLj;go_wp2_with fail;clear k0 k1 t0 t1;refine (Jj k P s2 aj _ wr (HK.out.grow G9.out) WK.out KB.out HPN.out hs2l haj8).mono ?_;rintro e' wt ⟨v,rfl,o,gt⟩;have hw7t:w7.heap.size≤wr.heap.size:=N9.out.size;have hw7i:wi.heap.size≤w7.heap.size:=HW7I.out;obtain ⟨tn,htn⟩:∃x,Ys k P s2 aj=x:=⟨_,rfl⟩;rw [htn] at o;obtain ⟨X0,x0,X1,x1,X2,x2,X3,x3,X4,x4,X5,x5,rfl,hus⟩:=o.open;have US:=zH hus;have HTN:=zH htn;obtain ⟨aj',haj'⟩:∃x,aj+2+6*(k.al.length - 1)=x:=⟨_,rfl⟩
      have HAJ':Hid (totM c r*trW k+(j+1)*trW k=aj'):=by
       unfold Hid;rw [← haj',← HAJ.out,Nat.succ_mul];unfold trW;omega
      rw [haj'];have TGt:=zH (TG.out.grow gt);obtain ⟨wv,hwv⟩:∃x:World,(wt.alloc (.cells #[.slice X0 tn.a.sh.length x0,.slice X1 tn.a.mc.length x1,.slice X2 tn.b.sh.length x2,.slice X3 tn.b.mc.length x3,.slice X4 tn.c.sh.length x4,.slice X5 tn.c.mc.length x5] 82)).alloc (.cells #[.int .i64 s2,.int .i64 aj'] 41)=x:=⟨_,rfl⟩;have gu:wt.grownBy wv none:=by rw [← hwv];exact gbA (gbA (gbR _ _) _) _
      have TGv:=TGt.out.grow gu;have MV:Blk wv wt.heap.size 82 #[.slice X0 tn.a.sh.length x0,.slice X1 tn.a.mc.length x1,.slice X2 tn.b.sh.length x2,.slice X3 tn.b.mc.length x3,.slice X4 tn.c.sh.length x4,.slice X5 tn.c.mc.length x5]:=by rw [← hwv];exact (Blk.new _ _ _).grow (gbA (gbR _ _) _)
      have NV:Blk wv (wt.heap.size+1) 41 #[.int .i64 s2,.int .i64 aj']:=by rw [← hwv];exact Blk.new' _ _ _ _ (by simp)
      have nv0:=NV.cell 0;have nv1:=NV.cell 1;have hTt:=TGt.out.lt;have CHu:=Za g14 [.int .i64 s2,.int .i64 aj'] 0 wv;have TZ:=Zd TGv [.int .i64 s2,.int .i64 aj'] rfl;have gwv:=gbT gt gu;obtain ⟨wu,hwu⟩:∃x,Zm wv g14 0 [.int .i64 s2,.int .i64 aj']=x:=⟨_,rfl⟩;rw [hwu] at CHu TZ;have ROWU:=zH (Um (Zj ROW.out gwv) CHu (fun y hy _=>by subst hy;exact ⟨_,_,TGv,by decide⟩));have VSU:=zH ((VS.out.grow gwv).typ (Wq _) CHu (fun y hy _=>by subst hy;exact ⟨_,_,TGv,by decide⟩));have USU:=zH (((US.out.grow gu).lo hw7t).typ (by intro c hc;exact VT tn c hc) CHu (fun y hy _=>by subst hy;exact ⟨_,_,TGv,by decide⟩));have SGU:=zH (SOF.typ (SG.out.grow gwv) CHu (fun y hy _=>by subst hy;exact ⟨_,_,TGv,by decide,by decide⟩));have CHU:=zH ((N9.out.trans (Chg.of gwv (by simp))).trans (CHu.mono (fun y hy=>hy)));have GGU:=zH (gbChg (gbT G9.out gwv) CHu (fun y hy=>by rw [hy];exact hg14l));have MU:=MV.chg CHu (by omega);have m0':=MU.cell 0;have m1':=MU.cell 1;have m2':=MU.cell 2;have m3':=MU.cell 3;have m4':=MU.cell 4;have m5':=MU.cell 5;have f0:=TGv.frozen 0;have f1:=TGv.frozen 1;have t0:=TGv.cell 0;have t1:=TGv.cell 1;simp only [List.getElem?_toArray,List.getElem?_cons_succ,List.getElem?_cons_zero] at m0' m1' m2' m3' m4' m5' t0 t1 nv0 nv1;have hwu':=hwu;simp only [Zm,Nat.zero_add,Nat.reduceAdd] at hwu';have TZ:=zH TZ;have hbu:w7.heap.size≤wu.heap.size:=CHU.out.size;clear gt o hus htn haj' gu TGv MV NV CHu gwv hwu MU TGt US VS ROW
      go_wp2_with (at_builtin;refine XT wu wu.heap.size rfl elTriple rfl (.tmp 76) (.tmp 78) rfl #[.slice X0 tn.a.sh.length x0,.slice X1 tn.a.mc.length x1,.slice X2 tn.b.sh.length x2,.slice X3 tn.b.mc.length x3,.slice X4 tn.c.sh.length x4,.slice X5 tn.c.mc.length x5] rfl (by simp [Value.oneCell']) w7.heap.size (.slice AT' j cT) j vs ROWU.out rfl rfl (by unfold maxLen;omega) (by omega) hbu ?_;intro v' w9 o9 g9' k9;have CHA:Chg (fun y=>(Value.slice AT' j cT).ownBlock=some y) wu w9:=(chgA wu _).trans (Chg.of g9' (fun y hy=>hy));obtain ⟨A6,c6,hv6,_⟩:=ZB o9;subst hv6;have O9:=zH o9;have CHA:=zH CHA;clear o9 g9' k9)
      have hpush:=TLB.push (x:=tn) (by rw [XP];exact ROWU.out) VSU.out USU.out (by rw [XP];exact O9.out) CHA.out;have htr:trsN k P s2 (totM c r*trW k) j ++ [tn]=trsN k P s2 (totM c r*trW k) (j+1):=by rw [trsN_succ,HAJ.out,HTN.out]
      rw [htr] at hpush;have L1:=zH hpush;have L5:=zH (gbChg GGU.out CHA.out (fun y hy=>by obtain ⟨cur,_,hb⟩:=XA ROWU.out hy;have:=hw7i;omega));have L2:=zH (SOF.typ SGU.out CHA.out (fun y hy _=>by obtain ⟨cur,hb,_⟩:=XA ROWU.out hy;exact ⟨_,_,hb,by decide,by decide⟩));have L3:Hid (Blk w9 g14 41 #[.int .i64 s2,.int .i64 ((totM c r*trW k+(j+1)*trW k:Nat):Int)]):=by rw [HAJ'.out];exact zH (TZ.out.chg CHA.out (Un ROWU.out TZ.out (by decide)))
      have L4:=zH (Chg.join CHU.out CHA.out (fun i hi=>by obtain ⟨cur,_,hb⟩:=XA ROWU.out hi;exact .inr hb));clear hpush htr
      go_roundw
      case rel=>exact ⟨j+1,by omega,by go_num,L1,L2,L3,L5,L4⟩
      case measure=>simp [intOf];omega
     ·have hjn:j=ns:=by omega
      subst hjn;have hes0:=HE.out.len;have TLR:=zH TLj.out;obtain ⟨vs,hrow,_⟩:=TLj.out;rw [XP] at hrow;have TROW:=zH hrow;obtain ⟨AT',cT,rfl,hTf,_⟩:=ZB hrow;have HTF:=zH hTf;clear hrow hTf;have HMS:Hid (mulsOf m=mulsAt c ((r:Int)+1)):=zH (by unfold mulsOf;rw [AT.out.ec,AT.out.rd])
      have HMY:Hid (∀l,elemsB k.p l=true→mayB m (trsN k P s2 (totM c r*trW k) j) l=true):=zH (fun l hl=>AT.out.may FT.out (fun i a h=>h) HBD.out (by rw [HRD.out];exact hlt) (by
       have h1:=(trsF (s2:=s2) (a:=totM c r*trW k) FT.out AT.out).f;rw [HNS.out] at h1
       exact h1) hl)
      have HEN:Hid (engAt k c P s1 s2 ins es (r+1)=XC m (Zl m (trsN k P s2 (totM c r*trW k) j) (errsN es (2*totM c r) (2*j)) (mulsOf m) (mulsOf m).length)):=by
       unfold Hid;rw [engAt,HM.out,HNS.out,Yt,if_pos (HMY.out _ (errsN_el EB.out _ _))]
      have GRW:=zH G9.out;have hw7r:=N9.out.size;obtain ⟨fr,hfr⟩:∃q,min (2*totM c r) es.length=q:=⟨_,rfl⟩;have HFR:Hid (∀i,errAt (es.drop fr) i=errAt es (2*totM c r+i)):=zH (fun i=>errAt_cut es i (by omega));have EBD:Hid (elemsB k.p (es.drop fr)=true):=zH (errs_drop EB.out _)
      have HCU:Hid (2*totM c r<nr→Ints wi (R.map fun a=>a.add (2*totM c r)) (nr - 2*totM c r) (es.drop fr)):=zH (fun h=>by
       have h1:=Ints.cut HE.out (x:=2*totM c r) (m:=nr - 2*totM c r) (by omega);rw [List.take_of_length_le (by rw [List.length_drop];omega)] at h1;rw [show fr=2*totM c r by omega]
       exact h1)
      have HNI:Hid (nr≤2*totM c r→es.drop fr=[]):=zH (fun h=>List.drop_eq_nil_of_le (by omega));have HL0:Hid (es.length=nr):=zH hes0;have hq:((2*totM c r:Int)<(nr:Int))∨((nr:Int)<(2*totM c r:Int)∧¬(2*totM c r:Int)<(nr:Int)∧nr=cr)∨((nr:Int)<(2*totM c r:Int)∧¬(2*totM c r:Int)<(nr:Int)∧nr<cr)∨(nr=2*totM c r∧2*totM c r=cr)∨(nr=2*totM c r∧2*totM c r<cr):=by omega
      clear hfr
      rcases hq with i1 | ⟨i1,i2,rfl⟩ | ⟨i1,i2,i3⟩ | ⟨rfl,rfl⟩ | ⟨rfl,i3⟩
      all_goals
       go_wp2_with fail;refine (specl28Round_c m (trsN k P s2 (totM c r*trW k) j) (es.drop fr) g12 F S _ _ _ _ _ _ _ _ wr SG.out (by rw [HMS.out];exact HLN.out) hns60 (fun w' hc=>⟨?_, ?_, ?_⟩) (fun hp tb o e => ?_) WM.out (Qo KB.out) (HMY.out _ EBD.out) (by omega) (by omega)).mono ?_
       ·have hw:=Chg.rdk (w:=w7) (w':=wr) IS8.out N9.out (fun hp b hb hs=>by
         obtain ⟨_,_,h1,h2⟩:=HSF.out b hb;have h3:=LT5.out
         omega)
        rw [HMS.out]
        exact Chg.rdk (w:=wr) (w':=w') hw hc (fun hp b hb hs=>by
         obtain ⟨_,_,h1,h2⟩:=HSF.out b hb
         rcases hs with h3 | h3
         ·have:=LG5.out;omega
         ·have:=LF5.out _ h3;omega)
       ·exact (TLR.out.chg hc (fun y hy=>by
         rcases hy with h3 | h3
         ·have:=LG5.out;have:=HW57.out;omega
         ·exact LF7.out y h3)).rd
       ·first
         | exact (HCU.out (by omega)).grow (gbChg G9.out hc (fun y hy=>by
           rcases hy with h3 | h3
           ·rw [h3];exact hg12
           ·exact HFL.out y h3))
         | (rw [HNI.out (by omega)];exact Ints.none')
       ·obtain ⟨h1,h2,h3,h4⟩:=HTF.out ⟨tb,o,none⟩ e
        have h3:w7.heap.size≤tb:=h3;exact ⟨fun h=>by have:=LG5.out;have:=HW57.out;omega,fun h=>by have:=LF7.out _ h;omega,h4⟩
       rintro e' w9 ⟨rfl,F',hS',hF',hC'⟩
       have hRT:Zl m (trsN k P s2 (totM c r*trW k) j) (es.drop fr) (mulsOf m) (mulsOf m).length=Zl m (trsN k P s2 (totM c r*trW k) j) (errsN es (2*totM c r) (2*j)) (mulsOf m) (mulsOf m).length:=QE _ _ _ _ _ _ (fun i hi=>by
        have h2:(mulsOf m).length=j:=by rw [HMS.out];exact HLN.out
        rw [HFR.out,errsN_at (by omega)])
       rw [hRT] at hS';have L1:Hid (SOF 58 (Zf (engAt k c P s1 s2 ins es (r+1))) g12 F' w9):=by rw [HEN.out];exact zH hS'
       have HTS:Hid (totM c (r+1)=totM c r+j):=zH (by rw [totM_succ,HNS.out])
       have L2:Hid (Blk w9 g14 41 #[.int .i64 s2,.int .i64 ((totM c (r+1)*trW k:Nat):Int)]):=by
        rw [HTS.out,Nat.add_mul];refine zH (TG.out.chg hC' (fun h => ?_))
        rcases h with h3 | h3
        ·exact hne h3.symm
        ·obtain ⟨vs9,_,hA9⟩:=SG.out.agg
         exact WR (Yr _) hA9 TG.out (by decide) h3
       have L3:Hid (r+1=0∨(engAt k c P s1 s2 ins es (r+1 - 1)).bad=false):=zH (.inr (by rw [Nat.add_sub_cancel,HM.out];exact HBD.out))
       have L4:=zH (gbChg G9.out hC' (fun y hy=>by
        rcases hy with h3 | h3
        ·rw [h3];exact hg12
        ·exact HFL.out y h3))
       have L5:Hid (∀x∈F',wi.heap.size≤x):=zH (fun x hx=>by
        rcases hF' x hx with h3 | h3
        ·exact HFL.out x h3
        ·have:=G9.out.size;omega)
       have hu:2*(totM c r:Int)+2*(j:Int)=((2*totM c (r+1):Nat):Int):=by have:=HTS.out;omega
       have hT9:totM c (r+1)≤60:=JA FT.out.ok (by rw [HRD.out];omega);clear hS' hF' hC' hRT;go_wp2_with fail
       go_roundw
       case rel=>exact ⟨r+1,F',by rw [HRD.out];omega,by first | (rw [hu];done) | (rw [hu]) | simp,L3,L1,L2,L4,L5⟩
       case measure =>
        have:=HTS.out;simp [intOf];omega
  ·have HFIN:Hid (engAt k c P s1 s2 ins es (rounds c).toNat=m):=by
    unfold Hid;rw [HRD.out,show Rd.toNat=r by omega];exact HM.out
   obtain rfl:Rd=(r:Int):=by omega
   clear hlt hr;go_wp2_with fail;refine Zv [isV (.pointer (some ⟨g12,7,none⟩)),isV (.int .i64 r),isV (.agg #[.int .i64 c.p,.slice A1 c.st.length n1,.slice A2 c.outs.length n2]),isV (.int .i64 r),isV (.bool false),isV (.bool false),isV (undef),isV (undef),isV (undef),isV (.bool false)] (by kernel_rfl) (by kernel_rfl) (by kernel_rfl) (by simp [ZM,Zb]) ?_ ?_
   ·simp only [hops,and_true]
    refine ⟨?_, ?_, ?_, ?_, ?_, ?_, ?_, ?_, ?_, ?_⟩;rotate_left 3
    ·intro f w1 hG hd
     have hg4:=gbT (gbD (gbR wr none)) hG;simp [deps,tAt,isV] at hd
     first | simp [hd] | simp
     clear hd;go_wp2_with fail;refine (Wx c _ w1 (HC.out.grow (gbT (gbR _ _) (gbT G6.out hg4))) WC.out.wf).mono ?_;rintro e w6 ⟨rfl,hw⟩;rw [HRD.out];go_wp2_with fail;exact ⟨_,rfl,by first | with_reducible exact gbR _ _ | exact hw,by simp [tAt,isV]⟩
    all_goals
     intro f w1 hG hd;have hg4:=gbT (gbD (gbR wr none)) hG;have k0:=gbk hg4 (V7.out);have k1:=gbk hg4 (X0.out);have k2:=gbk hg4 (X1.out);have k3:=gbk hg4 (X2.out);have k4:=gbk hg4 (V8.out);simp [deps,tAt,isV] at hd
     first | simp [hd] | simp
     clear hd;go_wp2_with fail;exact ⟨_,rfl,by with_reducible exact gbR _ _,by simp [tAt,isV]⟩
   intro f w5 hG hd;simp [knows,tAt,isV] at hd;simp only [puts,dsts,Act.put,hd,zB,zC,zA,zD,zE];clear hd;have g5:=gbT (gbD (gbR wr none)) hG;clear hG;have G7:=zH (gbT G6.out g5);obtain ⟨c0,c1,c2,c3,c4,c5,c6,c7,c8⟩:=(hB9.grow g5).c9;have AL:=zH (hR9.al9.grow g5);have GW7:=zH (gbT GB.out G7.out);have hz7:=GW7.out.size;clear g5 hB9 hR9;go_wp2_with fail;clear c0 c1 c2 c3 c4 c5 c6 c7 c8;refine (Ws m _ w5 AL.out WM.out).mono ?_;rintro e' w9 ⟨V,rfl,o9,g9⟩;obtain ⟨AV,cV,rfl,_,_⟩:=ZB o9;have O9:=zH (ZE o9 hz7);have G9:=zH (gbT GW7.out g9);clear o9 g9;go_wp2_with fail;refine bodyPost_ret (v:=.tuple #[.slice AV (outR m).length cV,.bool (outB m)]) (by simp [results,Tryz.results9]) rfl ?_;rw [HRA.out,HFIN.out];exact ⟨_,rfl,O9.out,G9.out⟩
end Go.Proofs.YthaadgdeadbhkaaGreat
