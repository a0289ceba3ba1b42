/-
 valueIn and TripleOpen of the program.
-/
import Derived.Test.YthaadgdeadbhkaaGreatMgFnExactCountOutcomes16
open Go.RowKit
set_option linter.unusedVariables false
set_option linter.unusedSimpArgs false
namespace Go.Proofs.YthaadgdeadbhkaaGreat
attribute [local simp] depsC dstAt kAt bindE List.filter_cons Zz Zq Zr Zs ZA ZW puts dsts Act.put
set_option maxHeartbeats 1000000 in
theorem Xo (k:KM) (a:AuM) (kv av:Value) (w0:World) (h:AggR w0 (ckeys k) kv) (ha:AggR w0 (cauth a) av) (he:elemsB k.p a.sh=true) (wa:awf a) :
  Calls Tryz.prog 123 #[kv,av] w0 fun e w'=>e=.returned (.int .i64 (fsum k.p a.sh))∧w0.grownBy w' none:=by
 obtain ⟨A,c,rfl,hc,hm,hI⟩:=ZG h;obtain ⟨Ba,da,Ca,fa,rfl,_,_,_,_,hSa,hMa⟩:=ZO ha;obtain ⟨w1,hw1⟩:∃x:World,((w0.alloc (.cells #[.int .i64 k.p,.slice A k.al.length c] 34)).alloc (.cells #[.slice Ba a.sh.length da,.slice Ca a.mc.length fa] 80))=x:=⟨_,rfl⟩;have G1:Hid (w0.grownBy w1 none):=by rw [← hw1];exact gbA (gbA (gbR _ _) _) _
 have D0:Hid (Blk w1 w0.heap.size 34 #[.int .i64 k.p,.slice A k.al.length c]):=by rw [← hw1];exact (Blk.new w0 _ _).grow (gbA (gbR _ _) _)
 have D1:Hid (Blk w1 (w0.heap.size+1) 80 #[.slice Ba a.sh.length da,.slice Ca a.mc.length fa]):=by rw [← hw1];exact Blk.new' _ _ _ _ (by simp)
 have IS:=zH (hSa.grow G1.out);have WA:=zH wa;have HE:=zH he;clear h ha hI hSa hMa wa he
 go_enter Tryz.func123,Tryz.ntmps123
 have k0:=D0.out.cell 0;have k1:=D0.out.cell 1;have a0:=D1.out.cell 0;have a1:=D1.out.cell 1;simp at k0 k1 a0 a1;go_wp2_with fail;clear hw1;refine (WH k.p Ba _ da a.sh _ HE.out IS.out (by have:=WA.out.1;omega)).mono ?_;rintro e w2 ⟨rfl,rfl⟩;go_wp2_with fail;exact bodyPost_ret (v:=.int .i64 (fsum k.p a.sh)) (by simp [results,Tryz.results123]) rfl ⟨rfl,G1.out⟩
def openB (k:KM) (x y:AuM) (t:TrM):Bool:=formB k x&&formB k y&&formB k t.a&&formB k t.b
def openD (k:KM) (x y:AuM) (t:TrM):Int:=if openB k x y t then (fsum k.p x.sh - fsum k.p t.a.sh) % k.p else 0
def openE (k:KM) (x y:AuM) (t:TrM):Int:=if openB k x y t then (fsum k.p y.sh - fsum k.p t.b.sh) % k.p else 0
theorem KS:St Tryz.prog 104 2:=⟨⟨_,Tryz.underlying104,rfl⟩,by kernel_rfl⟩
set_option maxHeartbeats 4000000 in
set_option maxRecDepth 100000 in
theorem QL (k:KM) (x y:AuM) (t:TrM) (kv xv yv tv:Value) (w0:World) (h:AggR w0 (ckeys k) kv) (hx:AggR w0 (cauth x) xv) (hy:AggR w0 (cauth y) yv) (ht:AggR w0 (YA t) tv) (wk:kwf k) (wx:awf x) (wy:awf y) (wt:twf t) :
  Calls Tryz.prog 67 #[kv,xv,yv,tv] w0 fun r w'=>r=.returned (.tuple #[.agg #[.int .i64 (openD k x y t),.int .i64 (openE k x y t)],.bool (openB k x y t)])∧w0.grownBy w' none:=by
 obtain ⟨A,c,rfl,hc,hm,hI⟩:=ZG h;obtain ⟨X1,x1,X2,x2,rfl,_,_,_,_,_,_⟩:=ZO hx;obtain ⟨Y1,y1,Y2,y2,rfl,_,_,_,_,_,_⟩:=ZO hy;obtain ⟨A1,a1,A2,a2,B1,b1,B2,b2,C1,c1,C2,c2,rfl,ha,hb,hcc⟩:=XX ht;obtain ⟨w1,hw1⟩:∃z:World,(((((w0.alloc (.cells #[.int .i64 k.p,.slice A k.al.length c] 34)).alloc (.cells #[.slice X1 x.sh.length x1,.slice X2 x.mc.length x2] 80)).alloc (.cells #[.slice Y1 y.sh.length y1,.slice Y2 y.mc.length y2] 80)).alloc (.cells #[.slice A1 t.a.sh.length a1,.slice A2 t.a.mc.length a2,.slice B1 t.b.sh.length b1,.slice B2 t.b.mc.length b2,.slice C1 t.c.sh.length c1,.slice C2 t.c.mc.length c2] 82)).alloc (.cells #[.int .i64 0,.int .i64 0] 104))=z:=⟨_,rfl⟩;have G1:Hid (w0.grownBy w1 none):=by rw [← hw1];exact gbA (gbA (gbA (gbA (gbA (gbR _ _) _) _) _) _) _
 have z1:Hid (w1.heap.size=w0.heap.size+5):=by rw [← hw1];exact zH (by simp)
 have D0:Hid (Blk w1 (w0.heap.size) 34 #[.int .i64 k.p,.slice A k.al.length c]):=by rw [← hw1];exact ((((Blk.new w0 _ _).grow (gbA (gbR _ _) _)).grow (gbA (gbR _ _) _)).grow (gbA (gbR _ _) _)).grow (gbA (gbR _ _) _)
 have D1:Hid (Blk w1 (w0.heap.size+1) 80 #[.slice X1 x.sh.length x1,.slice X2 x.mc.length x2]):=by rw [← hw1];exact (((Blk.new' _ _ _ _ (by simp)).grow (gbA (gbR _ _) _)).grow (gbA (gbR _ _) _)).grow (gbA (gbR _ _) _)
 have D2:Hid (Blk w1 (w0.heap.size+1+1) 80 #[.slice Y1 y.sh.length y1,.slice Y2 y.mc.length y2]):=by rw [← hw1];exact ((Blk.new' _ _ _ _ (by simp)).grow (gbA (gbR _ _) _)).grow (gbA (gbR _ _) _)
 have D3:Hid (Blk w1 (w0.heap.size+1+1+1) 82 #[.slice A1 t.a.sh.length a1,.slice A2 t.a.mc.length a2,.slice B1 t.b.sh.length b1,.slice B2 t.b.mc.length b2,.slice C1 t.c.sh.length c1,.slice C2 t.c.mc.length c2]):=by rw [← hw1];exact (Blk.new' _ _ _ _ (by simp)).grow (gbA (gbR _ _) _)
 have D4:Hid (Blk w1 (w0.heap.size+1+1+1+1) 104 #[.int .i64 0,.int .i64 0]):=by rw [← hw1];exact Blk.new' _ _ _ _ (by simp)
 have HK:=zH (AggR.grow h G1.out);have HX:=zH (AggR.grow hx G1.out);have HY:=zH (AggR.grow hy G1.out);have HA:=zH (AggR.grow ha G1.out);have HB:=zH (AggR.grow hb G1.out);have IK:=zH h;have IX:=zH hx;have IY:=zH hy;have IA:=zH ha;have IB:=zH hb;have WK:=zH wk;have WX:=zH wx;have WY:=zH wy;have WA:=zH wt.1;have WB:=zH wt.2.1;clear h hx hy ht ha hb hcc hI wk wx wy wt;have HFB:Hid (openB k x y t=(formB k x&&formB k y&&formB k t.a&&formB k t.b)):=rfl;have HFD:Hid (openD k x y t=if openB k x y t then (fsum k.p x.sh - fsum k.p t.a.sh) % k.p else 0):=rfl;have HFE:Hid (openE k x y t=if openB k x y t then (fsum k.p y.sh - fsum k.p t.b.sh) % k.p else 0):=rfl
 go_enter Tryz.func67,Tryz.ntmps67
 have k0:=D0.out.cell 0;have k1:=D0.out.cell 1;have x0:=D1.out.cell 0;have x1':=D1.out.cell 1;have y0:=D2.out.cell 0;have y1':=D2.out.cell 1;have t0:=D3.out.cell 0;have t1:=D3.out.cell 1;have t2:=D3.out.cell 2;have t3:=D3.out.cell 3;simp at k0 k1 x0 x1' y0 y1' t0 t1 t2 t3;go_wp2_with fail;clear k0 k1 x0 x1' y0 y1' t0 t1 t2 t3 hw1;obtain ⟨VL,hVL⟩:∃l:List Value,l=[.slice X1 x.sh.length x1,.slice X2 x.mc.length x2,.slice Y1 y.sh.length y1,.slice Y2 y.mc.length y2,.slice A1 t.a.sh.length a1,.slice A2 t.a.mc.length a2,.slice B1 t.b.sh.length b1,.slice B2 t.b.mc.length b2]:=⟨_,rfl⟩;have HL:=zH (Uk (w:=w1) [x,y,t.a,t.b] VL 4 (by rw [hVL];exact RdAll.append2 (VY (vs:=[_,_]) HX.out) (RdAll.append2 (VY (vs:=[_,_]) HY.out) (RdAll.append2 (VY (vs:=[_,_]) HA.out) (by simpa using VY (vs:=[_,_]) HB.out)))) rfl (by omega));rw [hVL] at HL;have GL:=zH (gbA (gbR w1 none) (.cells #[.slice X1 x.sh.length x1,.slice X2 x.mc.length x2,.slice Y1 y.sh.length y1,.slice Y2 y.mc.length y2,.slice A1 t.a.sh.length a1,.slice A2 t.a.mc.length a2,.slice B1 t.b.sh.length b1,.slice B2 t.b.mc.length b2] 80))
 have HAL:Hid (([x,y,t.a,t.b].all (formA k)&&keysB k)=openB k x y t):=by
  unfold Hid openB formB;simp only [List.all_cons,List.all_nil,Bool.and_true]
  cases keysB k <;> simp [Bool.and_assoc]
 refine (YR k [x,y,t.a,t.b] _ _ 4 4 _ (AggR.grow HK.out GL.out) HL.out WK.out (by intro z hz;simp at hz;rcases hz with rfl | rfl | rfl | rfl <;> first | exact WX.out | exact WY.out | exact WA.out | exact WB.out) (by omega)).mono ?_;rintro r wz ⟨rfl,g2⟩;have gz:=gbT GL.out g2;clear g2 HL GL hVL;rw [HAL.out]
 cases hok:openB k x y t
 ·rw [hok] at HFD HFE
  have RS:=zH (Zd (D4.out.grow gz) [.int .i64 0,.int .i64 0] rfl);have CH:=zH (Za (w0.heap.size+1+1+1+1) [.int .i64 0,.int .i64 0] 0 wz);have r0:=(D4.out.grow gz).cell 0;have r1:=(D4.out.grow gz).cell 1;have s0:=(D4.out.grow gz).frozen 0;have s1:=(D4.out.grow gz).frozen 1;simp at r0 r1;have GG:=zH (gbT G1.out gz);clear gz;go_wp2_with fail;refine Xq Tryz.results67 (by rfl) KS (cs:=#[.int .i64 0,.int .i64 0]) RS.out (by rfl) (by rfl) ?_;exact ⟨by rw [HFD.out,HFE.out,hok];rfl,Zu GG.out CH.out (by omega)⟩
 rw [hok,if_pos rfl] at HFD HFE;rw [hok] at HFB;have hq:=HFB.out.symm;obtain ⟨hq,qb⟩:=Bool.and_eq_true_iff.1 hq;obtain ⟨hq,qa⟩:=Bool.and_eq_true_iff.1 hq;obtain ⟨qx,qy⟩:=Bool.and_eq_true_iff.1 hq;have qk:=(Yb qx).1;have ex:=(Yb qx).2.2.2.1;have ey:=(Yb qy).2.2.2.1;have ea:=(Yb qa).2.2.2.1;have eb:=(Yb qb).2.2.2.1;have kf:=(Yc qk).1;have EX:=zH ex;have EY:=zH ey;have EA:=zH ea;have EB:=zH eb;clear qb qa qx qy hq qk ex ey ea eb HFB HAL;obtain ⟨FX,hFX⟩:∃z,fsum k.p x.sh=z:=⟨_,rfl⟩;obtain ⟨FA,hFA⟩:∃z,fsum k.p t.a.sh=z:=⟨_,rfl⟩;obtain ⟨FY,hFY⟩:∃z,fsum k.p y.sh=z:=⟨_,rfl⟩;obtain ⟨FB,hFB⟩:∃z,fsum k.p t.b.sh=z:=⟨_,rfl⟩;have LFX:Hid (elemB k.p FX=true):=by rw [← hFX];exact zH (Yl kf _)
 have LFA:Hid (elemB k.p FA=true):=by rw [← hFA];exact zH (Yl kf _)
 have LFY:Hid (elemB k.p FY=true):=by rw [← hFY];exact zH (Yl kf _)
 have LFB:Hid (elemB k.p FB=true):=by rw [← hFB];exact zH (Yl kf _)
 rw [hFX,hFA] at HFD;rw [hFY,hFB] at HFE;obtain ⟨DD,hDD⟩:∃z,(FX - FA) % k.p=z:=⟨_,rfl⟩;obtain ⟨EE,hEE⟩:∃z,(FY - FB) % k.p=z:=⟨_,rfl⟩;rw [hDD] at HFD;rw [hEE] at HFE;have HFX:=zH hFX;have HFA:=zH hFA;have HFY:=zH hFY;have HFB:=zH hFB;have HDD:=zH hDD;have HEE:=zH hEE;have HOK:=zH hok;have E0:=zH (D0.out.grow gz);have E1:=zH (D1.out.grow gz);have E2:=zH (D2.out.grow gz);have E3:=zH (D3.out.grow gz);have E4:=zH (D4.out.grow gz);have GW:=zH (gbT G1.out gz);clear D0 D1 D2 D3 D4 HK HX HY HA HB G1 z1 gz hFX hFA hFY hFB hDD hEE hok;go_wp2_with fail;obtain ⟨gR,hgR⟩:∃g,w0.heap.size+1+1+1+1=g:=⟨_,rfl⟩;have hwR:w0.heap.size≤gR:=by omega
 rw [hgR] at E4 ⊢
 refine Zg [.rd (.pointer (some ⟨w0.heap.size,0,none⟩)),.rd (.int .i64 k.p),.rd (.agg #[.int .i64 k.p,.slice A k.al.length c]),.rd (.agg #[.slice X1 x.sh.length x1,.slice X2 x.mc.length x2]),.fl (isV (.int .i64 FX)),.rd (.agg #[.int .i64 k.p,.slice A k.al.length c]),.rd (.pointer (some ⟨w0.heap.size+1+1+1,0,none⟩)),.rd (.agg #[.slice A1 t.a.sh.length a1,.slice A2 t.a.mc.length a2]),.fl (isV (.int .i64 FA)),.fl (isV (.int .i64 DD)),.rd (.pointer (some ⟨w0.heap.size,0,none⟩)),.rd (.int .i64 k.p),.rd (.agg #[.int .i64 k.p,.slice A k.al.length c]),.rd (.agg #[.slice Y1 y.sh.length y1,.slice Y2 y.mc.length y2]),.fl (isV (.int .i64 FY)),.rd (.agg #[.int .i64 k.p,.slice A k.al.length c]),.rd (.pointer (some ⟨w0.heap.size+1+1+1,2,none⟩)),.rd (.agg #[.slice B1 t.b.sh.length b1,.slice B2 t.b.mc.length b2]),.fl (isV (.int .i64 FB)),.fl (isV (.int .i64 EE)),.rd (.agg #[.int .i64 DD,.int .i64 EE]),.ch,.ch] (fun z=>z=gR)
  [⟨[],fun _ w'=>wz.drew.grownBy w' none⟩,
   ⟨[],fun _ w'=>Blk w' gR 104 #[.int .i64 DD,.int .i64 EE]∧Chg (fun z=>z=gR) wz.drew w'⟩,
   ⟨[9],fun l w'=>l.getD 0 undef=.bool true∧Blk w' gR 104 #[.int .i64 DD,.int .i64 EE]∧Chg (fun z=>z=gR) wz.drew w'⟩]
  (by kernel_rfl) (by kernel_rfl) (by kernel_rfl) 2 (by kernel_rfl) ?_ (gbR _ _) rfl ?_ ?_
 ·have hst:Zw [⟨[],fun _ w'=>wz.drew.grownBy w' none⟩,
   ⟨[],fun _ w'=>Blk w' gR 104 #[.int .i64 DD,.int .i64 EE]∧Chg (fun z=>z=gR) wz.drew w'⟩,
   ⟨[9],fun l w'=>l.getD 0 undef=.bool true∧Blk w' gR 104 #[.int .i64 DD,.int .i64 EE]∧Chg (fun z=>z=gR) wz.drew w'⟩]:=by
   intro F hF;simp only [List.mem_cons,List.not_mem_nil,or_false] at hF
   rcases hF with rfl | rfl | rfl
   ·exact fun l w1 w2 h hg=>gbT h hg
   ·rintro l w1 w2 ⟨h1,h3⟩ hg
    exact ⟨h1.grow hg,h3.trans (Chg.of hg (by simp))⟩
   ·rintro l w1 w2 ⟨h0,h1,h3⟩ hg
    exact ⟨h0,h1.grow hg,h3.trans (Chg.of hg (by simp))⟩
  simp only [flOk,true_and,and_true];exact ⟨⟨Zb _,hst⟩,⟨Zb _,hst⟩,⟨Zb _,hst⟩,⟨Zb _,hst⟩,⟨Zb _,hst⟩,Zb _,hst⟩
 ·simp only [hopsK,hopK,Kd.next,and_true]
  refine ⟨?_, ?_, ?_, ?_, ?_, ?_, ?_, ?_, ?_, ?_, ?_, ?_, ?_, ?_, ?_, ?_, ?_, ?_, ?_, ?_, ?_, ?_, ?_⟩;rotate_left 4
  ·intro f w4 hG hd
   have kg:=zH (Zu (gbT GW.out (gbD (gbR wz none))) hG hwR)
   (try simp at hd)
   (first | simp [hd] | simp)
   clear hd;go_wp2_with fail;refine (Xo k x _ _ w4 (AggR.grow IK.out kg.out) (AggR.grow IX.out kg.out) EX.out WX.out).mono ?_;rintro e w6 ⟨rfl,g6⟩;rw [HFX.out];have G6:=zH g6;clear g6 kg;go_wp2_with fail;exact ⟨_,rfl,rfl,G6.out⟩
  rotate_left 3
  ·intro f w4 hG hd
   have kg:=zH (Zu (gbT GW.out (gbD (gbR wz none))) hG hwR)
   (try simp at hd)
   (first | simp [hd] | simp)
   clear hd;go_wp2_with fail;refine (Xo k t.a _ _ w4 (AggR.grow IK.out kg.out) (AggR.grow IA.out kg.out) EA.out WA.out).mono ?_;rintro e w6 ⟨rfl,g6⟩;rw [HFA.out];have G6:=zH g6;clear g6 kg;go_wp2_with fail;exact ⟨_,rfl,rfl,G6.out⟩
  ·intro f w4 hG hd
   (try simp at hd)
   simp only [isV] at hd
   (first | simp [hd] | simp)
   clear hd;go_wp2_with fail;refine (Qc k.p FX FA w4 LFX.out LFA.out).mono ?_;rintro e w6 ⟨rfl,g6⟩;rw [HDD.out];have G6:=zH g6;clear g6;go_wp2_with fail;exact ⟨_,rfl,rfl,G6.out⟩
  rotate_left 4
  ·intro f w4 hG hd
   have kg:=zH (Zu (gbT GW.out (gbD (gbR wz none))) hG hwR)
   (try simp at hd)
   (first | simp [hd] | simp)
   clear hd;go_wp2_with fail;refine (Xo k y _ _ w4 (AggR.grow IK.out kg.out) (AggR.grow IY.out kg.out) EY.out WY.out).mono ?_;rintro e w6 ⟨rfl,g6⟩;rw [HFY.out];have G6:=zH g6;clear g6 kg;go_wp2_with fail;exact ⟨_,rfl,rfl,G6.out⟩
  rotate_left 3
  ·intro f w4 hG hd
   have kg:=zH (Zu (gbT GW.out (gbD (gbR wz none))) hG hwR)
   (try simp at hd)
   (first | simp [hd] | simp)
   clear hd;go_wp2_with fail;refine (Xo k t.b _ _ w4 (AggR.grow IK.out kg.out) (AggR.grow IB.out kg.out) EB.out WB.out).mono ?_;rintro e w6 ⟨rfl,g6⟩;rw [HFB.out];have G6:=zH g6;clear g6 kg;go_wp2_with fail;exact ⟨_,rfl,rfl,G6.out⟩
  ·intro f w4 hG hd
   (try simp at hd)
   simp only [isV] at hd
   (first | simp [hd] | simp)
   clear hd;go_wp2_with fail;refine (Qc k.p FY FB w4 LFY.out LFB.out).mono ?_;rintro e w6 ⟨rfl,g6⟩;rw [HEE.out];have G6:=zH g6;clear g6;go_wp2_with fail;exact ⟨_,rfl,rfl,G6.out⟩
  rotate_left 1
  ·intro f w4 hG hI hd
   have hI:wz.drew.grownBy w4 none:=hI
   (try simp at hd)
   have R4:=E4.out.grow (gbT (gbD (gbR wz none)) hI);have f0:=R4.frozen 0;have f1:=R4.frozen 1;have b0:=R4.cell 0;have b1:=R4.cell 1;simp at b0 b1;have RS:=zH (Zd R4 [.int .i64 DD,.int .i64 EE] rfl);have CW:=zH (Za gR [.int .i64 DD,.int .i64 EE] 0 w4);have CS:=zH ((Chg.of (S:=fun y=>y=gR) hI (by simp)).trans CW.out);clear R4 hI;simp [puts,dsts,Act.put,hd];clear hd;go_wp2_with fail;exact ⟨rfl,⟨.bool false,RS.out,CS.out⟩,CW.out,by simp [keepsC,dstAt,isV]⟩
  ·intro f w4 hG hI hd
   obtain ⟨R4,C4⟩:=hI;clear hd;simp [puts,dsts,Act.put];go_wp2_with fail;exact ⟨.bool true,rfl,rfl,R4,C4⟩
  all_goals
   intro f w4 hG hd;have kg:=gbD (gbR wz none);have k0:=((E0.out.grow kg).chg hG (by omega)).cell 0;have k1:=((E0.out.grow kg).chg hG (by omega)).cell 1;have x0:=((E1.out.grow kg).chg hG (by omega)).cell 0;have x1':=((E1.out.grow kg).chg hG (by omega)).cell 1;have y0:=((E2.out.grow kg).chg hG (by omega)).cell 0;have y1':=((E2.out.grow kg).chg hG (by omega)).cell 1;have t0:=((E3.out.grow kg).chg hG (by omega)).cell 0;have t1:=((E3.out.grow kg).chg hG (by omega)).cell 1;have t2:=((E3.out.grow kg).chg hG (by omega)).cell 2;have t3:=((E3.out.grow kg).chg hG (by omega)).cell 3;simp at k0 k1 x0 x1' y0 y1' t0 t1 t2 t3;clear kg
   (try simp at hd)
   try simp only [isV] at hd
   (first | simp [hd] | simp)
   clear hd;go_wp2_with fail;exact ⟨rfl,rfl⟩
 intro f w9 hI hd;obtain ⟨e9,hBR,hCZ⟩:=hI;have hCZ:=chgDr hCZ;have GZ:=zH (Zu GW.out hCZ hwR);have e9:f 9=.bool true:=e9;simp only [puts,dsts,Act.put,zB,zC,zA,zD,zE,e9];clear hd e9;go_wp2_with fail;refine Xq Tryz.results67 (by rfl) KS (cs:=#[.int .i64 DD,.int .i64 EE]) hBR (by rfl) (by rfl) ?_;exact ⟨by rw [HFD.out,HFE.out,HOK.out];rfl,GZ.out⟩
end Go.Proofs.YthaadgdeadbhkaaGreat
