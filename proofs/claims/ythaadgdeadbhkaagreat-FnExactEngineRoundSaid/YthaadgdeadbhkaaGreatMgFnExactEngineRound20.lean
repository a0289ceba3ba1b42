/-
 valueIn and TripleOpen of the program.
-/
import Derived.Test.YthaadgdeadbhkaaGreatMgFnExactEngineRound19
open Go.RowKit
set_option linter.unusedVariables false
set_option linter.unusedSimpArgs false
namespace Go.Proofs.YthaadgdeadbhkaaGreat
attribute [local simp] depsC dstAt kAt bindE List.filter_cons Zy Zp Zq Zr Zz Yu puts dsts Act.put
set_option maxHeartbeats 1000000 in
theorem Xr (k:KM) (a:AuM) (kv av:Value) (w0:World) (h:AggR w0 (ckeys k) kv) (ha:AggR w0 (cauth a) av) (he:elemsB k.p a.sh=true) (wa:awf a) :
  Calls Tryz.prog 123 #[kv,av] w0 fun e w'=>e=.returned (.int .i64 (fsum k.p a.sh))∧w0.grownBy w' none:=by
 obtain ⟨A,c,rfl,hc,hm,hI⟩:=ZK h;obtain ⟨Ba,da,Ca,fa,rfl,_,_,_,_,hSa,hMa⟩:=ZC ha;obtain ⟨w1,hw1⟩:∃x:World,((w0.alloc (.cells #[.int .i64 k.p,.slice A k.al.length c] 34)).alloc (.cells #[.slice Ba a.sh.length da,.slice Ca a.mc.length fa] 80))=x:=⟨_,rfl⟩;have G1:Hid (w0.grownBy w1 none):=by rw [← hw1];exact gbA (gbA (gbR _ _) _) _
 have D0:Hid (Blk w1 w0.heap.size 34 #[.int .i64 k.p,.slice A k.al.length c]):=by rw [← hw1];exact (Blk.new w0 _ _).grow (gbA (gbR _ _) _)
 have D1:Hid (Blk w1 (w0.heap.size+1) 80 #[.slice Ba a.sh.length da,.slice Ca a.mc.length fa]):=by rw [← hw1];exact Blk.new' _ _ _ _ (by simp)
 have IS:=zH (hSa.grow G1.out);have WA:=zH wa;have HE:=zH he;clear h ha hI hSa hMa wa he
 go_enter Tryz.func123,Tryz.ntmps123
 have k0:=D0.out.cell 0;have k1:=D0.out.cell 1;have a0:=D1.out.cell 0;have a1:=D1.out.cell 1;simp at k0 k1 a0 a1;go_wp2_with fail;clear hw1;refine (VQ k.p Ba _ da a.sh _ HE.out IS.out (by have:=WA.out.1;omega)).mono ?_;rintro e w2 ⟨rfl,rfl⟩;go_wp2_with fail;exact bodyPost_ret (v:=.int .i64 (fsum k.p a.sh)) (by simp [results,Tryz.results123]) rfl ⟨rfl,G1.out⟩
def openB (k:KM) (x y:AuM) (t:TrM):Bool:=formB k x&&formB k y&&formB k t.a&&formB k t.b
def openD (k:KM) (x y:AuM) (t:TrM):Int:=if openB k x y t then (fsum k.p x.sh - fsum k.p t.a.sh) % k.p else 0
def openE (k:KM) (x y:AuM) (t:TrM):Int:=if openB k x y t then (fsum k.p y.sh - fsum k.p t.b.sh) % k.p else 0
theorem Qh:St Tryz.prog 104 2:=⟨⟨_,Tryz.underlying104,rfl⟩,by kernel_rfl⟩
set_option maxHeartbeats 4000000 in
set_option maxRecDepth 100000 in
theorem Ur (k:KM) (x y:AuM) (t:TrM) (kv xv yv tv:Value) (w0:World) (h:AggR w0 (ckeys k) kv) (hx:AggR w0 (cauth x) xv) (hy:AggR w0 (cauth y) yv) (ht:AggR w0 (ctriple t) tv) (wk:kwf k) (wx:awf x) (wy:awf y) (wt:twf t) :
  Calls Tryz.prog 67 #[kv,xv,yv,tv] w0 fun r w'=>r=.returned (.tuple #[.agg #[.int .i64 (openD k x y t),.int .i64 (openE k x y t)],.bool (openB k x y t)])∧w0.grownBy w' none:=by
 obtain ⟨A,c,rfl,hc,hm,hI⟩:=ZK h;obtain ⟨X1,x1,X2,x2,rfl,_,_,_,_,_,_⟩:=ZC hx;obtain ⟨Y1,y1,Y2,y2,rfl,_,_,_,_,_,_⟩:=ZC hy;obtain ⟨A1,a1,A2,a2,B1,b1,B2,b2,C1,c1,C2,c2,rfl,ha,hb,hcc⟩:=YD ht;obtain ⟨w1,hw1⟩:∃z:World,(((((w0.alloc (.cells #[.int .i64 k.p,.slice A k.al.length c] 34)).alloc (.cells #[.slice X1 x.sh.length x1,.slice X2 x.mc.length x2] 80)).alloc (.cells #[.slice Y1 y.sh.length y1,.slice Y2 y.mc.length y2] 80)).alloc (.cells #[.slice A1 t.a.sh.length a1,.slice A2 t.a.mc.length a2,.slice B1 t.b.sh.length b1,.slice B2 t.b.mc.length b2,.slice C1 t.c.sh.length c1,.slice C2 t.c.mc.length c2] 82)).alloc (.cells #[.int .i64 0,.int .i64 0] 104))=z:=⟨_,rfl⟩;have G1:Hid (w0.grownBy w1 none):=by rw [← hw1];exact gbA (gbA (gbA (gbA (gbA (gbR _ _) _) _) _) _) _
 have z1:Hid (w1.heap.size=w0.heap.size+5):=by rw [← hw1];exact zH (by simp)
 have D0:Hid (Blk w1 (w0.heap.size) 34 #[.int .i64 k.p,.slice A k.al.length c]):=by rw [← hw1];exact ((((Blk.new w0 _ _).grow (gbA (gbR _ _) _)).grow (gbA (gbR _ _) _)).grow (gbA (gbR _ _) _)).grow (gbA (gbR _ _) _)
 have D1:Hid (Blk w1 (w0.heap.size+1) 80 #[.slice X1 x.sh.length x1,.slice X2 x.mc.length x2]):=by rw [← hw1];exact (((Blk.new' _ _ _ _ (by simp)).grow (gbA (gbR _ _) _)).grow (gbA (gbR _ _) _)).grow (gbA (gbR _ _) _)
 have D2:Hid (Blk w1 (w0.heap.size+1+1) 80 #[.slice Y1 y.sh.length y1,.slice Y2 y.mc.length y2]):=by rw [← hw1];exact ((Blk.new' _ _ _ _ (by simp)).grow (gbA (gbR _ _) _)).grow (gbA (gbR _ _) _)
 have D3:Hid (Blk w1 (w0.heap.size+1+1+1) 82 #[.slice A1 t.a.sh.length a1,.slice A2 t.a.mc.length a2,.slice B1 t.b.sh.length b1,.slice B2 t.b.mc.length b2,.slice C1 t.c.sh.length c1,.slice C2 t.c.mc.length c2]):=by rw [← hw1];exact (Blk.new' _ _ _ _ (by simp)).grow (gbA (gbR _ _) _)
 have D4:Hid (Blk w1 (w0.heap.size+1+1+1+1) 104 #[.int .i64 0,.int .i64 0]):=by rw [← hw1];exact Blk.new' _ _ _ _ (by simp)
 have HK:=zH (AggR.grow h G1.out);have HX:=zH (AggR.grow hx G1.out);have HY:=zH (AggR.grow hy G1.out);have HA:=zH (AggR.grow ha G1.out);have HB:=zH (AggR.grow hb G1.out);have IK:=zH h;have IX:=zH hx;have IY:=zH hy;have IA:=zH ha;have IB:=zH hb;have WK:=zH wk;have WX:=zH wx;have WY:=zH wy;have WA:=zH wt.1;have WB:=zH wt.2.1;clear h hx hy ht ha hb hcc hI wk wx wy wt;have HFB:Hid (openB k x y t=(formB k x&&formB k y&&formB k t.a&&formB k t.b)):=rfl;have HFD:Hid (openD k x y t=if openB k x y t then (fsum k.p x.sh - fsum k.p t.a.sh) % k.p else 0):=rfl;have HFE:Hid (openE k x y t=if openB k x y t then (fsum k.p y.sh - fsum k.p t.b.sh) % k.p else 0):=rfl
 go_enter Tryz.func67,Tryz.ntmps67
 have k0:=D0.out.cell 0;have k1:=D0.out.cell 1;have x0:=D1.out.cell 0;have x1':=D1.out.cell 1;have y0:=D2.out.cell 0;have y1':=D2.out.cell 1;have t0:=D3.out.cell 0;have t1:=D3.out.cell 1;have t2:=D3.out.cell 2;have t3:=D3.out.cell 3;simp at k0 k1 x0 x1' y0 y1' t0 t1 t2 t3;go_wp2_with fail;clear k0 k1 x0 x1' y0 y1' t0 t1 t2 t3 hw1;obtain ⟨VL,hVL⟩:∃l:List Value,l=[.slice X1 x.sh.length x1,.slice X2 x.mc.length x2,.slice Y1 y.sh.length y1,.slice Y2 y.mc.length y2,.slice A1 t.a.sh.length a1,.slice A2 t.a.mc.length a2,.slice B1 t.b.sh.length b1,.slice B2 t.b.mc.length b2]:=⟨_,rfl⟩;have HL:=zH (Vh (w:=w1) [x,y,t.a,t.b] VL 4 (by rw [hVL];exact RdAll.append2 (Vb (vs:=[_,_]) HX.out) (RdAll.append2 (Vb (vs:=[_,_]) HY.out) (RdAll.append2 (Vb (vs:=[_,_]) HA.out) (by simpa using Vb (vs:=[_,_]) HB.out)))) rfl (by omega));rw [hVL] at HL;have GL:=zH (gbA (gbR w1 none) (.cells #[.slice X1 x.sh.length x1,.slice X2 x.mc.length x2,.slice Y1 y.sh.length y1,.slice Y2 y.mc.length y2,.slice A1 t.a.sh.length a1,.slice A2 t.a.mc.length a2,.slice B1 t.b.sh.length b1,.slice B2 t.b.mc.length b2] 80))
 have HAL:Hid (([x,y,t.a,t.b].all (formA k)&&keysB k)=openB k x y t):=by
  unfold Hid openB formB;simp only [List.all_cons,List.all_nil,Bool.and_true]
  cases keysB k <;> simp [Bool.and_assoc]
 refine (Yz k [x,y,t.a,t.b] _ _ 4 4 _ (AggR.grow HK.out GL.out) HL.out WK.out (by intro z hz;simp at hz;rcases hz with rfl | rfl | rfl | rfl <;> first | exact WX.out | exact WY.out | exact WA.out | exact WB.out) (by omega)).mono ?_;rintro r wz ⟨rfl,g2⟩;have gz:=gbT GL.out g2;clear g2 HL GL hVL;rw [HAL.out]
 cases hok:openB k x y t
 ·rw [hok] at HFD HFE
  have RS:=zH (Zh (D4.out.grow gz) [.int .i64 0,.int .i64 0] rfl);have CH:=zH (Zc (w0.heap.size+1+1+1+1) [.int .i64 0,.int .i64 0] 0 wz);have r0:=(D4.out.grow gz).cell 0;have r1:=(D4.out.grow gz).cell 1;have s0:=(D4.out.grow gz).frozen 0;have s1:=(D4.out.grow gz).frozen 1;simp at r0 r1;have GG:=zH (gbT G1.out gz);clear gz;go_wp2_with fail;refine ret_ct Tryz.results67 (by rfl) Qh (cs:=#[.int .i64 0,.int .i64 0]) RS.out (by rfl) (by rfl) ?_;exact ⟨by rw [HFD.out,HFE.out,hok];rfl,Zv GG.out CH.out (by omega)⟩
 rw [hok,if_pos rfl] at HFD HFE;rw [hok] at HFB;have hq:=HFB.out.symm;obtain ⟨hq,qb⟩:=Bool.and_eq_true_iff.1 hq;obtain ⟨hq,qa⟩:=Bool.and_eq_true_iff.1 hq;obtain ⟨qx,qy⟩:=Bool.and_eq_true_iff.1 hq;have qk:=(ZN qx).1;have ex:=(ZN qx).2.2.2.1;have ey:=(ZN qy).2.2.2.1;have ea:=(ZN qa).2.2.2.1;have eb:=(ZN qb).2.2.2.1;have kf:=(YX qk).1;have EX:=zH ex;have EY:=zH ey;have EA:=zH ea;have EB:=zH eb;clear qb qa qx qy hq qk ex ey ea eb HFB HAL;obtain ⟨FX,hFX⟩:∃z,fsum k.p x.sh=z:=⟨_,rfl⟩;obtain ⟨FA,hFA⟩:∃z,fsum k.p t.a.sh=z:=⟨_,rfl⟩;obtain ⟨FY,hFY⟩:∃z,fsum k.p y.sh=z:=⟨_,rfl⟩;obtain ⟨FB,hFB⟩:∃z,fsum k.p t.b.sh=z:=⟨_,rfl⟩;have LFX:Hid (elemB k.p FX=true):=by rw [← hFX];exact zH (YH kf _)
 have LFA:Hid (elemB k.p FA=true):=by rw [← hFA];exact zH (YH kf _)
 have LFY:Hid (elemB k.p FY=true):=by rw [← hFY];exact zH (YH kf _)
 have LFB:Hid (elemB k.p FB=true):=by rw [← hFB];exact zH (YH kf _)
 rw [hFX,hFA] at HFD;rw [hFY,hFB] at HFE;obtain ⟨DD,hDD⟩:∃z,(FX - FA) % k.p=z:=⟨_,rfl⟩;obtain ⟨EE,hEE⟩:∃z,(FY - FB) % k.p=z:=⟨_,rfl⟩;rw [hDD] at HFD;rw [hEE] at HFE;have HFX:=zH hFX;have HFA:=zH hFA;have HFY:=zH hFY;have HFB:=zH hFB;have HDD:=zH hDD;have HEE:=zH hEE;have HOK:=zH hok;have E0:=zH (D0.out.grow gz);have E1:=zH (D1.out.grow gz);have E2:=zH (D2.out.grow gz);have E3:=zH (D3.out.grow gz);have E4:=zH (D4.out.grow gz);have GW:=zH (gbT G1.out gz);clear D0 D1 D2 D3 D4 HK HX HY HA HB G1 z1 gz hFX hFA hFY hFB hDD hEE hok;go_wp2_with fail;obtain ⟨gR,hgR⟩:∃g,w0.heap.size+1+1+1+1=g:=⟨_,rfl⟩;have hwR:w0.heap.size≤gR:=by omega
 rw [hgR] at E4 ⊢
 refine Zg [.rd (.pointer (some ⟨w0.heap.size,0,none⟩)),.rd (.int .i64 k.p),.rd (.agg #[.int .i64 k.p,.slice A k.al.length c]),.rd (.agg #[.slice X1 x.sh.length x1,.slice X2 x.mc.length x2]),.fl (isV (.int .i64 FX)),.rd (.agg #[.int .i64 k.p,.slice A k.al.length c]),.rd (.pointer (some ⟨w0.heap.size+1+1+1,0,none⟩)),.rd (.agg #[.slice A1 t.a.sh.length a1,.slice A2 t.a.mc.length a2]),.fl (isV (.int .i64 FA)),.fl (isV (.int .i64 DD)),.rd (.pointer (some ⟨w0.heap.size,0,none⟩)),.rd (.int .i64 k.p),.rd (.agg #[.int .i64 k.p,.slice A k.al.length c]),.rd (.agg #[.slice Y1 y.sh.length y1,.slice Y2 y.mc.length y2]),.fl (isV (.int .i64 FY)),.rd (.agg #[.int .i64 k.p,.slice A k.al.length c]),.rd (.pointer (some ⟨w0.heap.size+1+1+1,2,none⟩)),.rd (.agg #[.slice B1 t.b.sh.length b1,.slice B2 t.b.mc.length b2]),.fl (isV (.int .i64 FB)),.fl (isV (.int .i64 EE)),.rd (.agg #[.int .i64 DD,.int .i64 EE]),.ch,.ch] (fun z=>z=gR)
  [⟨[],fun _ w'=>wz.drew.grownBy w' none⟩,
   ⟨[],fun _ w'=>Blk w' gR 104 #[.int .i64 DD,.int .i64 EE]∧Chg (fun z=>z=gR) wz.drew w'⟩,
   ⟨[9],fun l w'=>l.getD 0 undef=.bool true∧Blk w' gR 104 #[.int .i64 DD,.int .i64 EE]∧Chg (fun z=>z=gR) wz.drew w'⟩]
  (by kernel_rfl) (by kernel_rfl) (by kernel_rfl) 2 (by kernel_rfl) ?_ (gbR _ _) rfl ?_ ?_
 ·have hst:Zn [⟨[],fun _ w'=>wz.drew.grownBy w' none⟩,
   ⟨[],fun _ w'=>Blk w' gR 104 #[.int .i64 DD,.int .i64 EE]∧Chg (fun z=>z=gR) wz.drew w'⟩,
   ⟨[9],fun l w'=>l.getD 0 undef=.bool true∧Blk w' gR 104 #[.int .i64 DD,.int .i64 EE]∧Chg (fun z=>z=gR) wz.drew w'⟩]:=by
   intro F hF;simp only [List.mem_cons,List.not_mem_nil,or_false] at hF
   rcases hF with rfl | rfl | rfl
   ·exact fun l w1 w2 h hg=>gbT h hg
   ·rintro l w1 w2 ⟨h1,h3⟩ hg
    exact ⟨h1.grow hg,h3.trans (Chg.of hg (by simp))⟩
   ·rintro l w1 w2 ⟨h0,h1,h3⟩ hg
    exact ⟨h0,h1.grow hg,h3.trans (Chg.of hg (by simp))⟩
  simp only [flOk,true_and,and_true];exact ⟨⟨Zb _,hst⟩,⟨Zb _,hst⟩,⟨Zb _,hst⟩,⟨Zb _,hst⟩,⟨Zb _,hst⟩,Zb _,hst⟩
 ·simp only [hopsK,hopK,Kd.next,and_true]
  refine ⟨?_, ?_, ?_, ?_, ?_, ?_, ?_, ?_, ?_, ?_, ?_, ?_, ?_, ?_, ?_, ?_, ?_, ?_, ?_, ?_, ?_, ?_, ?_⟩;rotate_left 4
  ·intro f w4 hG hd
   have kg:=zH (Zv (gbT GW.out (gbD (gbR wz none))) hG hwR)
   (try simp at hd)
   (first | simp [hd] | simp)
   clear hd;go_wp2_with fail;refine (Xr k x _ _ w4 (AggR.grow IK.out kg.out) (AggR.grow IX.out kg.out) EX.out WX.out).mono ?_;rintro e w6 ⟨rfl,g6⟩;rw [HFX.out];have G6:=zH g6;clear g6 kg;go_wp2_with fail;exact ⟨_,rfl,rfl,G6.out⟩
  rotate_left 3
  ·intro f w4 hG hd
   have kg:=zH (Zv (gbT GW.out (gbD (gbR wz none))) hG hwR)
   (try simp at hd)
   (first | simp [hd] | simp)
   clear hd;go_wp2_with fail;refine (Xr k t.a _ _ w4 (AggR.grow IK.out kg.out) (AggR.grow IA.out kg.out) EA.out WA.out).mono ?_;rintro e w6 ⟨rfl,g6⟩;rw [HFA.out];have G6:=zH g6;clear g6 kg;go_wp2_with fail;exact ⟨_,rfl,rfl,G6.out⟩
  ·intro f w4 hG hd
   (try simp at hd)
   simp only [isV] at hd
   (first | simp [hd] | simp)
   clear hd;go_wp2_with fail;refine (implFSub_y k.p FX FA w4 LFX.out LFA.out).mono ?_;rintro e w6 ⟨rfl,g6⟩;rw [HDD.out];have G6:=zH g6;clear g6;go_wp2_with fail;exact ⟨_,rfl,rfl,G6.out⟩
  rotate_left 4
  ·intro f w4 hG hd
   have kg:=zH (Zv (gbT GW.out (gbD (gbR wz none))) hG hwR)
   (try simp at hd)
   (first | simp [hd] | simp)
   clear hd;go_wp2_with fail;refine (Xr k y _ _ w4 (AggR.grow IK.out kg.out) (AggR.grow IY.out kg.out) EY.out WY.out).mono ?_;rintro e w6 ⟨rfl,g6⟩;rw [HFY.out];have G6:=zH g6;clear g6 kg;go_wp2_with fail;exact ⟨_,rfl,rfl,G6.out⟩
  rotate_left 3
  ·intro f w4 hG hd
   have kg:=zH (Zv (gbT GW.out (gbD (gbR wz none))) hG hwR)
   (try simp at hd)
   (first | simp [hd] | simp)
   clear hd;go_wp2_with fail;refine (Xr k t.b _ _ w4 (AggR.grow IK.out kg.out) (AggR.grow IB.out kg.out) EB.out WB.out).mono ?_;rintro e w6 ⟨rfl,g6⟩;rw [HFB.out];have G6:=zH g6;clear g6 kg;go_wp2_with fail;exact ⟨_,rfl,rfl,G6.out⟩
  ·intro f w4 hG hd
   (try simp at hd)
   simp only [isV] at hd
   (first | simp [hd] | simp)
   clear hd;go_wp2_with fail;refine (implFSub_y k.p FY FB w4 LFY.out LFB.out).mono ?_;rintro e w6 ⟨rfl,g6⟩;rw [HEE.out];have G6:=zH g6;clear g6;go_wp2_with fail;exact ⟨_,rfl,rfl,G6.out⟩
  rotate_left 1
  ·intro f w4 hG hI hd
   have hI:wz.drew.grownBy w4 none:=hI
   (try simp at hd)
   have R4:=E4.out.grow (gbT (gbD (gbR wz none)) hI);have f0:=R4.frozen 0;have f1:=R4.frozen 1;have b0:=R4.cell 0;have b1:=R4.cell 1;simp at b0 b1;have RS:=zH (Zh R4 [.int .i64 DD,.int .i64 EE] rfl);have CW:=zH (Zc gR [.int .i64 DD,.int .i64 EE] 0 w4);have CS:=zH ((Chg.of (S:=fun y=>y=gR) hI (by simp)).trans CW.out);clear R4 hI;simp [puts,dsts,Act.put,hd];clear hd;go_wp2_with fail;exact ⟨rfl,⟨.bool false,RS.out,CS.out⟩,CW.out,by simp [keepsC,dstAt,isV]⟩
  ·intro f w4 hG hI hd
   obtain ⟨R4,C4⟩:=hI;clear hd;simp [puts,dsts,Act.put];go_wp2_with fail;exact ⟨.bool true,rfl,rfl,R4,C4⟩
  all_goals
   intro f w4 hG hd;have kg:=gbD (gbR wz none);have k0:=((E0.out.grow kg).chg hG (by omega)).cell 0;have k1:=((E0.out.grow kg).chg hG (by omega)).cell 1;have x0:=((E1.out.grow kg).chg hG (by omega)).cell 0;have x1':=((E1.out.grow kg).chg hG (by omega)).cell 1;have y0:=((E2.out.grow kg).chg hG (by omega)).cell 0;have y1':=((E2.out.grow kg).chg hG (by omega)).cell 1;have t0:=((E3.out.grow kg).chg hG (by omega)).cell 0;have t1:=((E3.out.grow kg).chg hG (by omega)).cell 1;have t2:=((E3.out.grow kg).chg hG (by omega)).cell 2;have t3:=((E3.out.grow kg).chg hG (by omega)).cell 3;simp at k0 k1 x0 x1' y0 y1' t0 t1 t2 t3;clear kg
   (try simp at hd)
   try simp only [isV] at hd
   (first | simp [hd] | simp)
   clear hd;go_wp2_with fail;exact ⟨rfl,rfl⟩
 intro f w9 hI hd;obtain ⟨e9,hBR,hCZ⟩:=hI;have hCZ:=chgDr hCZ;have GZ:=zH (Zv GW.out hCZ hwR);have e9:f 9=.bool true:=e9;simp only [puts,dsts,Act.put,zB,zC,zA,zD,zE,e9];clear hd e9;go_wp2_with fail;refine ret_ct Tryz.results67 (by rfl) Qh (cs:=#[.int .i64 DD,.int .i64 EE]) hBR (by rfl) (by rfl) ?_;exact ⟨by rw [HFD.out,HFE.out,HOK.out];rfl,GZ.out⟩
end Go.Proofs.YthaadgdeadbhkaaGreat
namespace Go.Proofs.YthaadgdeadbhkaaGreat
def tnA (s a P:Nat):Nat:=belN s a P
def tnB (s a P:Nat):Nat:=belN s (a+1) P
def tripleNew (k:KM) (P s a:Nat):TrM :=
 ⟨Qd k P s (a+2) (tnA s a P),Qd k P s (a+2+2*(k.al.length - 1)) (tnB s a P),Qd k P s (a+2+4*(k.al.length - 1)) (((tnA s a P:Int)*(tnB s a P:Int)) % k.p)⟩
theorem stTriple:St Tryz.prog 82 6:=⟨⟨_,Tryz.underlying82,rfl⟩,by kernel_rfl⟩
def OwnE (w:World) (cs:List CS) (vs:List Value):Prop:=vs.length=cs.length∧∀(i:Nat) (c:CS) (v:Value),cs[i]?=some c→vs[i]?=some v→∃F,c.own w F v
def AggE (w:World) (cs:List CS) (v:Value):Prop:=∃vs:List Value,v=.agg vs.toArray∧OwnE w cs vs
theorem OwnE.rd {w:World} {cs:List CS} {vs:List Value} (h:OwnE w cs vs):RdAll w cs vs:=⟨h.1,fun i c v hc hv=>by
 obtain ⟨F,hF⟩:=h.2 i c v hc hv
 exact c.toRd hF⟩
theorem AggE.rd {w:World} {cs:List CS} {v:Value} (h:AggE w cs v):AggR w cs v:=by
 obtain ⟨vs,rfl,h⟩:=h;exact ⟨vs,rfl,h.rd⟩
theorem OwnE.append {w:World} {cs ds:List CS} {vs us:List Value} (h:OwnE w cs vs) (k:OwnE w ds us):OwnE w (cs ++ ds) (vs ++ us):=by
 refine ⟨by simp [h.1,k.1],fun i c v hc hv => ?_⟩;rw [List.getElem?_append] at hc hv;rw [h.1] at hv
 split at hc
 ·rename_i hl
  rw [if_pos hl] at hv;exact h.2 i c v hc hv
 ·rename_i hl
  rw [if_neg hl] at hv;exact k.2 _ c v hc hv
def zeroA (a:AuM):Bool:=decide (a.sh.length=0)&&decide (a.mc.length=0)
set_option maxHeartbeats 1000000 in
theorem Zt (a:AuM) (av:Value) (w0:World) (ha:AggR w0 (cauth a) av) :
  Calls Tryz.prog 124 #[av] w0 fun e w'=>e=.returned (.bool (zeroA a))∧w0.grownBy w' none:=by
 obtain ⟨Ba,da,Ca,fa,rfl,_,_,_,_,hSa,hMa⟩:=ZC ha;obtain ⟨w1,hw1⟩:∃x:World,w0.alloc (.cells #[.slice Ba a.sh.length da,.slice Ca a.mc.length fa] 80)=x:=⟨_,rfl⟩;have G1:Hid (w0.grownBy w1 none):=by rw [← hw1];exact gbA (gbR _ _) _
 have D1:Hid (Blk w1 w0.heap.size 80 #[.slice Ba a.sh.length da,.slice Ca a.mc.length fa]):=by rw [← hw1];exact Blk.new w0 _ _
 have HZ:Hid (zeroA a=(decide (a.sh.length=0)&&decide (a.mc.length=0))):=rfl;clear ha hSa hMa
 cases hs:decide (a.sh.length=0)
 ·rw [hs,Bool.false_and] at HZ
  have hs':¬a.sh.length=0:=by simpa using hs
  have d1:(((a.sh.length:Int) == 0))=false:=by simpa using hs'
  clear hs
  go_enter Tryz.func124,Tryz.ntmps124
  have a0:=D1.out.cell 0;have a1:=D1.out.cell 1;simp at a0 a1;go_wp2_with fail;exact bodyPost_ret (v:=.bool false) (by simp [results,Tryz.results124]) rfl ⟨retB HZ.out.symm,G1.out⟩
 ·have hs':a.sh.length=0:=by simpa using hs
  rw [hs,Bool.true_and] at HZ;clear hs;have d1:(((a.sh.length:Int) == 0))=true:=by simpa using hs'
  have hs':=zH hs'
  go_enter Tryz.func124,Tryz.ntmps124
  have a0:=D1.out.cell 0;have a1:=D1.out.cell 1;simp at a0 a1;go_wp2_with fail
  have hz:((a.mc.length:Int) == 0)=zeroA a:=by
   rw [HZ.out]
   by_cases h:a.mc.length=0 <;> simp [h]
  exact bodyPost_ret (v:=.bool ((a.mc.length:Int) == 0)) (by simp [results,Tryz.results124]) rfl ⟨retB hz,gbA (gbR _ _) _⟩
attribute [local simp] depsC dstAt kAt bindE List.filter_cons Zy Zp Zq Zr Zz Yu puts dsts Act.put
set_option maxHeartbeats 2000000 in
set_option maxRecDepth 100000 in
theorem implcopyAuth_c (a:AuM) (av:Value) (w0:World) (ha:AggR w0 (cauth a) av) (wa:awf a) :
  Calls Tryz.prog 131 #[av] w0 fun e w'=>∃v,e=.returned v∧autF w0.heap.size a v w'∧w0.grownBy w' none:=by
 obtain ⟨Ba,da,Ca,fa,rfl,_,_,_,_,hSa,hMa⟩:=ZC ha;obtain ⟨w1,hw1⟩:∃x:World,((w0.alloc (.cells #[.slice Ba a.sh.length da,.slice Ca a.mc.length fa] 80)).alloc (.cells #[.slice none 0 0,.slice none 0 0] 80))=x:=⟨_,rfl⟩;have GW:Hid (w0.grownBy w1 none):=by rw [← hw1];exact gbA (gbA (gbR _ _) _) _
 have z1:Hid (w1.heap.size=w0.heap.size+2):=by rw [← hw1];exact zH (by simp)
 have D1:Hid (Blk w1 w0.heap.size 80 #[.slice Ba a.sh.length da,.slice Ca a.mc.length fa]):=by rw [← hw1];exact (Blk.new w0 _ _).grow (gbA (gbR _ _) _)
 have D3:Hid (Blk w1 (w0.heap.size+1) 80 #[.slice none 0 0,.slice none 0 0]):=by rw [← hw1];exact Blk.new' _ _ _ _ (by simp)
 have IS:=zH (hSa.grow GW.out);have IM:=zH (hMa.grow GW.out);have WA:=zH wa;clear ha hSa hMa wa
 go_enter Tryz.func131,Tryz.ntmps131
 go_wp2_with fail;clear hw1;obtain ⟨lo,hlo⟩:∃lo,w0.heap.size+2=lo:=⟨_,rfl⟩;obtain ⟨gR,hgR'⟩:∃g,w0.heap.size+1=g:=⟨_,rfl⟩;have hgR:gR<lo:=by omega
 have hwR:w0.heap.size≤gR:=by omega
 have hlz:lo≤w1.heap.size:=by have:=z1.out;omega
 rw [hgR'] at D3 ⊢
 refine Zg [.rd (.pointer (some ⟨w0.heap.size,0,none⟩)),.rd (.slice Ba a.sh.length da),.ch,.rd (.pointer (some ⟨w0.heap.size,1,none⟩)),.rd (.slice Ca a.mc.length fa),.ch,.ch,.ch] (fun _=>False)
  [⟨[],fun _ w'=>w1.drew.grownBy w' none⟩,
   ⟨[5],fun l w'=>row1 lo a.sh.length a.sh (l.getD 0 undef) w'∧w1.drew.grownBy w' none⟩,
   ⟨[5,8],fun l w'=>row2 lo a.sh.length a.mc.length a.sh a.mc (l.getD 0 undef) (l.getD 1 undef) w'∧w1.drew.grownBy w' none⟩,
   ⟨[9],fun l w'=>autF lo ⟨a.sh,a.mc⟩ (l.getD 0 undef) w'∧w1.drew.grownBy w' none⟩,
   ⟨[],fun _ w'=>(∃A9 n9 c9 B9 k9 d9,autF lo ⟨a.sh,a.mc⟩ (.agg #[.slice A9 n9 c9,.slice B9 k9 d9]) w'∧Blk w' gR 80 #[.slice A9 n9 c9,.slice B9 k9 d9])∧w1.heap.size≤w'.heap.size∧w0.grownBy w' none⟩]
  (by kernel_rfl) (by kernel_rfl) (by kernel_rfl) 4 (by kernel_rfl) (by simp only [flOk,and_true]) (gbR _ _) rfl ?_ ?_
 ·simp only [hopsK,hopK,Kd.next,and_true]
  refine ⟨?_, ?_, ?_, ?_, ?_, ?_, ?_, ?_⟩;rotate_left 2
  ·intro f w4 hG hI hd
   have hI:w1.drew.grownBy w4 none:=hI;have hg4:=gbT (gbD (gbR w1 none)) hI;have hz4:=hg4.size
   (try simp at hd)
   (first | simp [hd] | simp)
   clear hd;go_wp2_with fail;refine (Qv Ba a.sh.length da a.sh w4 (IS.out.grow hg4) (by have:=WA.out.1;omega)).mono ?_;rintro e w6 ⟨v6,rfl,o6,g6⟩;have O6:=zH (ZQ o6 (show lo≤w4.heap.size by omega));have G6:=zH (gbT hI g6);have Q6:=zH g6;clear o6 g6;go_wp2_with fail;exact ⟨_,rfl,⟨row1.of O6.out,G6.out⟩,⟨Chg.of Q6.out (by simp),by simp [keepsC]⟩⟩
  rotate_left 2
  ·intro f w4 hG hI hd
   obtain ⟨h1,hI⟩:=hI;have H1:Hid (row1 lo a.sh.length a.sh (f 5) w4):=zH h1;have hg4:=gbT (gbD (gbR w1 none)) hI;have hz4:=hg4.size;clear h1
   (try simp at hd)
   (first | simp [hd] | simp)
   clear hd;go_wp2_with fail;refine (Qv Ca a.mc.length fa a.mc w4 (IM.out.grow hg4) (by have:=WA.out.2;omega)).mono ?_;rintro e w6 ⟨v6,rfl,o6,g6⟩;have R6:=zH (row2.of H1.out g6 (show lo≤w4.heap.size by omega) o6);have G6:=zH (gbT hI g6);have Q6:=zH g6;clear o6 g6;go_wp2_with fail;exact ⟨_,rfl,⟨R6.out,G6.out⟩,⟨Chg.of Q6.out (by simp),by simp [keepsC]⟩⟩
  ·intro f w4 hG hI hd
   obtain ⟨h1,hI⟩:=hI;have h1:row2 lo a.sh.length a.mc.length a.sh a.mc (f 5) (f 8) w4:=h1;have HA:=h1.agg;obtain ⟨A1,c1,e1⟩:=h1.f1;obtain ⟨A2,c2,e2⟩:=h1.f2;rw [e1,e2] at HA;have HA:=zH HA;clear h1 hd;simp [puts,dsts,Act.put,e1,e2];go_wp2_with fail;exact ⟨_,rfl,⟨HA.out,hI⟩,⟨Chg.refl _ _,by simp [keepsC]⟩⟩
  ·intro f w4 hG hI hd
   obtain ⟨h1,hI⟩:=hI;have h1:autF lo ⟨a.sh,a.mc⟩ (f 9) w4:=h1;obtain ⟨A9,n9,c9,B9,k9,d9,e9⟩:=h1.form;rw [e9] at h1;have hg4:=gbT (gbD (gbR w1 none)) hI;have R4:=(D3.out).grow hg4;have f0:=R4.frozen 0;have f1:=R4.frozen 1;have b0:=R4.cell 0;have b1:=R4.cell 1;simp at b0 b1;have RS:=zH (Zh R4 [.slice A9 n9 c9,.slice B9 k9 d9] rfl);have CH:=Zc gR [.slice A9 n9 c9,.slice B9 k9 d9] 0 w4;have AS:=zH (h1.chg CH hgR);have GS:=zH (Zv (gbT GW.out hg4) CH hwR);have ZS:=zH (Nat.le_trans hg4.size CH.size);clear R4 h1 hI CH
   (try simp at hd)
   simp [puts,dsts,Act.put,e9];go_wp2_with fail;exact ⟨rfl,.bool false,⟨A9,n9,c9,B9,k9,d9,AS.out,RS.out⟩,ZS.out,GS.out⟩
  all_goals
   intro f w4 hG hd;have hg4:=gbT (gbD (gbR w1 none)) (chgF hG);have k1:=(D1.out.grow hg4).cell 0;have k2:=(D1.out.grow hg4).cell 1;simp at k1 k2
   (try simp at hd)
   (first | simp [hd] | simp)
   clear hd;go_wp2_with fail;exact ⟨rfl,rfl⟩
 intro f w9 hI hd;obtain ⟨⟨A9,n9,c9,B9,k9,d9,hAU,hBR⟩,_,hGZ⟩:=hI;simp only [puts,dsts,Act.put,zB,zC,zA,zD,zE];clear hd;go_wp2_with fail;refine Yo Tryz.results131 (by rfl) stAuth (cs:=#[.slice A9 n9 c9,.slice B9 k9 d9]) hBR (by rfl) (by rfl) ?_;exact ⟨_,rfl,autF.lo hAU (by omega),hGZ⟩
end Go.Proofs.YthaadgdeadbhkaaGreat
namespace Go.Proofs.YthaadgdeadbhkaaGreat
section
variable {P:Program}
theorem Us (w:World) (t ty e:TypeId) (i:TypeInfo) (z:Value) (size bytes:Nat) (ht:P.underlying t=some (.slice e)) (hi:P.info? e=some i) (hz:i.zero=some z)
  (hsize:i.size=size) (hby:i.bytes=bytes) (hzs:z.cells.size=size) (hsz:0<size)
  (g:Nat) (hown:w.ownsRow 0 e size (.slice (some ⟨g,0,none⟩) 0 0) 0 [])
  (a:Addr) (m c:Nat) (news:List Value) (hl:news.length=m*size) (hnews:∀j u,news[j]?=some u→w.cell? (a.add j)=some u) (h1:∀u∈news,u.oneCell'=true)
  (h63:m≤maxLen) (hbytes:m*bytes≤140737488355328) :
  ∃v' w',(Builtin.append_ #[t,t] ty #[.slice (some ⟨g,0,none⟩) 0 0,.slice (some a) m c]).run P w=.ok v' w'∧w'.ownsRow 0 e size v' m news∧w.grownBy w' none∧(∀g',v'.ownBlock=some g'→g'=g∨w.heap.size≤g'):=by
 subst hsize;subst hby
 rcases Nat.eq_zero_or_pos m with h0 | h0
 ·subst h0
  obtain rfl:news=[]:=List.eq_nil_of_length_eq_zero (by simpa using hl);have hr:=run_append_room_cells (P:=P) (w:=w) t ty e i ht hi g 0 0 0 a 0 c [] (by simp) (by simp) (by simp) (by simp) (by simp) (by simp);refine ⟨_,_,hr, ?_, ?_, ?_⟩
  ·exact hown
  ·exact gbR _ _
  ·intro g' hg'
   simp [Value.ownBlock] at hg';exact .inl hg'.symm
 ·obtain ⟨v',w',hr,ho,hgr,_⟩:=run_append_own w 0 t ty e i z i.size i.bytes ht hi hz rfl rfl hzs hsz _ 0 [] hown a m c news hl hnews h1 (by omega) (by simpa using hbytes) (Nat.zero_le _)
  have holds:∀j u,([]:List Value)[j]?=some u→w.cell? ((⟨g,0,none⟩:Addr).add j)=some u:=fun j u h=>by simp at h
  have hr2:=run_append_grow (P:=P) w t ty e i z ht hi hz ⟨g,0,none⟩ 0 0 [] (by simp) holds a m c news hl hnews (by omega) (by simp only [maxLen] at h63;omega) (growslice_fits (by omega) (by simpa using hbytes));rw [hr] at hr2;injection hr2 with e1 e2;subst e2;refine ⟨_,_,hr,by simpa using ho,gbA (gbD (gbR _ _)) _,fun g' hg'=>.inr ?_⟩;subst e1;simp [Value.ownBlock] at hg';omega
variable {ops:Array Oper} {rest:List Oper} {o:Oper} {a:Act} {Q:Exit→Act→World→Prop}
theorem wp_appendE (wr:World) {t e:TypeId} {z:Value} {size bytes:Nat} (E:El P t e z size bytes) (hgd:o.guard=none) (s x:Operand)
  (ho:o.op=.call { callee:=.builtin .append,args:=#[s,x],argTypes:=#[t,t] })
  (g:Nat) (hown:wr.ownsRow 0 e size (.slice (some ⟨g,0,none⟩) 0 0) 0 []) (hs:a.eval s=.slice (some ⟨g,0,none⟩) 0 0) (A:Option Addr) (m c:Nat) (ys:List Value) (hx:a.eval x=.slice A m c) (hr:Rd wr size A m ys) (h1:∀u∈ys,u.oneCell'=true)
  (hn:m≤maxLen) (hb:m*bytes≤140737488355328)
  (h:∀v' w',w'.ownsRow 0 e size v' m ys→wr.grownBy w' none→(∀g',v'.ownBlock=some g'→g'=g∨wr.heap.size≤g')→wpList P ops Q rest (a.put o.dst v') w') :
  wpList P ops Q (o :: rest) a wr:=by
 obtain ⟨i,hi,hz0,hz1,hz2⟩:=info_parts E.hi
 have key:∀ad:Addr,A=some ad→(∀j u,ys[j]?=some u→wr.cell? (ad.add j)=some u)→wpList P ops Q (o :: rest) a wr:=fun ad hA hc=>by
  obtain ⟨v',w',hr,h2,h3,h4⟩:=Us (P:=P) wr t o.type e i z size bytes E.ht hi hz0 hz1 hz2 E.hz E.hs g hown ad m c ys hr.1 hc h1 hn hb;refine wpList_plain hgd fun _ hK => ?_;unfold Oper.wp execOp;simp only [ho,resolve,invoke,builtin,Sem.run_bind,Sem.run_pure,Result.andThen_ok,List.map_toArray,List.map_cons,List.map_nil,hs,hx,hA,hr];exact hK _ _ (h v' w' h2 h3 h4)
 rcases Nat.eq_zero_or_pos m with h0 | h0
 ·subst h0
  have hys:ys=[]:=List.eq_nil_of_length_eq_zero (by simpa using hr.1);subst hys
  cases A with
  | some ad=>exact key ad rfl fun j u hu=>by simp at hu
  | none =>
   refine wpList_plain hgd fun _ hK => ?_;have hrun:=Xb (P:=P) wr 0 t o.type e i size E.ht hi _ 0 [] hown c;unfold Oper.wp execOp;simp only [ho,resolve,invoke,builtin,Sem.run_bind,Sem.run_pure,Result.andThen_ok,List.map_toArray,List.map_cons,List.map_nil,hs,hx,hrun];exact hK _ _ (h _ wr hown (gbR _ _) fun g' hg=>.inl (by simp [Value.ownBlock] at hg;exact hg.symm))
 ·obtain ⟨b,off,hA,hb',hc⟩:=hr.2 h0
  refine key ⟨b,off,none⟩ hA fun j u hu => ?_;have hadd:(⟨b,off,none⟩:Addr).add j=⟨b,off+j,none⟩:=by unfold Addr.add;split <;> simp_all
  have hj:j<m*size:=by rw [← hr.1];exact (List.getElem?_eq_some_iff.1 hu).1
  rw [hadd,hc j hj,hu]
end
theorem Chg.rdk {S:Nat→Prop} {w w':World} {sz n:Nat} {A:Option Addr} {xs:List Value} (h:Rd w sz A n xs) (k:Chg S w w') (hs:0<n→∀a,A=some a→¬S a.block):Rd w' sz A n xs:=by
 rcases Nat.eq_zero_or_pos n with h0 | h0
 ·exact ⟨h.1,fun hn=>by omega⟩
 ·exact Chg.rd h k (hs h0)
def Wq:Code→List Code
 | .loop c=>.loop c :: Wq c
 | .region i o d=>[.region i o d]
 | .seq a b=>Wq a ++ Wq b
 | .block _ c=>Wq c
 | .scope c=>Wq c
 | .cond _ a b=>Wq a ++ Wq b
 | _=>[]
def isReg (k:Nat):Code→Bool
 | .region i _ _=>i == k
 | _=>false
noncomputable def regNo (f:Func) (k:Nat):Code:=((Wq (f.body.getD .skip)).find? (isReg k)).getD .skip
structure AS (lo g:Nat) (m:AM) (u1 u2:Value) (F1 F2:List Nat) (w:World):Prop where
 blk:Blk w g 38 #[.int .i64 m.p,u1,u2]
 s:(csteps m.st).own w F1 u1
 o:(cints m.outs).own w F2 u2
 l1:∀y∈F1,lo≤y∧y≠g∧y∉F2
 l2:∀y∈F2,lo≤y∧y≠g
 lg:lo≤g
def ASE (lo g:Nat) (m:AM) (w:World):Prop:=∃u1 u2 F1 F2,AS lo g m u1 u2 F1 F2 w
section
variable {lo g:Nat} {m:AM} {u1 u2:Value} {F1 F2:List Nat} {w w':World}
theorem AS.grow (h:AS lo g m u1 u2 F1 F2 w) (k:w.grownBy w' none):AS lo g m u1 u2 F1 F2 w':=⟨h.blk.grow k,Zj _ h.s k,Zj _ h.o k,h.l1,h.l2,h.lg⟩
theorem ASE.grow (h:ASE lo g m w) (k:w.grownBy w' none):ASE lo g m w':=by
 obtain ⟨u1,u2,F1,F2,h⟩:=h;exact ⟨u1,u2,F1,F2,h.grow k⟩
theorem AS.chg {S:Nat→Prop} (h:AS lo g m u1 u2 F1 F2 w) (k:Chg S w w') (hs:∀y,S y→y<lo):AS lo g m u1 u2 F1 F2 w' :=
 ⟨h.blk.chg k (fun e=>by have:=hs _ e;have:=h.lg;omega),ZO _ h.s k (fun y hy e=>by have:=hs _ e;have:=(h.l1 y hy).1;omega),ZO _ h.o k (fun y hy e=>by have:=hs _ e;have:=(h.l2 y hy).1;omega),h.l1,h.l2,h.lg⟩
theorem ASE.chg {S:Nat→Prop} (h:ASE lo g m w) (k:Chg S w w') (hs:∀y,S y→y<lo):ASE lo g m w':=by
 obtain ⟨u1,u2,F1,F2,h⟩:=h;exact ⟨u1,u2,F1,F2,h.chg k hs⟩
theorem AS.steps {S:Nat→Prop} {l:List (Int × Int × Int)} {v:Value} {F:List Nat} (h:AS lo g m u1 u2 F1 F2 w) (k:Chg S w w') (hs:∀y,S y→y<lo∨y∈F1) (hv:(csteps l).own w' F v) (hF:∀y∈F,y∈F1∨w.heap.size≤y) :
  AS lo g { m with st:=l } v u2 F F2 (w'.setCell ⟨g,1,none⟩ v):=by
 have hb:=(h.blk.chg k (fun e=>by
  rcases hs _ e with e | e
  ·have:=h.lg;omega
  ·exact (h.l1 g e).2.1 rfl)).set_ 1 v
 have ho:=ZO _ h.o k (fun y hy e=>by
  rcases hs _ e with e | e
  ·have:=(h.l2 y hy).1;omega
  ·exact (h.l1 y e).2.2 hy)
 have hl:∀y∈F,lo≤y∧y≠g∧y∉F2:=fun y hy=>by
  rcases hF y hy with e | e
  ·exact h.l1 y e
  ·exact ⟨by have:=h.blk.lt;have:=h.lg;omega,fun e'=>by have:=h.blk.lt;omega,fun e'=>by have:=CS.lt _ h.o y e';omega⟩
 exact ⟨by simpa using hb,Vr _ hv g 1 (fun hx=>(hl g hx).2.1 rfl) v,Vr _ ho g 1 (fun hx=>(h.l2 g hx).2 rfl) v,hl,h.l2,h.lg⟩
theorem AS.outs {S:Nat→Prop} {l:List Int} {v:Value} {F:List Nat} (h:AS lo g m u1 u2 F1 F2 w) (k:Chg S w w') (hs:∀y,S y→y<lo∨y∈F2) (hv:(cints l).own w' F v) (hF:∀y∈F,y∈F2∨w.heap.size≤y) :
  AS lo g { m with outs:=l } u1 v F1 F (w'.setCell ⟨g,2,none⟩ v):=by
 have hb:=(h.blk.chg k (fun e=>by
  rcases hs _ e with e | e
  ·have:=h.lg;omega
  ·exact (h.l2 g e).2 rfl)).set_ 2 v
 have ho:=ZO _ h.s k (fun y hy e=>by
  rcases hs _ e with e | e
  ·have:=(h.l1 y hy).1;omega
  ·exact (h.l1 y hy).2.2 e)
 have hl:∀y∈F,lo≤y∧y≠g∧y∉F1:=fun y hy=>by
  rcases hF y hy with e | e
  ·exact ⟨(h.l2 y e).1,(h.l2 y e).2,fun e'=>(h.l1 y e').2.2 e⟩
  ·exact ⟨by have:=h.blk.lt;have:=h.lg;omega,fun e'=>by have:=h.blk.lt;omega,fun e'=>by have:=CS.lt _ h.s y e';omega⟩
 exact ⟨by simpa using hb,Vr _ ho g 2 (fun hx=>(h.l1 g hx).2.1 rfl) v,Vr _ hv g 2 (fun hx=>(hl g hx).2.1 rfl) v,fun y hy=>⟨(h.l1 y hy).1,(h.l1 y hy).2.1,fun e=>(hl y e).2.2 hy⟩,fun y hy=>⟨(hl y hy).1,(hl y hy).2.1⟩,h.lg⟩
end
end Go.Proofs.YthaadgdeadbhkaaGreat
