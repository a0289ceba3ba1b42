/-
 EngineNew of the program: where it gives an engine.
-/
import Derived.Test.YthaadgdeadbhkaaGreatMgFnExactEngineRound31
open Go.RowKit
set_option linter.unusedVariables false
set_option linter.unusedSimpArgs false
namespace Go.Proofs.YthaadgdeadbhkaaGreat
theorem newB_is {k:KM} {c:AM} {ins:List Int} {s a:Int} (h:newB k c ins s a=true):keysB k=true∧AOk c∧k.p=c.p∧ins.length=60∧elemsB c.p ins=true∧tapeB s a=true∧a≤900000:=by
 unfold newB at h;simp only [Bool.and_eq_true,beq_iff_eq,Bool.not_eq_true',decide_eq_false_iff_not] at h;obtain ⟨⟨⟨⟨⟨⟨h1,h2⟩,h3⟩,h4⟩,h5⟩,h6⟩,h7⟩:=h;exact ⟨h1,arithB_is h2,h3,by omega,h5,h6,by omega⟩
def zroF (n:Nat) (v:Value) (w:World):Prop:=∃A c B d,v=.agg #[.slice A n c,.slice B n d]∧AggR w (cauth (zerosA n)) (.agg #[.slice A n c,.slice B n d])
theorem zroF.of {lo lo' n:Nat} {A B:Option Addr} {c d:Nat} {w:World} (h:w.ownsRow lo 3 1 (.slice A n c) n ((List.replicate n 0).map (Value.int .i64))) (k:w.ownsRow lo' 3 1 (.slice B n d) n ((List.replicate n 0).map (Value.int .i64))):zroF n (.agg #[.slice A n c,.slice B n d]) w :=
 ⟨A,c,B,d,rfl,WE (CS.toRd _ (Yi h)) (CS.toRd _ (Yi k))⟩
attribute [local simp] depsC dstAt kAt bindE List.filter_cons Zy Zp Zq Zr Zz Yu puts dsts Act.put
set_option maxHeartbeats 1000000 in
theorem Xi (k:KM) (a:AuM) (kv av:Value) (w0:World) (h:AggR w0 (ckeys k) kv) (ha:AggR w0 (cauth a) av) (he:elemsB k.p a.sh=true) (wa:awf a) :
  Calls Tryz.prog 153 #[kv,av] w0 fun e w'=>e=.returned (.int .i64 (fsum k.p a.sh))∧w0.grownBy w' none:=by
 obtain ⟨A,c,rfl,hc,hm,hI⟩:=ZK h;obtain ⟨Ba,da,Ca,fa,rfl,_,_,_,_,hSa,hMa⟩:=ZC ha;obtain ⟨w1,hw1⟩:∃x:World,((w0.alloc (.cells #[.int .i64 k.p,.slice A k.al.length c] 34)).alloc (.cells #[.slice Ba a.sh.length da,.slice Ca a.mc.length fa] 80))=x:=⟨_,rfl⟩;have G1:Hid (w0.grownBy w1 none):=by rw [← hw1];exact gbA (gbA (gbR _ _) _) _
 have D0:Hid (Blk w1 w0.heap.size 34 #[.int .i64 k.p,.slice A k.al.length c]):=by rw [← hw1];exact (Blk.new w0 _ _).grow (gbA (gbR _ _) _)
 have D1:Hid (Blk w1 (w0.heap.size+1) 80 #[.slice Ba a.sh.length da,.slice Ca a.mc.length fa]):=by rw [← hw1];exact Blk.new' _ _ _ _ (by simp)
 have IS:=zH (hSa.grow G1.out);have WA:=zH wa;have HE:=zH he;clear h ha hI hSa hMa wa he
 go_enter Tryz.func153,Tryz.ntmps153
 have k0:=D0.out.cell 0;have k1:=D0.out.cell 1;have a0:=D1.out.cell 0;have a1:=D1.out.cell 1;simp at k0 k1 a0 a1;go_wp2_with fail;clear hw1;refine (VP k.p Ba _ da a.sh _ HE.out IS.out (by have:=WA.out.1;omega)).mono ?_;rintro e w2 ⟨rfl,rfl⟩;go_wp2_with fail;exact bodyPost_ret (v:=.int .i64 (fsum k.p a.sh)) (by simp [results,Tryz.results153]) rfl ⟨rfl,G1.out⟩
theorem Vc (A:Option Addr) (n c:Nat) (es:List Int) (i:Nat) (w:World) (h:Ints w A n es) (hi:i≤1048576) :
  Calls Tryz.prog 103 #[.slice A n c,.int .i64 i] w fun e w'=>e=.returned (.int .i64 (errAt es i))∧w=w':=by
 have HL:=zH h.len
 by_cases hlt:i<n
 ·obtain ⟨b,o,rfl,hb,hc⟩:=h.at_ (by omega)
  have c0:=hc i hlt;have HE:Hid (errAt es i=es.getD i 0):=rfl;have i1:(i:Int)<(n:Int):=by omega
  clear hc h
  go_enter Tryz.func103,Tryz.ntmps103
  go_wp2_with fail;go_ret;exact ⟨retI HE.out.symm,rfl⟩
 ·have HE:Hid (errAt es i=0):=by
   unfold Hid errAt;rw [zF,List.getElem?_eq_none (by rw [HL.out];omega)];rfl
  have i1:¬(i:Int)<(n:Int):=by omega
  clear h
  go_enter Tryz.func103,Tryz.ntmps103
  go_wp2_with fail;go_ret;exact ⟨retI HE.out.symm,rfl⟩
set_option maxHeartbeats 4000000 in
set_option maxRecDepth 100000 in
theorem Uu (k:KM) (x y:AuM) (t:TrM) (kv xv yv tv:Value) (w0:World) (h:AggR w0 (ckeys k) kv) (hx:AggR w0 (cauth x) xv) (hy:AggR w0 (cauth y) yv) (ht:AggR w0 (ctriple t) tv) (wk:kwf k) (wx:awf x) (wy:awf y) (wt:twf t) (hok:openB k x y t=true) :
  Calls Tryz.prog 101 #[kv,xv,yv,tv] w0 fun r w'=>r=.returned (.tuple #[.agg #[.int .i64 (openD k x y t),.int .i64 (openE k x y t)],.bool true])∧w0.grownBy w' none:=by
 obtain ⟨A,c,rfl,hc,hm,hI⟩:=ZK h;obtain ⟨X1,x1,X2,x2,rfl,_,_,_,_,_,_⟩:=ZC hx;obtain ⟨Y1,y1,Y2,y2,rfl,_,_,_,_,_,_⟩:=ZC hy;obtain ⟨A1,a1,A2,a2,B1,b1,B2,b2,C1,c1,C2,c2,rfl,ha,hb,hcc⟩:=YD ht;obtain ⟨w1,hw1⟩:∃z:World,(((((w0.alloc (.cells #[.int .i64 k.p,.slice A k.al.length c] 34)).alloc (.cells #[.slice X1 x.sh.length x1,.slice X2 x.mc.length x2] 80)).alloc (.cells #[.slice Y1 y.sh.length y1,.slice Y2 y.mc.length y2] 80)).alloc (.cells #[.slice A1 t.a.sh.length a1,.slice A2 t.a.mc.length a2,.slice B1 t.b.sh.length b1,.slice B2 t.b.mc.length b2,.slice C1 t.c.sh.length c1,.slice C2 t.c.mc.length c2] 82)).alloc (.cells #[.int .i64 0,.int .i64 0] 104))=z:=⟨_,rfl⟩;have G1:Hid (w0.grownBy w1 none):=by rw [← hw1];exact gbA (gbA (gbA (gbA (gbA (gbR _ _) _) _) _) _) _
 have z1:Hid (w1.heap.size=w0.heap.size+5):=by rw [← hw1];exact zH (by simp)
 have D0:Hid (Blk w1 (w0.heap.size) 34 #[.int .i64 k.p,.slice A k.al.length c]):=by rw [← hw1];exact ((((Blk.new w0 _ _).grow (gbA (gbR _ _) _)).grow (gbA (gbR _ _) _)).grow (gbA (gbR _ _) _)).grow (gbA (gbR _ _) _)
 have D1:Hid (Blk w1 (w0.heap.size+1) 80 #[.slice X1 x.sh.length x1,.slice X2 x.mc.length x2]):=by rw [← hw1];exact (((Blk.new' _ _ _ _ (by simp)).grow (gbA (gbR _ _) _)).grow (gbA (gbR _ _) _)).grow (gbA (gbR _ _) _)
 have D2:Hid (Blk w1 (w0.heap.size+1+1) 80 #[.slice Y1 y.sh.length y1,.slice Y2 y.mc.length y2]):=by rw [← hw1];exact ((Blk.new' _ _ _ _ (by simp)).grow (gbA (gbR _ _) _)).grow (gbA (gbR _ _) _)
 have D3:Hid (Blk w1 (w0.heap.size+1+1+1) 82 #[.slice A1 t.a.sh.length a1,.slice A2 t.a.mc.length a2,.slice B1 t.b.sh.length b1,.slice B2 t.b.mc.length b2,.slice C1 t.c.sh.length c1,.slice C2 t.c.mc.length c2]):=by rw [← hw1];exact (Blk.new' _ _ _ _ (by simp)).grow (gbA (gbR _ _) _)
 have D4:Hid (Blk w1 (w0.heap.size+1+1+1+1) 104 #[.int .i64 0,.int .i64 0]):=by rw [← hw1];exact Blk.new' _ _ _ _ (by simp)
 have HK:=zH (AggR.grow h G1.out);have HX:=zH (AggR.grow hx G1.out);have HY:=zH (AggR.grow hy G1.out);have HA:=zH (AggR.grow ha G1.out);have HB:=zH (AggR.grow hb G1.out);have IK:=zH h;have IX:=zH hx;have IY:=zH hy;have IA:=zH ha;have IB:=zH hb;have WK:=zH wk;have WX:=zH wx;have WY:=zH wy;have WA:=zH wt.1;have WB:=zH wt.2.1;clear h hx hy ht ha hb hcc hI wk wx wy wt;have HFB:Hid (openB k x y t=(formB k x&&formB k y&&formB k t.a&&formB k t.b)):=rfl;have HFD:Hid (openD k x y t=if openB k x y t then (fsum k.p x.sh - fsum k.p t.a.sh) % k.p else 0):=rfl;have HFE:Hid (openE k x y t=if openB k x y t then (fsum k.p y.sh - fsum k.p t.b.sh) % k.p else 0):=rfl
 go_enter Tryz.func101,Tryz.ntmps101
 have k0:=D0.out.cell 0;have k1:=D0.out.cell 1;have x0:=D1.out.cell 0;have x1':=D1.out.cell 1;have y0:=D2.out.cell 0;have y1':=D2.out.cell 1;have t0:=D3.out.cell 0;have t1:=D3.out.cell 1;have t2:=D3.out.cell 2;have t3:=D3.out.cell 3;simp at k0 k1 x0 x1' y0 y1' t0 t1 t2 t3;go_wp2_with fail;clear k0 k1 x0 x1' y0 y1' t0 t1 t2 t3 hw1;have HQ:=zH hok;have hq:=hok;unfold openB at hq;obtain ⟨hq,qb⟩:=Bool.and_eq_true_iff.1 hq;obtain ⟨hq,qa⟩:=Bool.and_eq_true_iff.1 hq;obtain ⟨qx,qy⟩:=Bool.and_eq_true_iff.1 hq;have Q0:=zH qx;have Q1:=zH qy;have Q2:=zH qa;have Q3:=zH qb;clear hq qx qy qa qb hok HFB;refine (Zx k x _ _ _ (AggR.grow HK.out (gbR w1 none)) (AggR.grow HX.out (gbR w1 none)) WK.out WX.out).mono ?_;rintro r v0 ⟨rfl,g2⟩;rw [Q0.out];have gz0:=zH (g2);clear g2;have k0:=(D0.out.grow gz0.out).cell 0;have k1:=(D0.out.grow gz0.out).cell 1;have x0:=(D1.out.grow gz0.out).cell 0;have x1':=(D1.out.grow gz0.out).cell 1;have y0:=(D2.out.grow gz0.out).cell 0;have y1':=(D2.out.grow gz0.out).cell 1;have t0:=(D3.out.grow gz0.out).cell 0;have t1:=(D3.out.grow gz0.out).cell 1;have t2:=(D3.out.grow gz0.out).cell 2;have t3:=(D3.out.grow gz0.out).cell 3;simp at k0 k1 x0 x1' y0 y1' t0 t1 t2 t3;go_wp2_with fail;clear k0 k1 x0 x1' y0 y1' t0 t1 t2 t3;refine (Zx k y _ _ _ (AggR.grow HK.out gz0.out) (AggR.grow HY.out gz0.out) WK.out WY.out).mono ?_;rintro r v1 ⟨rfl,g2⟩;rw [Q1.out];have gz1:=zH (gbT gz0.out g2);clear g2;have k0:=(D0.out.grow gz1.out).cell 0;have k1:=(D0.out.grow gz1.out).cell 1;have x0:=(D1.out.grow gz1.out).cell 0;have x1':=(D1.out.grow gz1.out).cell 1;have y0:=(D2.out.grow gz1.out).cell 0;have y1':=(D2.out.grow gz1.out).cell 1;have t0:=(D3.out.grow gz1.out).cell 0;have t1:=(D3.out.grow gz1.out).cell 1;have t2:=(D3.out.grow gz1.out).cell 2;have t3:=(D3.out.grow gz1.out).cell 3;simp at k0 k1 x0 x1' y0 y1' t0 t1 t2 t3;go_wp2_with fail;clear k0 k1 x0 x1' y0 y1' t0 t1 t2 t3;refine (Zx k t.a _ _ _ (AggR.grow HK.out gz1.out) (AggR.grow HA.out gz1.out) WK.out WA.out).mono ?_;rintro r v2 ⟨rfl,g2⟩;rw [Q2.out];have gz2:=zH (gbT gz1.out g2);clear g2;have k0:=(D0.out.grow gz2.out).cell 0;have k1:=(D0.out.grow gz2.out).cell 1;have x0:=(D1.out.grow gz2.out).cell 0;have x1':=(D1.out.grow gz2.out).cell 1;have y0:=(D2.out.grow gz2.out).cell 0;have y1':=(D2.out.grow gz2.out).cell 1;have t0:=(D3.out.grow gz2.out).cell 0;have t1:=(D3.out.grow gz2.out).cell 1;have t2:=(D3.out.grow gz2.out).cell 2;have t3:=(D3.out.grow gz2.out).cell 3;simp at k0 k1 x0 x1' y0 y1' t0 t1 t2 t3;go_wp2_with fail;clear k0 k1 x0 x1' y0 y1' t0 t1 t2 t3;refine (Zx k t.b _ _ _ (AggR.grow HK.out gz2.out) (AggR.grow HB.out gz2.out) WK.out WB.out).mono ?_;rintro r v3 ⟨rfl,g2⟩;rw [Q3.out];have gz3:=zH (gbT gz2.out g2);clear g2;have gz:=gz3.out;clear gz0 gz1 gz2 gz3;have qk:=(ZN Q0.out).1;have ex:=(ZN Q0.out).2.2.2.1
 have ey:=(ZN Q1.out).2.2.2.1;have ea:=(ZN Q2.out).2.2.2.1;have eb:=(ZN Q3.out).2.2.2.1;have hok:=HQ.out;rw [hok,if_pos rfl] at HFD HFE;have kf:=(YX qk).1;have EX:=zH ex;have EY:=zH ey;have EA:=zH ea;have EB:=zH eb;clear qk ex ey ea eb;obtain ⟨FX,hFX⟩:∃z,fsum k.p x.sh=z:=⟨_,rfl⟩;obtain ⟨FA,hFA⟩:∃z,fsum k.p t.a.sh=z:=⟨_,rfl⟩;obtain ⟨FY,hFY⟩:∃z,fsum k.p y.sh=z:=⟨_,rfl⟩;obtain ⟨FB,hFB⟩:∃z,fsum k.p t.b.sh=z:=⟨_,rfl⟩;have LFX:Hid (elemB k.p FX=true):=by rw [← hFX];exact zH (YH kf _)
 have LFA:Hid (elemB k.p FA=true):=by rw [← hFA];exact zH (YH kf _)
 have LFY:Hid (elemB k.p FY=true):=by rw [← hFY];exact zH (YH kf _)
 have LFB:Hid (elemB k.p FB=true):=by rw [← hFB];exact zH (YH kf _)
 rw [hFX,hFA] at HFD;rw [hFY,hFB] at HFE;obtain ⟨DD,hDD⟩:∃z,(FX - FA) % k.p=z:=⟨_,rfl⟩;obtain ⟨EE,hEE⟩:∃z,(FY - FB) % k.p=z:=⟨_,rfl⟩;rw [hDD] at HFD;rw [hEE] at HFE;have HFX:=zH hFX;have HFA:=zH hFA;have HFY:=zH hFY;have HFB:=zH hFB;have HDD:=zH hDD;have HEE:=zH hEE;have HOK:=zH hok;have E0:=zH (D0.out.grow gz);have E1:=zH (D1.out.grow gz);have E2:=zH (D2.out.grow gz);have E3:=zH (D3.out.grow gz);have E4:=zH (D4.out.grow gz);have GW:=zH (gbT G1.out gz);clear D0 D1 D2 D3 D4 HK HX HY HA HB G1 z1 gz hFX hFA hFY hFB hDD hEE hok;go_wp2_with fail;obtain ⟨gR,hgR⟩:∃g,w0.heap.size+1+1+1+1=g:=⟨_,rfl⟩;have hwR:w0.heap.size≤gR:=by omega
 rw [hgR] at E4 ⊢
 refine Zg [.rd (.pointer (some ⟨w0.heap.size,0,none⟩)),.rd (.int .i64 k.p),.rd (.agg #[.int .i64 k.p,.slice A k.al.length c]),.rd (.agg #[.slice X1 x.sh.length x1,.slice X2 x.mc.length x2]),.fl (isV (.int .i64 FX)),.rd (.agg #[.int .i64 k.p,.slice A k.al.length c]),.rd (.pointer (some ⟨w0.heap.size+1+1+1,0,none⟩)),.rd (.agg #[.slice A1 t.a.sh.length a1,.slice A2 t.a.mc.length a2]),.fl (isV (.int .i64 FA)),.fl (isV (.int .i64 DD)),.rd (.pointer (some ⟨w0.heap.size,0,none⟩)),.rd (.int .i64 k.p),.rd (.agg #[.int .i64 k.p,.slice A k.al.length c]),.rd (.agg #[.slice Y1 y.sh.length y1,.slice Y2 y.mc.length y2]),.fl (isV (.int .i64 FY)),.rd (.agg #[.int .i64 k.p,.slice A k.al.length c]),.rd (.pointer (some ⟨w0.heap.size+1+1+1,2,none⟩)),.rd (.agg #[.slice B1 t.b.sh.length b1,.slice B2 t.b.mc.length b2]),.fl (isV (.int .i64 FB)),.fl (isV (.int .i64 EE)),.rd (.agg #[.int .i64 DD,.int .i64 EE]),.ch,.ch] (fun z=>z=gR)
  [⟨[],fun _ w'=>v3.drew.grownBy w' none⟩,
   ⟨[],fun _ w'=>Blk w' gR 104 #[.int .i64 DD,.int .i64 EE]∧Chg (fun z=>z=gR) v3.drew w'⟩,
   ⟨[9],fun l w'=>l.getD 0 undef=.bool true∧Blk w' gR 104 #[.int .i64 DD,.int .i64 EE]∧Chg (fun z=>z=gR) v3.drew w'⟩]
  (by kernel_rfl) (by kernel_rfl) (by kernel_rfl) 2 (by kernel_rfl) ?_ (gbR _ _) rfl ?_ ?_
 ·have hst:Zn [⟨[],fun _ w'=>v3.drew.grownBy w' none⟩,
   ⟨[],fun _ w'=>Blk w' gR 104 #[.int .i64 DD,.int .i64 EE]∧Chg (fun z=>z=gR) v3.drew w'⟩,
   ⟨[9],fun l w'=>l.getD 0 undef=.bool true∧Blk w' gR 104 #[.int .i64 DD,.int .i64 EE]∧Chg (fun z=>z=gR) v3.drew w'⟩]:=by
   intro F hF;simp only [List.mem_cons,List.not_mem_nil,or_false] at hF
   rcases hF with rfl | rfl | rfl
   ·exact fun l w1 w2 h hg=>gbT h hg
   ·rintro l w1 w2 ⟨h1,h3⟩ hg
    exact ⟨h1.grow hg,h3.trans (Chg.of hg (by simp))⟩
   ·rintro l w1 w2 ⟨h0,h1,h3⟩ hg
    exact ⟨h0,h1.grow hg,h3.trans (Chg.of hg (by simp))⟩
  simp only [flOk,true_and,and_true];exact ⟨⟨Zb _,hst⟩,⟨Zb _,hst⟩,⟨Zb _,hst⟩,⟨Zb _,hst⟩,⟨Zb _,hst⟩,Zb _,hst⟩
 ·simp only [hopsK,hopK,Kd.next,and_true]
  refine ⟨?_, ?_, ?_, ?_, ?_, ?_, ?_, ?_, ?_, ?_, ?_, ?_, ?_, ?_, ?_, ?_, ?_, ?_, ?_, ?_, ?_, ?_, ?_⟩;rotate_left 4
  ·intro f w4 hG hd
   have kg:=zH (Zv (gbT GW.out (gbD (gbR v3 none))) hG hwR)
   (try simp at hd)
   (first | simp [hd] | simp)
   clear hd;go_wp2_with fail;refine (Xi k x _ _ w4 (AggR.grow IK.out kg.out) (AggR.grow IX.out kg.out) EX.out WX.out).mono ?_;rintro e w6 ⟨rfl,g6⟩;rw [HFX.out];have G6:=zH g6;clear g6 kg;go_wp2_with fail;exact ⟨_,rfl,rfl,G6.out⟩
  rotate_left 3
  ·intro f w4 hG hd
   have kg:=zH (Zv (gbT GW.out (gbD (gbR v3 none))) hG hwR)
   (try simp at hd)
   (first | simp [hd] | simp)
   clear hd;go_wp2_with fail;refine (Xi k t.a _ _ w4 (AggR.grow IK.out kg.out) (AggR.grow IA.out kg.out) EA.out WA.out).mono ?_;rintro e w6 ⟨rfl,g6⟩;rw [HFA.out];have G6:=zH g6;clear g6 kg;go_wp2_with fail;exact ⟨_,rfl,rfl,G6.out⟩
  ·intro f w4 hG hd
   (try simp at hd)
   simp only [isV] at hd
   (first | simp [hd] | simp)
   clear hd;go_wp2_with fail;refine (VM k.p FX FA w4 LFX.out LFA.out).mono ?_;rintro e w6 ⟨rfl,g6⟩;rw [HDD.out];have G6:=zH g6;clear g6;go_wp2_with fail;exact ⟨_,rfl,rfl,G6.out⟩
  rotate_left 4
  ·intro f w4 hG hd
   have kg:=zH (Zv (gbT GW.out (gbD (gbR v3 none))) hG hwR)
   (try simp at hd)
   (first | simp [hd] | simp)
   clear hd;go_wp2_with fail;refine (Xi k y _ _ w4 (AggR.grow IK.out kg.out) (AggR.grow IY.out kg.out) EY.out WY.out).mono ?_;rintro e w6 ⟨rfl,g6⟩;rw [HFY.out];have G6:=zH g6;clear g6 kg;go_wp2_with fail;exact ⟨_,rfl,rfl,G6.out⟩
  rotate_left 3
  ·intro f w4 hG hd
   have kg:=zH (Zv (gbT GW.out (gbD (gbR v3 none))) hG hwR)
   (try simp at hd)
   (first | simp [hd] | simp)
   clear hd;go_wp2_with fail;refine (Xi k t.b _ _ w4 (AggR.grow IK.out kg.out) (AggR.grow IB.out kg.out) EB.out WB.out).mono ?_;rintro e w6 ⟨rfl,g6⟩;rw [HFB.out];have G6:=zH g6;clear g6 kg;go_wp2_with fail;exact ⟨_,rfl,rfl,G6.out⟩
  ·intro f w4 hG hd
   (try simp at hd)
   simp only [isV] at hd
   (first | simp [hd] | simp)
   clear hd;go_wp2_with fail;refine (VM k.p FY FB w4 LFY.out LFB.out).mono ?_;rintro e w6 ⟨rfl,g6⟩;rw [HEE.out];have G6:=zH g6;clear g6;go_wp2_with fail;exact ⟨_,rfl,rfl,G6.out⟩
  rotate_left 1
  ·intro f w4 hG hI hd
   have hI:v3.drew.grownBy w4 none:=hI
   (try simp at hd)
   have R4:=E4.out.grow (gbT (gbD (gbR v3 none)) hI);have f0:=R4.frozen 0;have f1:=R4.frozen 1;have b0:=R4.cell 0;have b1:=R4.cell 1;simp at b0 b1;have RS:=zH (Zh R4 [.int .i64 DD,.int .i64 EE] rfl);have CW:=zH (Zc gR [.int .i64 DD,.int .i64 EE] 0 w4);have CS:=zH ((Chg.of (S:=fun y=>y=gR) hI (by simp)).trans CW.out);clear R4 hI;simp [puts,dsts,Act.put,hd];clear hd;go_wp2_with fail;exact ⟨rfl,⟨.bool false,RS.out,CS.out⟩,CW.out,by simp [keepsC,dstAt,isV]⟩
  ·intro f w4 hG hI hd
   obtain ⟨R4,C4⟩:=hI;clear hd;simp [puts,dsts,Act.put];go_wp2_with fail;exact ⟨.bool true,rfl,rfl,R4,C4⟩
  all_goals
   intro f w4 hG hd;have kg:=gbD (gbR v3 none);have k0:=((E0.out.grow kg).chg hG (by omega)).cell 0;have k1:=((E0.out.grow kg).chg hG (by omega)).cell 1;have x0:=((E1.out.grow kg).chg hG (by omega)).cell 0;have x1':=((E1.out.grow kg).chg hG (by omega)).cell 1;have y0:=((E2.out.grow kg).chg hG (by omega)).cell 0;have y1':=((E2.out.grow kg).chg hG (by omega)).cell 1;have t0:=((E3.out.grow kg).chg hG (by omega)).cell 0;have t1:=((E3.out.grow kg).chg hG (by omega)).cell 1;have t2:=((E3.out.grow kg).chg hG (by omega)).cell 2;have t3:=((E3.out.grow kg).chg hG (by omega)).cell 3;simp at k0 k1 x0 x1' y0 y1' t0 t1 t2 t3;clear kg
   (try simp at hd)
   try simp only [isV] at hd
   (first | simp [hd] | simp)
   clear hd;go_wp2_with fail;exact ⟨rfl,rfl⟩
 intro f w9 hI hd;obtain ⟨e9,hBR,hCZ⟩:=hI;have hCZ:=chgDr hCZ;have GZ:=zH (Zv GW.out hCZ hwR);have e9:f 9=.bool true:=e9;simp only [puts,dsts,Act.put,zB,zC,zA,zD,zE,e9];clear hd e9;go_wp2_with fail;refine ret_ct Tryz.results101 (by rfl) Qh (cs:=#[.int .i64 DD,.int .i64 EE]) hBR (by rfl) (by rfl) ?_;exact ⟨by rw [HFD.out,HFE.out];rfl,GZ.out⟩
end Go.Proofs.YthaadgdeadbhkaaGreat
namespace Go.Proofs.YthaadgdeadbhkaaGreat
structure Pr where
 i:Nat
 di:Tmp
 j:Nat
 dj:Tmp
 R:Value→Value→Prop
def prOk (ops:Array Oper) (ps:List Pr):Bool:=ps.all fun p=>(((ops[p.i]?).bind (·.dst)) == some p.di)&&(((ops[p.j]?).bind (·.dst)) == some p.dj)&&p.i != p.j
def prHop (T:List Fact) (ps:List Pr) (f:Tmp→Value) (w:World) (k:Nat) (v:Value):Prop:=∀p∈ps,(p.i=k→(fAt T p.j).at_ f w→p.R v (f p.dj))∧(p.j=k→(fAt T p.i).at_ f w→p.R (f p.di) v)
def hop7 (P:Program) (ops:Array Oper) (T:List Fact) (ps:List Pr) (W:World) (a0:Act) (touch:List (Nat × Nat)) (o:Oper) (k:Nat):Prop :=
 ∀(f:Tmp→Value) (w:World),Chg (fun b=>∃s,(s,b)∈touch) W w→(∀b,b<W.heap.size→(∀s,(s,b)∈touch→aheadB ops s k=true)→w.heap[b]?=W.heap[b]?)→(∀d,oldB ops k d=true→d∈dsts ops→f d=a0.tmps.getD d undef)→depsF T f w (bindE o)→(∀p∈ps,aheadB ops k p.i=true→aheadB ops k p.j=true→p.i≠k→p.j≠k→p.R (f p.di) (f p.dj)) →
  wpList P ops (Only fun a' w'=>∃v,a'=(puts a0 (dsts ops) f).put o.dst v∧(fAt T k).at_ (upd f o.dst v) w'∧(w.grownBy w' none∨(Chg (fun b=>W.heap.size≤b∨(k,b)∈touch) w w'∧keeps f w w' k T 0))∧prHop T ps f w k v) [o] (puts a0 (dsts ops) f) w
def hops7 (P:Program) (ops:Array Oper) (T:List Fact) (ps:List Pr) (W:World) (a0:Act) (touch:List (Nat × Nat)):List Oper→Nat→Prop
 | [],_=>True
 | o :: l,k=>hop7 P ops T ps W a0 touch o k∧hops7 P ops T ps W a0 touch l (k+1)
section
variable {P:Program} {ops:Array Oper} {T:List Fact} {ps:List Pr} {W:World} {a0:Act} {touch:List (Nat × Nat)} {Q:Exit→Act→World→Prop}
theorem only1_mono {o:Oper} {a:Act} {w:World} {K K':Act→World→Prop} (h:∀a' w',K a' w'→K' a' w') (h1:wpList P ops (Only K) [o] a w):wpList P ops (Only K') [o] a w:=by
 unfold wpList at h1 ⊢
 split
 ·rename_i hw
  rw [if_pos hw] at h1
  rcases h1 with h1 | h1
  ·exact .inl (XK (Oper.wp_mono (fun a' w' hk=>h a' w' hk) h1))
  ·exact (XA h1.2).elim
 ·rename_i hw
  rw [if_neg hw] at h1;exact h _ _ h1
theorem VY {o:Oper} {k:Nat} (hn:(ps.all fun p=>p.i != k&&p.j != k)=true) (h:hop6 P ops T W a0 touch o k):hop7 P ops T ps W a0 touch o k:=by
 intro f w h1 h2 h3 h4 _;refine only1_mono (fun a' w' ⟨v,e1,e2,e3⟩=>⟨v,e1,e2,e3,fun p hp => ?_⟩) (h f w h1 h2 h3 h4);have:=List.all_eq_true.1 hn p hp;simp at this;exact ⟨fun e=>absurd e this.1,fun e=>absurd e this.2⟩
theorem Uo {listed:Array Bool} (hc:∀k o,ops[k]?=some o→listed.getD k false=true→∀e∈bindE o,listed.getD e.on false=true) {i j:Nat} {o:Oper} (ho:ops[i]?=some o) (hil:i<listed.size) (hwait:∀e∈bindE o,listed.getD e.on false=true) (h:aheadB ops i j=true) (hne:j≠i):listed.getD j false=true:=by
 have lset:∀k,k≠i→(listed.setIfInBounds i true).getD k false=listed.getD k false:=fun k hk=>by
  simp only [Array.getD_eq_getD_getElem?,Array.getElem?_setIfInBounds,Ne.symm hk,if_false]
 have lold:∀k,listed.getD k false=true→(listed.setIfInBounds i true).getD k false=true:=fun k hk=>by
  by_cases e:k=i
  ·subst e;simp [hil]
  ·rw [lset k e];exact hk
 cases hj:listed.getD j false with
 | true=>rfl
 | false =>
  exfalso
  have h1:=WH (ops:=ops) (listed:=listed.setIfInBounds i true) (fun k ok hk hl e he=>by
   by_cases hik:k=i
   ·subst hik
    obtain rfl:ok=o:=by rw [ho] at hk;injection hk with hk;exact hk.symm
    exact lold _ (hwait e he)
   ·rw [lset k hik] at hl
    exact lold _ (hc k ok hk hl e he)) (s:=i) (k:=j) (by rw [lset j hne];exact hj) h
  simp [hil] at h1
theorem hops7_at:∀{l:List Oper} {k i:Nat} {o:Oper},hops7 P ops T ps W a0 touch l k→l[i]?=some o→hop7 P ops T ps W a0 touch o (k+i)
 | [],_,_,_,_,h=>by simp at h
 | x :: l,k,0,o,h,hi=>by simp at hi;subst hi;exact h.1
 | x :: l,k,i+1,o,h,hi=>by
  simp at hi;have:=hops7_at (k:=k+1) (i:=i) h.2 hi
  rwa [show k+1+i=k+(i+1) by omega] at this
def GPr (ps:List Pr) (listed:Array Bool) (a:Act):Prop:=∀p∈ps,listed.getD p.i false=true→listed.getD p.j false=true→p.R (a.tmps.getD p.di undef) (a.tmps.getD p.dj undef)
theorem reg7_any (K:RegOk ops T) (hps:prOk ops ps=true) (hsz:∀d∈dsts ops,d<a0.tmps.size) (hst:Zn T) (hh:hops7 P ops T ps W a0 touch ops.toList 0)
  (fin:∀(f:Tmp→Value) (w:World),Chg (fun b=>∃s,(s,b)∈touch) W w→knowsF T f w T→(∀p∈ps,p.R (f p.di) (f p.dj))→Q .normal (puts a0 (dsts ops) f) w) :
  ∀(fuel:Nat) (listed:Array Bool) (a:Act) (w:World),GInv6 ops T W a0 touch listed a w→GPr ps listed a→listed.toList.countP (fun b=>!b)≤fuel→wpAny P .any ops Q fuel listed a w:=by
 have hpo:∀p∈ps,(∃o,ops[p.i]?=some o∧o.dst=some p.di)∧(∃o,ops[p.j]?=some o∧o.dst=some p.dj)∧p.i≠p.j:=fun p hp=>by
  have:=List.all_eq_true.1 hps p hp;simp only [Bool.and_eq_true,beq_iff_eq,bne_iff_ne] at this;obtain ⟨⟨h1,h2⟩,h3⟩:=this;refine ⟨?_, ?_,h3⟩
  ·cases ho:ops[p.i]? with
   | none=>rw [ho] at h1;cases h1
   | some o=>rw [ho] at h1;exact ⟨o,rfl,h1⟩
  ·cases ho:ops[p.j]? with
   | none=>rw [ho] at h2;cases h2
   | some o=>rw [ho] at h2;exact ⟨o,rfl,h2⟩
 have done:∀(listed:Array Bool) (a:Act) (w:World),GInv6 ops T W a0 touch listed a w→GPr ps listed a→Region.ready .any ops listed=[]→Q .normal a w:=fun listed a w h hp hr=>by
  rw [h.is];refine fin _ w h.g (UK fun F hF => ?_) fun p hpp => ?_
  ·obtain ⟨k,hk⟩:=List.mem_iff_getElem?.1 hF
   have hkl:k<ops.size:=Nat.lt_of_lt_of_le (List.getElem?_eq_some_iff.1 hk).1 K.len;have:=h.facts k ops[k] (Array.getElem?_eq_getElem hkl) (YN K h.sz hr (k+1) k (by omega) hkl);unfold fAt at this;rw [hk] at this;exact this
  ·obtain ⟨⟨o,ho,_⟩,⟨o',ho',_⟩,_⟩:=hpo p hpp
   have hi:=(Array.getElem?_eq_some_iff.1 ho).1;have hj:=(Array.getElem?_eq_some_iff.1 ho').1;exact hp p hpp (YN K h.sz hr (p.i+1) p.i (by omega) hi) (YN K h.sz hr (p.j+1) p.j (by omega) hj)
 intro fuel
 induction fuel with
 | zero =>
  intro listed a w h hp hc
  have hr:Region.ready .any ops listed=[]:=by
   cases hr:Region.ready .any ops listed with
   | nil=>rfl
   | cons i l =>
    exfalso
    have hi:=(mem_ready.1 (show i∈Region.ready .any ops listed by rw [hr];exact List.mem_cons_self ..)).1;have h0:listed.toList.countP (fun b=>!b)=0:=by omega
    rw [List.countP_eq_zero] at h0
    have hlt:i<listed.size:=by
     rcases Nat.lt_or_ge i listed.size with h1 | h1
     ·exact h1
     ·simp [Array.getElem?_eq_none h1] at hi
    have hv:listed[i]=false:=by simpa [hlt] using hi
    have:=h0 listed[i] (Array.getElem_mem_toList hlt);simp [hv] at this
  exact ⟨hr,done listed a w h hp hr⟩
 | succ fuel ih =>
  intro listed a w h hp hc;refine ⟨fun hr=>done listed a w h hp hr,fun i hi => ?_⟩;obtain ⟨hl,o,ho,hall⟩:=mem_ready.1 hi
  have hwait:∀e∈bindE o,listed.getD e.on false=true:=fun e he=>by
   obtain ⟨h1,h2⟩:=bind_mem.1 he;exact hall e (by simpa using h1) h2
  have hlt:i<listed.size:=by rw [h.sz];exact (Array.getElem?_eq_some_iff.1 ho).1
  have hun:listed.getD i false=false:=by
   simp [hlt] at hl ⊢;exact hl
  have hop:=hops7_at hh (i:=i) (by simpa using ho);rw [Nat.zero_add] at hop
  have h1:=hop (fun d=>a.tmps.getD d undef) w h.g (fun b hb hs=>h.pre b hb fun s hs'=>WH h.closed hun (hs s hs')) (fun d hd hm=>h.old_ hun hd hm) (depsF_of fun e he=>by
   have h2:=hwait e he;have h3:=K.early i o ho e he;have h4:e.on<ops.size:=by have:=(Array.getElem?_eq_some_iff.1 ho).1;omega
   exact h.facts e.on _ (Array.getElem?_eq_getElem h4) h2) (fun p hpp q1 q2 q3 q4=>hp p hpp (Uo h.closed ho hlt hwait q1 q3) (Uo h.closed ho hlt hwait q2 q4))
  rw [← h.is] at h1;unfold wpOp;simp only [ho]
  have lset:∀k,k≠i→(listed.setIfInBounds i true).getD k false=listed.getD k false:=fun k hk=>by
   simp only [Array.getD_eq_getD_getElem?,Array.getElem?_setIfInBounds,Ne.symm hk,if_false]
  have hdlt:∀d,o.dst=some d→d<a.tmps.size:=fun d hd=>by rw [h.tz];exact hsz d (Yw ho hd)
  have next:∀a' w',(∃v,a'=a.put o.dst v∧(fAt T i).at_ (upd (fun d=>a.tmps.getD d undef) o.dst v) w'∧(w.grownBy w' none∨(Chg (fun b=>W.heap.size≤b∨(i,b)∈touch) w w'∧keeps (fun d=>a.tmps.getD d undef) w w' i T 0))∧prHop T ps (fun d=>a.tmps.getD d undef) w i v)→wpAny P .any ops Q fuel (listed.setIfInBounds i true) a' w':=fun a' w' ⟨v,ha,hv,hg,hpr⟩=>by
   subst ha;refine ih _ _ _ (h.step K hsz hst ho hun hwait hv hg) (fun p hpp l1 l2 => ?_) (Wa hc hl);obtain ⟨⟨oi,hoi,hdi⟩,⟨oj,hoj,hdj⟩,hij⟩:=hpo p hpp;have gi:=Wb a o.dst v p.di hdlt;have gj:=Wb a o.dst v p.dj hdlt;rw [gi,gj];have hop':=hpr p hpp
   by_cases e1:p.i=i
   ·subst e1
    rw [lset p.j (fun e=>hij e.symm)] at l2;rw [ho] at hoi;injection hoi with hoi;subst hoi;have ne:o.dst≠some p.dj:=fun e=>ZZ K.nodup (l:=ops.toList) (i:=p.i) (j:=p.j) (by simpa using ho) (by simpa using hoj) hij (by rw [e]) hdj;rw [YR _ _ _ _ ne,hdi];have hx:upd (fun d=>a.tmps.getD d undef) (some p.di) v p.di=v:=by simp [Yf]
    rw [hx];exact hop'.1 rfl (h.facts p.j oj hoj l2)
   ·rw [lset p.i e1] at l1
    have ne:o.dst≠some p.di:=fun e=>ZZ K.nodup (l:=ops.toList) (i:=p.i) (j:=i) (by simpa using hoi) (by simpa using ho) e1 hdi e;rw [YR _ _ _ _ ne]
    by_cases e2:p.j=i
    ·subst e2
     rw [ho] at hoj;injection hoj with hoj;subst hoj;rw [hdj];have hx:upd (fun d=>a.tmps.getD d undef) (some p.dj) v p.dj=v:=by simp [Yf]
     rw [hx];exact hop'.2 rfl (h.facts p.i oi hoi l1)
    ·rw [lset p.j e2] at l2
     have ne':o.dst≠some p.dj:=fun e=>ZZ K.nodup (l:=ops.toList) (i:=p.j) (j:=i) (by simpa using hoj) (by simpa using ho) e2 hdj e;rw [YR _ _ _ _ ne'];exact hp p hpp l1 l2
  unfold wpList at h1
  split
  ·rename_i hw
   rw [if_pos hw] at h1
   rcases h1 with h1 | h1
   ·exact .inl (XK (Oper.wp_mono next h1))
   ·exact (XA h1.2).elim
  ·rename_i hw
   rw [if_neg hw] at h1;exact next _ _ h1
theorem Qr {id:Nat} {w:World} (T:List Fact) (ps:List Pr) (touch:List (Nat × Nat)) (hm:P.follows .mixedOrders=true) (hB:regB ops (T.map (·.ts))=true) (hps:prOk ops ps=true) (hsz:(dsts ops).all (fun d=>d<a0.tmps.size)=true) (hst:Zn T)
  (hh:hops7 P ops T ps w.drew a0 touch ops.toList 0)
  (fin:∀(f:Tmp→Value) (w':World),Chg (fun b=>∃s,(s,b)∈touch) w.drew w'→knowsF T f w' T→(∀p∈ps,p.R (f p.di) (f p.dj))→Q .normal (puts a0 (dsts ops) f) w'):(Code.region id ops true).wp P Q a0 w:=by
 refine wp_region_any hm (reg7_any (W:=w.drew) (T:=T) (ps:=ps) (RegOk.of hB) hps (fun d hd=>by simpa using List.all_eq_true.1 hsz d hd) hst hh fin ops.size _ a0 _ ⟨Chg.refl _ _,fun _ _ _=>rfl,fun _ _ _ _ _ _=>rfl,by simp,rfl,rfl,fun _ _=>rfl, ?_, ?_⟩ ?_ ?_)
 ·intro k o hk hl
  simp only [Array.getD_eq_getD_getElem?,Array.getElem?_replicate] at hl
  split at hl <;> simp at hl
 ·intro k o hk hl
  simp only [Array.getD_eq_getD_getElem?,Array.getElem?_replicate] at hl
  split at hl <;> simp at hl
 ·intro p hp hl
  simp only [Array.getD_eq_getD_getElem?,Array.getElem?_replicate] at hl
  split at hl <;> simp at hl
 ·have:=List.countP_le_length (p:=fun b:Bool=>!b) (l:=(Array.replicate ops.size false).toList)
  simpa using this
end
def apart (v u:Value):Prop:=∀g,v.ownBlock=some g→u.ownBlock≠some g
def blkP (g:Nat) (v:Value) (w:World):Prop:=∃(A B:Option Addr) (n c k d:Nat),v=.agg #[.slice A n c,.slice B k d]∧Blk w g 80 #[.slice A n c,.slice B k d]
section
variable {Wn lo gS gM g6 g7 gK n:Nat} {p x f1 d1 kk y f2 d2:Int} {s m kv:Value} {t0 t1:Int} {L1 L2:List Int}
end
section
variable {P:Program}
theorem VZ (w:World) (t ty e:TypeId) (i:TypeInfo) (z:Value) (size bytes:Nat) (ht:P.underlying t=some (.slice e)) (hi:P.info? e=some i) (hz:i.zero=some z)
  (hsize:i.size=size) (hby:i.bytes=bytes) (hzs:z.cells.size=size) (hsz:0<size)
  (g:Nat) (hown:w.ownsRow 0 e size (.slice (some ⟨g,0,none⟩) 0 0) 0 [])
  (a:Addr) (m c:Nat) (news:List Value) (hl:news.length=m*size) (hnews:∀j u,news[j]?=some u→w.cell? (a.add j)=some u) (h1:∀u∈news,u.oneCell'=true)
  (h63:m≤maxLen) (hbytes:m*bytes≤140737488355328) :
  ∃v' w',(Builtin.append_ #[t,t] ty #[.slice (some ⟨g,0,none⟩) 0 0,.slice (some a) m c]).run P w=.ok v' w'∧w'.ownsRow 0 e size v' m news∧w.grownBy w' none∧(∀g',v'.ownBlock=some g'→g'=g∨(w.heap.size≤g'∧0<m)):=by
 subst hsize;subst hby
 rcases Nat.eq_zero_or_pos m with h0 | h0
 ·subst h0
  obtain rfl:news=[]:=List.eq_nil_of_length_eq_zero (by simpa using hl);have hr:=run_append_room_cells (P:=P) (w:=w) t ty e i ht hi g 0 0 0 a 0 c [] (by simp) (by simp) (by simp) (by simp) (by simp) (by simp);refine ⟨_,_,hr, ?_, ?_, ?_⟩
  ·exact hown
  ·exact gbR _ _
  ·intro g' hg'
   simp [Value.ownBlock] at hg';exact .inl hg'.symm
 ·obtain ⟨v',w',hr,ho,hgr,_⟩:=run_append_own w 0 t ty e i z i.size i.bytes ht hi hz rfl rfl hzs hsz _ 0 [] hown a m c news hl hnews h1 (by omega) (by simpa using hbytes) (Nat.zero_le _)
  have holds:∀j u,([]:List Value)[j]?=some u→w.cell? ((⟨g,0,none⟩:Addr).add j)=some u:=fun j u h=>by simp at h
  have hr2:=run_append_grow (P:=P) w t ty e i z ht hi hz ⟨g,0,none⟩ 0 0 [] (by simp) holds a m c news hl hnews (by omega) (by simp only [maxLen] at h63;omega) (growslice_fits (by omega) (by simpa using hbytes));rw [hr] at hr2;injection hr2 with e1 e2;subst e2;refine ⟨_,_,hr,by simpa using ho,gbA (gbD (gbR _ _)) _,fun g' hg'=>.inr ⟨?_,h0⟩⟩;subst e1;simp [Value.ownBlock] at hg';omega
variable {ops:Array Oper} {rest:List Oper} {o:Oper} {a:Act} {Q:Exit→Act→World→Prop}
theorem Xy (wr:World) {t e:TypeId} {z:Value} {size bytes:Nat} (E:El P t e z size bytes) (hgd:o.guard=none) (s x:Operand)
  (ho:o.op=.call { callee:=.builtin .append,args:=#[s,x],argTypes:=#[t,t] })
  (g:Nat) (hown:wr.ownsRow 0 e size (.slice (some ⟨g,0,none⟩) 0 0) 0 []) (hs:a.eval s=.slice (some ⟨g,0,none⟩) 0 0) (A:Option Addr) (m c:Nat) (ys:List Value) (hx:a.eval x=.slice A m c) (hr:Rd wr size A m ys) (h1:∀u∈ys,u.oneCell'=true)
  (hn:m≤maxLen) (hb:m*bytes≤140737488355328)
  (h:∀v' w',w'.ownsRow 0 e size v' m ys→wr.grownBy w' none→(∀g',v'.ownBlock=some g'→g'=g∨(wr.heap.size≤g'∧0<m))→wpList P ops Q rest (a.put o.dst v') w') :
  wpList P ops Q (o :: rest) a wr:=by
 obtain ⟨i,hi,hz0,hz1,hz2⟩:=info_parts E.hi
 have key:∀ad:Addr,A=some ad→(∀j u,ys[j]?=some u→wr.cell? (ad.add j)=some u)→wpList P ops Q (o :: rest) a wr:=fun ad hA hc=>by
  obtain ⟨v',w',hr,h2,h3,h4⟩:=VZ (P:=P) wr t o.type e i z size bytes E.ht hi hz0 hz1 hz2 E.hz E.hs g hown ad m c ys hr.1 hc h1 hn hb;refine wpList_plain hgd fun _ hK => ?_;unfold Oper.wp execOp;simp only [ho,resolve,invoke,builtin,Sem.run_bind,Sem.run_pure,Result.andThen_ok,List.map_toArray,List.map_cons,List.map_nil,hs,hx,hA,hr];exact hK _ _ (h v' w' h2 h3 h4)
 rcases Nat.eq_zero_or_pos m with h0 | h0
 ·subst h0
  have hys:ys=[]:=List.eq_nil_of_length_eq_zero (by simpa using hr.1);subst hys
  cases A with
  | some ad=>exact key ad rfl fun j u hu=>by simp at hu
  | none =>
   refine wpList_plain hgd fun _ hK => ?_;have hrun:=Xb (P:=P) wr 0 t o.type e i size E.ht hi _ 0 [] hown c;unfold Oper.wp execOp;simp only [ho,resolve,invoke,builtin,Sem.run_bind,Sem.run_pure,Result.andThen_ok,List.map_toArray,List.map_cons,List.map_nil,hs,hx,hrun];exact hK _ _ (h _ wr hown (gbR _ _) fun g' hg=>.inl (by simp [Value.ownBlock] at hg;exact hg.symm))
 ·obtain ⟨b,off,hA,hb',hc⟩:=hr.2 h0
  refine key ⟨b,off,none⟩ hA fun j u hu => ?_;have hadd:(⟨b,off,none⟩:Addr).add j=⟨b,off+j,none⟩:=by unfold Addr.add;split <;> simp_all
  have hj:j<m*size:=by rw [← hr.1];exact (List.getElem?_eq_some_iff.1 hu).1
  rw [hadd,hc j hj,hu]
end
end Go.Proofs.YthaadgdeadbhkaaGreat
