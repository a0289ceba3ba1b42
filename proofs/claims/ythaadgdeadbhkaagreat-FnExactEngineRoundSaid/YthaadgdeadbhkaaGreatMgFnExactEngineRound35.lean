/-
 l28Minus and TripleUse of the reference (printed by wip/gen_stripu.py).
-/
import Derived.Test.YthaadgdeadbhkaaGreatMgFnExactEngineRound34
open Go.RowKit
set_option linter.unusedVariables false
set_option linter.unusedSimpArgs false
namespace Go.Proofs.YthaadgdeadbhkaaGreat
attribute [local simp] depsC dstAt kAt bindE List.filter_cons Zy Zp Zq Zr Zz Yu puts dsts Act.put
set_option maxHeartbeats 2000000 in
set_option maxRecDepth 100000 in
theorem YK (k:KM) (a b:AuM) (kv av bv:Value) (w0:World) (h:AggR w0 (ckeys k) kv) (ha:AggR w0 (cauth a) av) (hb:AggR w0 (cauth b) bv) (wk:kwf k) (wa:awf a) (wb:awf b) (hf:fieldB k.p=true) :
  Calls Tryz.prog 105 #[kv,av,bv] w0 fun e w'=>∃v,e=.returned v∧autF w0.heap.size (minusA k a b) v w'∧w0.grownBy w' none:=by
 obtain ⟨A,c,rfl,hc,hm,hI⟩:=ZK h;obtain ⟨Ba,da,Ca,fa,rfl,_,_,_,_,hSa,hMa⟩:=ZC ha;obtain ⟨Bb,db,Cb,fb,rfl,_,_,_,_,hSb,hMb⟩:=ZC hb;have hpw:=wk.1;obtain ⟨wp1,wp2⟩:=hpw;obtain ⟨w1,hw1⟩:∃x:World,(((w0.alloc (.cells #[.int .i64 k.p,.slice A k.al.length c] 34)).alloc (.cells #[.slice Ba a.sh.length da,.slice Ca a.mc.length fa] 80)).alloc (.cells #[.slice Bb b.sh.length db,.slice Cb b.mc.length fb] 80)).alloc (.cells #[.slice none 0 0,.slice none 0 0] 80)=x:=⟨_,rfl⟩;have G1:Hid (w0.grownBy w1 none):=by rw [← hw1];exact gbA (gbA (gbA (gbA (gbR _ _) _) _) _) _
 have z1:Hid (w1.heap.size=w0.heap.size+4):=by rw [← hw1];exact zH (by simp)
 have D0:Hid (Blk w1 w0.heap.size 34 #[.int .i64 k.p,.slice A k.al.length c]):=by rw [← hw1];exact (((Blk.new w0 _ _).grow (gbA (gbR _ _) _)).grow (gbA (gbR _ _) _)).grow (gbA (gbR _ _) _)
 have D1:Hid (Blk w1 (w0.heap.size+1) 80 #[.slice Ba a.sh.length da,.slice Ca a.mc.length fa]):=by rw [← hw1];exact ((Blk.new' _ _ _ _ (by simp)).grow (gbA (gbR _ _) _)).grow (gbA (gbR _ _) _)
 have D2:Hid (Blk w1 (w0.heap.size+1+1) 80 #[.slice Bb b.sh.length db,.slice Cb b.mc.length fb]):=by rw [← hw1];exact (Blk.new' _ _ _ _ (by simp)).grow (gbA (gbR _ _) _)
 have D3:Hid (Blk w1 (w0.heap.size+1+1+1) 80 #[.slice none 0 0,.slice none 0 0]):=by rw [← hw1];exact Blk.new' _ _ _ _ (by simp)
 have HK:=zH (AggR.grow h G1.out);have HAa:=zH (AggR.grow ha G1.out);have HAb:=zH (AggR.grow hb G1.out);have WK:=zH wk;have WA:=zH wa;have WB:=zH wb;obtain ⟨fp1,fp2⟩:=ZG hf;have E0:=zH (Xn hf (show (0:Int)≤0 by omega) (by omega));have E1:=zH (Xn hf (show (0:Int)≤1 by omega) (by omega))
 have HM:Hid ((0 - 1) % k.p=k.p - 1):=by
  unfold Hid;rw [← Int.add_emod_right,show (0 - 1+k.p)=k.p - 1 by omega];exact Int.emod_eq_of_lt (by omega) (by omega)
 clear h ha hb hI hSa hMa hSb hMb wk wa wb;have HFO:Hid (minusA k a b=Zk k a (Ze k b (k.p - 1))):=rfl
 go_enter Tryz.func105,Tryz.ntmps105
 go_wp2_with fail;clear hw1;obtain ⟨lo,hlo⟩:∃lo,w0.heap.size+4=lo:=⟨_,rfl⟩;obtain ⟨gR,hgR'⟩:∃g,w0.heap.size+1+1+1=g:=⟨_,rfl⟩;have hgR:gR<lo:=by omega
 have hwR:w0.heap.size≤gR:=by omega
 have hlz:lo≤w1.heap.size:=by have:=z1.out;omega
 rw [hgR'] at D3 ⊢;have DR:=D3;have k0:=zH (D0.out.cell 0);have k1:=zH (D0.out.cell 1);have a0:=zH (D1.out.cell 0);have a1:=zH (D1.out.cell 1);have b0:=zH (D2.out.cell 0);have b1:=zH (D2.out.cell 1);simp only [List.getElem?_toArray,List.getElem?_cons_succ,List.getElem?_cons_zero] at k0 k1 a0 a1 b0 b1
 refine Zg [.rd (.agg #[.int .i64 k.p,.slice A k.al.length c]),.rd (.agg #[.slice Ba a.sh.length da,.slice Ca a.mc.length fa]),.rd (.agg #[.int .i64 k.p,.slice A k.al.length c]),.rd (.agg #[.slice Bb b.sh.length db,.slice Cb b.mc.length fb]),.rd (.pointer (some ⟨w0.heap.size,0,none⟩)),.rd (.int .i64 k.p),.fl (isV (.int .i64 (k.p - 1))),.fl (autF lo (Ze k b (k.p - 1))),.fl (autF lo (Zk k a (Ze k b (k.p - 1)))),.ch] (fun _=>False)
  [⟨[],fun _ w'=>w1.drew.grownBy w' none⟩,
   ⟨[],fun _ w'=>autX lo gR (Zk k a (Ze k b (k.p - 1))) w'∧Chg (fun y=>y=gR) w1 w'⟩]
  (by kernel_rfl) (by kernel_rfl) (by kernel_rfl) 1 (by kernel_rfl) ?_ (gbR _ _) rfl ?_ ?_
 ·have hst:Zn [⟨[],fun _ w'=>w1.drew.grownBy w' none⟩,⟨[],fun _ w'=>autX lo gR (Zk k a (Ze k b (k.p - 1))) w'∧Chg (fun y=>y=gR) w1 w'⟩]:=by
   refine Zm (fun l w1 w2 h hg=>gbT h hg) ?_;exact Zm (ZE fun l w1 w2 ⟨h1,h2⟩ hg=>⟨h1.grow hg,h2.trans (Chg.of hg (by simp))⟩) YO
  simp only [flOk,true_and,and_true];exact ⟨⟨Zb _,hst⟩,⟨ZH,hst⟩,⟨ZH,hst⟩⟩
 ·simp only [hopsK,hopK,Kd.next,and_true]
  refine ⟨?_, ?_, ?_, ?_, ?_, ?_, ?_, ?_, ?_, ?_⟩;rotate_left 6
  ·intro f w4 hG hd
   have hg4:=gbT (gbD (gbR w1 none)) (chgF hG);have hz4:=hg4.size
   (try simp at hd)
   try simp only [isV] at hd
   simp [puts,dsts,Act.put,hd];clear hd;go_wp2_with fail;refine (VM k.p 0 1 w4 E0.out E1.out).mono ?_;rintro e w6 ⟨rfl,g6⟩;rw [HM.out];have G6:=zH g6;clear g6;go_wp2_with fail;exact ⟨_,rfl,rfl,G6.out⟩
  ·intro f w4 hG hd
   have hg4:=gbT (gbD (gbR w1 none)) (chgF hG);have hz4:=hg4.size
   (try simp at hd)
   have h1:=hd.1;have h2:=hd.2.1
   have h3:isV (.int .i64 (k.p - 1)) (f 13) w4:=by first | exact hd.2.2 | exact hd.2.2.1
   try simp only [isV] at h1 h2 h3
   simp [puts,dsts,Act.put,h1,h2,h3];clear h1 h2 h3;go_wp2_with fail;refine (XE k b (k.p - 1) _ _ w4 (AggR.grow HK.out hg4) (AggR.grow HAb.out hg4) WK.out WB.out).mono ?_;rintro e w6 ⟨v6,rfl,o6,g6⟩;have O6:=zH (autF.lo o6 (show lo≤w4.heap.size by omega));have G6:=zH g6;clear o6 g6;go_wp2_with fail;exact ⟨_,rfl,O6.out,G6.out⟩
  ·intro f w4 hG hd
   have hg4:=gbT (gbD (gbR w1 none)) (chgF hG);have hz4:=hg4.size
   (try simp at hd)
   have h1:=hd.1;have h2:=hd.2.1
   have h3:autF lo (Ze k b (k.p - 1)) (f 14) w4:=by first | exact hd.2.2 | exact hd.2.2.1
   clear hd;obtain ⟨A7,n7,c7,B7,k7,d7,e7⟩:=autF.form h3;rw [e7] at h3;have HA7:=zH (autF.rd h3);clear h3
   try simp only [isV] at h1 h2
   simp [puts,dsts,Act.put,h1,h2,e7];clear h1 h2 e7;go_wp2_with fail;refine (Xp k a (Ze k b (k.p - 1)) _ _ _ w4 (AggR.grow HK.out hg4) (AggR.grow HAa.out hg4) HA7.out WK.out WA.out (XT WB.out)).mono ?_;rintro e w6 ⟨v6,rfl,o6,g6⟩;have O6:=zH (autF.lo o6 (show lo≤w4.heap.size by omega));have G6:=zH g6;clear o6 g6;go_wp2_with fail;exact ⟨_,rfl,O6.out,G6.out⟩
  ·intro f w4 hG hI hd
   have hg4:=gbT (gbD (gbR w1 none)) (chgF hG);have hz4:=hg4.size;have hI:w1.drew.grownBy w4 none:=hI
   (try simp at hd)
   have h77:autF lo (Zk k a (Ze k b (k.p - 1))) (f 15) w4:=by first | exact hd | exact hd.1 | exact hd.2.1 | exact hd.2
   obtain ⟨A9,n9,c9,B9,q9,d9,e77⟩:=h77.form;rw [e77] at h77;have R4:=DR.out.grow hg4;have f0:=R4.frozen 0;have f1:=R4.frozen 1;have b0:=R4.cell 0;have b1:=R4.cell 1;simp at b0 b1;have RS:=zH (Yq R4 (.slice A9 n9 c9) (.slice B9 q9 d9));have hch2:=(chgS w4 gR 0 (.slice A9 n9 c9)).trans (chgS _ gR 1 (.slice B9 q9 d9));have A1:=zH (h77.chg hch2 hgR);have CS:=zH ((Chg.of (S:=fun y=>y=gR) hg4 (by simp)).trans hch2);clear R4 h77 hd;simp [puts,dsts,Act.put,e77];go_wp2_with fail;exact ⟨rfl,.bool false,⟨_,_,_,_,_,_,A1.out,RS.out⟩,CS.out⟩
  all_goals
   intro f w4 hG hd;have hg4:=gbT (gbD (gbR w1 none)) (chgF hG);have k0:=gbk hg4 (k0.out);have k1:=gbk hg4 (k1.out);have k2:=gbk hg4 (a0.out);have k3:=gbk hg4 (a1.out);have k4:=gbk hg4 (b0.out);have k5:=gbk hg4 (b1.out)
   (try simp at hd)
   (first | simp [hd] | simp)
   clear hd;go_wp2_with fail;exact ⟨rfl,rfl⟩
 intro f w9 hI hd;simp only [puts,dsts,Act.put,zB,zC,zA,zD,zE];obtain ⟨⟨A9,n9,c9,B9,k9,d9,hAU,hBR⟩,hCZ⟩:=hI;have GZ:=zH (Zv G1.out hCZ hwR);clear hd;go_wp2_with fail;refine Yo Tryz.results105 (by rfl) stAuth (cs:=#[.slice A9 n9 c9,.slice B9 k9 d9]) hBR (by rfl) (by rfl) ?_;exact ⟨_,rfl,by rw [HFO.out];exact autF.lo hAU (by omega),GZ.out⟩
set_option maxHeartbeats 4000000 in
set_option maxRecDepth 100000 in
theorem Qs (k:KM) (x:TrM) (d e:Int) (kv xv:Value) (w0:World) (h:AggR w0 (ckeys k) kv) (hx:AggR w0 (ctriple x) xv) (wk:kwf k) (wx:twf x) (fa:formB k x.a=true) (fb:formB k x.b=true) (fc:formB k x.c=true) (hd1:elemB k.p d=true) (he1:elemB k.p e=true) :
  Calls Tryz.prog 106 #[kv,xv,.agg #[.int .i64 d,.int .i64 e]] w0 fun r w'=>∃v,r=.returned v∧autF w0.heap.size (Zw k x d e) v w'∧w0.grownBy w' none:=by
 obtain ⟨A,c,rfl,hc,hm,hI⟩:=ZK h;obtain ⟨A1,a1,A2,a2,B1,b1,B2,b2,C1,c1,C2,c2,rfl,ha,hb,hcc⟩:=YD hx;have hpw:=wk.1;obtain ⟨wp1,wp2⟩:=hpw;obtain ⟨w1,hw1⟩:∃y:World,(((w0.alloc (.cells #[.int .i64 k.p,.slice A k.al.length c] 34)).alloc (.cells #[.slice A1 x.a.sh.length a1,.slice A2 x.a.mc.length a2,.slice B1 x.b.sh.length b1,.slice B2 x.b.mc.length b2,.slice C1 x.c.sh.length c1,.slice C2 x.c.mc.length c2] 82)).alloc (.cells #[.int .i64 d,.int .i64 e] 104)).alloc (.cells #[.slice none 0 0,.slice none 0 0] 80)=y:=⟨_,rfl⟩;have G1:Hid (w0.grownBy w1 none):=by rw [← hw1];exact gbA (gbA (gbA (gbA (gbR _ _) _) _) _) _
 have z1:Hid (w1.heap.size=w0.heap.size+4):=by rw [← hw1];exact zH (by simp)
 have D0:Hid (Blk w1 w0.heap.size 34 #[.int .i64 k.p,.slice A k.al.length c]):=by rw [← hw1];exact (((Blk.new w0 _ _).grow (gbA (gbR _ _) _)).grow (gbA (gbR _ _) _)).grow (gbA (gbR _ _) _)
 have D1:Hid (Blk w1 (w0.heap.size+1) 82 #[.slice A1 x.a.sh.length a1,.slice A2 x.a.mc.length a2,.slice B1 x.b.sh.length b1,.slice B2 x.b.mc.length b2,.slice C1 x.c.sh.length c1,.slice C2 x.c.mc.length c2]):=by rw [← hw1];exact ((Blk.new' _ _ _ _ (by simp)).grow (gbA (gbR _ _) _)).grow (gbA (gbR _ _) _)
 have D2:Hid (Blk w1 (w0.heap.size+1+1) 104 #[.int .i64 d,.int .i64 e]):=by rw [← hw1];exact (Blk.new' _ _ _ _ (by simp)).grow (gbA (gbR _ _) _)
 have D3:Hid (Blk w1 (w0.heap.size+1+1+1) 80 #[.slice none 0 0,.slice none 0 0]):=by rw [← hw1];exact Blk.new' _ _ _ _ (by simp)
 have HK:=zH (AggR.grow h G1.out);have HAa:=zH (AggR.grow ha G1.out);have HAb:=zH (AggR.grow hb G1.out);have HAc:=zH (AggR.grow hcc G1.out);have WK:=zH wk;have WA:=zH wx.1;have WB:=zH wx.2.1;have WC:=zH wx.2.2;have F0:=zH fa;have F1:=zH fb;have F2:=zH fc;have ED:=zH hd1;have EE:=zH he1;clear fa fb fc h hx ha hb hcc hI wk wx;have HFO:Hid (Zw k x d e=if (formB k x.a&&formB k x.b&&formB k x.c)&&(elemB k.p d&&elemB k.p e) then ZM k (Zk k (Zk k x.c (Ze k x.b d)) (Ze k x.a e)) ((d*e) % k.p) else noA):=rfl
 go_enter Tryz.func106,Tryz.ntmps106
 have k0:=D0.out.cell 0;have k1:=D0.out.cell 1;have x0:=D1.out.cell 0;have x1:=D1.out.cell 1;have x2:=D1.out.cell 2;have x3:=D1.out.cell 3;have x4:=D1.out.cell 4;have x5:=D1.out.cell 5;have y0:=D2.out.cell 0;have y1:=D2.out.cell 1;simp at k0 k1 x0 x1 x2 x3 x4 x5 y0 y1;go_wp2_with fail;clear k0 k1 x0 x1 x2 x3 x4 x5 y0 y1 hw1;refine (Zx k x.a _ _ _ (AggR.grow HK.out (gbR w1 none)) (AggR.grow HAa.out (gbR w1 none)) WK.out WA.out).mono ?_;rintro r v0 ⟨rfl,g2⟩;rw [F0.out];have gz0:=zH (g2);clear g2;have k0:=(D0.out.grow gz0.out).cell 0;have k1:=(D0.out.grow gz0.out).cell 1;have x0:=(D1.out.grow gz0.out).cell 0;have x1:=(D1.out.grow gz0.out).cell 1;have x2:=(D1.out.grow gz0.out).cell 2;have x3:=(D1.out.grow gz0.out).cell 3;have x4:=(D1.out.grow gz0.out).cell 4;have x5:=(D1.out.grow gz0.out).cell 5;have y0:=(D2.out.grow gz0.out).cell 0;have y1:=(D2.out.grow gz0.out).cell 1;simp at k0 k1 x0 x1 x2 x3 x4 x5 y0 y1;go_wp2_with fail;clear k0 k1 x0 x1 x2 x3 x4 x5 y0 y1;refine (Zx k x.b _ _ _ (AggR.grow HK.out gz0.out) (AggR.grow HAb.out gz0.out) WK.out WB.out).mono ?_;rintro r v1 ⟨rfl,g2⟩;rw [F1.out];have gz1:=zH (gbT gz0.out g2);clear g2;have k0:=(D0.out.grow gz1.out).cell 0;have k1:=(D0.out.grow gz1.out).cell 1;have x0:=(D1.out.grow gz1.out).cell 0;have x1:=(D1.out.grow gz1.out).cell 1;have x2:=(D1.out.grow gz1.out).cell 2;have x3:=(D1.out.grow gz1.out).cell 3;have x4:=(D1.out.grow gz1.out).cell 4;have x5:=(D1.out.grow gz1.out).cell 5;have y0:=(D2.out.grow gz1.out).cell 0;have y1:=(D2.out.grow gz1.out).cell 1;simp at k0 k1 x0 x1 x2 x3 x4 x5 y0 y1;go_wp2_with fail;clear k0 k1 x0 x1 x2 x3 x4 x5 y0 y1;refine (Zx k x.c _ _ _ (AggR.grow HK.out gz1.out) (AggR.grow HAc.out gz1.out) WK.out WC.out).mono ?_;rintro r v2 ⟨rfl,g2⟩;rw [F2.out];have gz2:=zH (gbT gz1.out g2);clear g2;have k0:=(D0.out.grow gz2.out).cell 0;have k1:=(D0.out.grow gz2.out).cell 1;have x0:=(D1.out.grow gz2.out).cell 0;have x1:=(D1.out.grow gz2.out).cell 1;have x2:=(D1.out.grow gz2.out).cell 2;have x3:=(D1.out.grow gz2.out).cell 3;have x4:=(D1.out.grow gz2.out).cell 4;have x5:=(D1.out.grow gz2.out).cell 5;have y0:=(D2.out.grow gz2.out).cell 0;have y1:=(D2.out.grow gz2.out).cell 1;simp at k0 k1 x0 x1 x2 x3 x4 x5 y0 y1;go_wp2_with fail;clear k0 k1 x0 x1 x2 x3 x4 x5 y0 y1;refine (Xo k.p d e v2 (by omega)).mono ?_;rintro r wy ⟨rfl,hy⟩
 have gy:Hid (w1.grownBy wy none):=by first | (rw [← hy];exact gz2) | (subst hy;exact gz2) | exact zH (gbT gz2.out hy)
 clear hy;rw [show (elemB k.p d&&elemB k.p e)=true by rw [ED.out,EE.out];rfl];rw [show (((formB k x.a&&formB k x.b&&formB k x.c)&&(elemB k.p d&&elemB k.p e))=true) by rw [F0.out,F1.out,F2.out,ED.out,EE.out];rfl,if_pos rfl] at HFO;have E0:=zH (D0.out.grow gy.out);have E1:=zH (D1.out.grow gy.out);have E2:=zH (D2.out.grow gy.out);have E3:=zH (D3.out.grow gy.out);have GW:=zH (gbT G1.out gy.out);have KK:=zH (AggR.grow HK.out gy.out);have KA:=zH (AggR.grow HAa.out gy.out);have KB:=zH (AggR.grow HAb.out gy.out);have KC:=zH (AggR.grow HAc.out gy.out);have zy:Hid (w0.heap.size+4≤wy.heap.size):=by have:=z1.out;have:=gy.out.size;exact zH (by omega)
 clear D0 D1 D2 D3 HK HAa HAb HAc G1 z1 gy gz0 gz1 gz2;go_wp2_with fail;obtain ⟨lo,hlo⟩:∃lo,w0.heap.size+4=lo:=⟨_,rfl⟩;have hlz:lo≤wy.heap.size:=by have:=zy.out;omega
 have k0:=zH (E0.out.cell 0);have k1:=zH (E0.out.cell 1);have x0:=zH (E1.out.cell 0);have x1:=zH (E1.out.cell 1);have x2:=zH (E1.out.cell 2);have x3:=zH (E1.out.cell 3);have x4:=zH (E1.out.cell 4);have x5:=zH (E1.out.cell 5);have y0:=zH (E2.out.cell 0);have y1:=zH (E2.out.cell 1);simp only [List.getElem?_toArray,List.getElem?_cons_succ,List.getElem?_cons_zero] at k0 k1 x0 x1 x2 x3 x4 x5 y0 y1;obtain ⟨s1,hs1⟩:∃q,Ze k x.b d=q:=⟨_,rfl⟩;have HS1:=zH hs1;obtain ⟨s2,hs2⟩:∃q,Zk k x.c s1=q:=⟨_,rfl⟩;have HS2:=zH hs2;have WS1:Hid (awf s1):=by rw [← hs1];exact zH (XT WB.out)
 have WS2:Hid (awf s2):=by rw [← hs2];exact zH (YY WC.out)
 rw [hs1,hs2] at HFO;clear hs1 hs2
 refine Zg [.rd (.agg #[.int .i64 k.p,.slice A k.al.length c]),.rd (.pointer (some ⟨w0.heap.size+1,4,none⟩)),.rd (.agg #[.slice C1 x.c.sh.length c1,.slice C2 x.c.mc.length c2]),.rd (.agg #[.int .i64 k.p,.slice A k.al.length c]),.rd (.pointer (some ⟨w0.heap.size+1,2,none⟩)),.rd (.agg #[.slice B1 x.b.sh.length b1,.slice B2 x.b.mc.length b2]),.rd (.pointer (some ⟨w0.heap.size+1+1,0,none⟩)),.rd (.int .i64 d),.fl (autF lo s1),.fl (autF lo s2),.ch,.ch] (fun _=>False)
  [⟨[],fun _ w'=>wy.drew.grownBy w' none⟩,
   ⟨[7],fun l w'=>(∃g,l.getD 0 undef=.pointer (some ⟨g,0,none⟩)∧wy.heap.size≤g∧Blk w' g 80 #[.slice none 0 0,.slice none 0 0])∧wy.grownBy w' none⟩,
   ⟨[7],fun l w'=>(∃g,l.getD 0 undef=.pointer (some ⟨g,0,none⟩)∧wy.heap.size≤g∧autX lo g s2 w')∧wy.grownBy w' none⟩]
  (by kernel_rfl) (by kernel_rfl) (by kernel_rfl) 2 (by kernel_rfl) ?_ (gbR _ _) rfl ?_ ?_
 ·have hst:Zn [⟨[],fun _ w'=>wy.drew.grownBy w' none⟩,⟨[7],fun l w'=>(∃g,l.getD 0 undef=.pointer (some ⟨g,0,none⟩)∧wy.heap.size≤g∧Blk w' g 80 #[.slice none 0 0,.slice none 0 0])∧wy.grownBy w' none⟩,⟨[7],fun l w'=>(∃g,l.getD 0 undef=.pointer (some ⟨g,0,none⟩)∧wy.heap.size≤g∧autX lo g s2 w')∧wy.grownBy w' none⟩]:=by
   refine Zm (fun l w1 w2 h hg=>gbT h hg) ?_;refine Zm (ZE fun l w1 w2 ⟨⟨g,h1,h2,h3⟩,h4⟩ hg=>⟨⟨g,h1,h2,h3.grow hg⟩,gbT h4 hg⟩) ?_;exact Zm (ZE fun l w1 w2 ⟨⟨g,h1,h2,h3⟩,h4⟩ hg=>⟨⟨g,h1,h2,h3.grow hg⟩,gbT h4 hg⟩) YO
  simp only [flOk,true_and,and_true];exact ⟨⟨ZH,hst⟩,⟨ZH,hst⟩⟩
 ·simp only [hopsK,hopK,Kd.next,and_true]
  refine ⟨?_, ?_, ?_, ?_, ?_, ?_, ?_, ?_, ?_, ?_, ?_, ?_⟩;rotate_left 8
  ·intro f w4 hG hd
   have hg4:=gbT (gbD (gbR wy none)) (chgF hG);have hz4:=hg4.size
   (try simp at hd)
   (first | simp [hd] | simp)
   clear hd;go_wp2_with fail;refine (XE k x.b d _ _ w4 (AggR.grow KK.out hg4) (AggR.grow KB.out hg4) WK.out WB.out).mono ?_;rintro e w6 ⟨v6,rfl,o6,g6⟩;rw [HS1.out] at o6;have O6:=zH (autF.lo o6 (show lo≤w4.heap.size by omega));have G6:=zH g6;clear o6 g6;go_wp2_with fail;exact ⟨_,rfl,O6.out,G6.out⟩
  ·intro f w4 hG hd
   have hg4:=gbT (gbD (gbR wy none)) (chgF hG);have hz4:=hg4.size
   (try simp at hd)
   have h1:=hd.1;have h2:=hd.2.1
   have h3:autF lo s1 (f 46) w4:=by first | exact hd.2.2 | exact hd.2.2.1
   clear hd;obtain ⟨A7,n7,c7,B7,k7,d7,e7⟩:=autF.form h3;rw [e7] at h3;have HA7:=zH (autF.rd h3);clear h3
   try simp only [isV] at h1 h2
   simp [puts,dsts,Act.put,h1,h2,e7];clear h1 h2 e7;go_wp2_with fail;refine (Xp k x.c s1 _ _ _ w4 (AggR.grow KK.out hg4) (AggR.grow KC.out hg4) HA7.out WK.out WC.out WS1.out).mono ?_;rintro e w6 ⟨v6,rfl,o6,g6⟩;rw [HS2.out] at o6;have O6:=zH (autF.lo o6 (show lo≤w4.heap.size by omega));have G6:=zH g6;clear o6 g6;go_wp2_with fail;exact ⟨_,rfl,O6.out,G6.out⟩
  ·intro f w4 hG hI hd
   have hg4:=gbT (gbD (gbR wy none)) (chgF hG);have hz4:=hg4.size;clear hd;simp [puts,dsts,Act.put];go_wp2_with fail;exact ⟨_,rfl,⟨⟨_,rfl,hz4,Blk.new _ _ _⟩,gbA hg4 _⟩,⟨Chg.of (gbA (gbR _ none) _) (by simp),by simp [keepsC,dstAt];exact ⟨fun h=>ZH _ _ _ h (gbA (gbR _ _) _),fun h=>ZH _ _ _ h (gbA (gbR _ _) _)⟩⟩⟩
  ·intro f w4 hG hI hd
   have hg4:=gbT (gbD (gbR wy none)) (chgF hG);have hz4:=hg4.size;obtain ⟨⟨g7,e7,hg7,R4⟩,hI⟩:=hI;have e7:f 7=.pointer (some ⟨g7,0,none⟩):=e7
   (try simp at hd)
   have h77:autF lo s2 (f 47) w4:=by first | exact hd | exact hd.1 | exact hd.2.1 | exact hd.2
   clear hd;obtain ⟨A9,n9,c9,B9,q9,d9,e77⟩:=h77.form;rw [e77] at h77;have f0:=R4.frozen 0;have f1:=R4.frozen 1;have b0:=R4.cell 0;have b1:=R4.cell 1;simp at b0 b1;have RS:=zH (Yq R4 (.slice A9 n9 c9) (.slice B9 q9 d9));have hch2:=(chgS w4 g7 0 (.slice A9 n9 c9)).trans (chgS _ g7 1 (.slice B9 q9 d9));have A1:=zH (autF.far h77 R4 hch2 (by decide));have GS:=zH (Zv hg4 hch2 hg7);clear R4 h77 hI;simp [puts,dsts,Act.put,e7,e77];go_wp2_with fail;exact ⟨rfl,.bool false,⟨g7,e7,hg7,_,_,_,_,_,_,A1.out,RS.out⟩,GS.out⟩
  all_goals
   intro f w4 hG hd;have hg4:=gbT (gbD (gbR wy none)) (chgF hG);have k0:=gbk hg4 (k0.out);have k1:=gbk hg4 (k1.out);have k2:=gbk hg4 (x0.out);have k3:=gbk hg4 (x1.out);have k4:=gbk hg4 (x2.out);have k5:=gbk hg4 (x3.out);have k6:=gbk hg4 (x4.out);have k7:=gbk hg4 (x5.out);have k8:=gbk hg4 (y0.out);have k9:=gbk hg4 (y1.out)
   (try simp at hd)
   (first | simp [hd] | simp)
   clear hd;go_wp2_with fail;exact ⟨rfl,rfl⟩
 intro f wr hI hd;simp only [puts,dsts,Act.put,zB,zC,zA,zD,zE];obtain ⟨⟨g7,e7,hg7,A9,n9,c9,B9,k9,d9,hAU,hBR⟩,hgr⟩:=hI;have e7:f 7=.pointer (some ⟨g7,0,none⟩):=e7;rw [e7];have GR:=zH hgr;have GB:=zH hBR;have AU:=zH (autF.rd hAU);have DR:=zH (E3.out.grow hgr);have k0':=zH (gbk hgr k0.out);have k1':=zH (gbk hgr k1.out);have x0':=zH (gbk hgr x0.out);have x1':=zH (gbk hgr x1.out);have y0':=zH (gbk hgr y0.out);have y1':=zH (gbk hgr y1.out);have g0:=zH (hBR.cell 0);have g1:=zH (hBR.cell 1);simp only [List.getElem?_toArray,List.getElem?_cons_succ,List.getElem?_cons_zero] at g0 g1;have hlr:lo≤wr.heap.size:=by have:=hgr.size;omega
 clear hd e7 hAU hBR hgr k0 k1 x0 x1 x2 x3 x4 x5 y0 y1 hlz;go_wp2_with fail;obtain ⟨gR,hgR'⟩:∃g,w0.heap.size+1+1+1=g:=⟨_,rfl⟩;have hgR:gR<lo:=by omega
 have hwR:w0.heap.size≤gR:=by omega
 rw [hgR'] at DR ⊢;obtain ⟨s3,hs3⟩:∃q,Ze k x.a e=q:=⟨_,rfl⟩;have HS3:=zH hs3;obtain ⟨s4,hs4⟩:∃q,Zk k s2 s3=q:=⟨_,rfl⟩;have HS4:=zH hs4;obtain ⟨mu,hmu⟩:∃q,(d*e) % k.p=q:=⟨_,rfl⟩;have HMU:=zH hmu;obtain ⟨s5,hs5⟩:∃q,ZM k s4 mu=q:=⟨_,rfl⟩;have HS5:=zH hs5;have WS3:Hid (awf s3):=by rw [← hs3];exact zH (XT WA.out)
 have WS4:Hid (awf s4):=by rw [← hs4];exact zH (YY WS2.out)
 rw [hs3,hs4,hmu,hs5] at HFO;clear hs3 hs4 hmu hs5
 refine Zg [.rd (.agg #[.int .i64 k.p,.slice A k.al.length c]),.rd (.agg #[.int .i64 k.p,.slice A k.al.length c]),.rd (.agg #[.slice A9 n9 c9,.slice B9 k9 d9]),.rd (.agg #[.int .i64 k.p,.slice A k.al.length c]),.rd (.pointer (some ⟨w0.heap.size+1,0,none⟩)),.rd (.agg #[.slice A1 x.a.sh.length a1,.slice A2 x.a.mc.length a2]),.rd (.pointer (some ⟨w0.heap.size+1+1,1,none⟩)),.rd (.int .i64 e),.fl (autF lo s3),.fl (autF lo s4),.rd (.pointer (some ⟨w0.heap.size,0,none⟩)),.rd (.int .i64 k.p),.rd (.pointer (some ⟨w0.heap.size+1+1,0,none⟩)),.rd (.int .i64 d),.rd (.pointer (some ⟨w0.heap.size+1+1,1,none⟩)),.rd (.int .i64 e),.fl (isV (.int .i64 mu)),.fl (autF lo s5),.ch] (fun _=>False)
  [⟨[],fun _ w'=>wr.drew.grownBy w' none⟩,
   ⟨[],fun _ w'=>autX lo gR s5 w'∧Chg (fun y=>y=gR) wr w'⟩]
  (by kernel_rfl) (by kernel_rfl) (by kernel_rfl) 1 (by kernel_rfl) ?_ (gbR _ _) rfl ?_ ?_
 ·have hst:Zn [⟨[],fun _ w'=>wr.drew.grownBy w' none⟩,⟨[],fun _ w'=>autX lo gR s5 w'∧Chg (fun y=>y=gR) wr w'⟩]:=by
   refine Zm (fun l w1 w2 h hg=>gbT h hg) ?_;exact Zm (ZE fun l w1 w2 ⟨h1,h2⟩ hg=>⟨h1.grow hg,h2.trans (Chg.of hg (by simp))⟩) YO
  simp only [flOk,true_and,and_true];exact ⟨⟨ZH,hst⟩,⟨ZH,hst⟩,⟨Zb _,hst⟩,⟨ZH,hst⟩⟩
 ·simp only [hopsK,hopK,Kd.next,and_true]
  refine ⟨?_, ?_, ?_, ?_, ?_, ?_, ?_, ?_, ?_, ?_, ?_, ?_, ?_, ?_, ?_, ?_, ?_, ?_, ?_⟩;rotate_left 8
  ·intro f w4 hG hd
   have hg4:=gbT (gbD (gbR wr none)) (chgF hG);have hz4:=hg4.size
   (try simp at hd)
   (first | simp [hd] | simp)
   clear hd;go_wp2_with fail;refine (XE k x.a e _ _ w4 (AggR.grow KK.out (gbT GR.out hg4)) (AggR.grow KA.out (gbT GR.out hg4)) WK.out WA.out).mono ?_;rintro e w6 ⟨v6,rfl,o6,g6⟩;rw [HS3.out] at o6;have O6:=zH (autF.lo o6 (show lo≤w4.heap.size by omega));have G6:=zH g6;clear o6 g6;go_wp2_with fail;exact ⟨_,rfl,O6.out,G6.out⟩
  ·intro f w4 hG hd
   have hg4:=gbT (gbD (gbR wr none)) (chgF hG);have hz4:=hg4.size
   (try simp at hd)
   have h1:=hd.1;have h2:=hd.2.1
   have h3:autF lo s3 (f 56) w4:=by first | exact hd.2.2 | exact hd.2.2.1
   clear hd;obtain ⟨A7,n7,c7,B7,k7,d7,e7⟩:=autF.form h3;rw [e7] at h3;have HA7:=zH (autF.rd h3);clear h3
   try simp only [isV] at h1 h2
   simp [puts,dsts,Act.put,h1,h2,e7];clear h1 h2 e7;go_wp2_with fail;refine (Xp k s2 s3 _ _ _ w4 (AggR.grow KK.out (gbT GR.out hg4)) (AggR.grow AU.out hg4) HA7.out WK.out WS2.out WS3.out).mono ?_;rintro e w6 ⟨v6,rfl,o6,g6⟩;rw [HS4.out] at o6;have O6:=zH (autF.lo o6 (show lo≤w4.heap.size by omega));have G6:=zH g6;clear o6 g6;go_wp2_with fail;exact ⟨_,rfl,O6.out,G6.out⟩
  rotate_left 6
  ·intro f w4 hG hd
   have hg4:=gbT (gbD (gbR wr none)) (chgF hG);have hz4:=hg4.size
   (try simp at hd)
   have h1:=hd.1;have h2:=hd.2.1
   have h3:isV (.int .i64 e) (f 63) w4:=by first | exact hd.2.2 | exact hd.2.2.1
   clear hd
   try simp only [isV] at h1 h2 h3
   simp [puts,dsts,Act.put,h1,h2,h3];clear h1 h2 h3;go_wp2_with fail;refine (VN k.p d e w4 ED.out EE.out).mono ?_;rintro e w6 ⟨rfl,g6⟩;rw [HMU.out];have G6:=zH g6;clear g6;go_wp2_with fail;exact ⟨_,rfl,rfl,G6.out⟩
  ·intro f w4 hG hd
   have hg4:=gbT (gbD (gbR wr none)) (chgF hG);have hz4:=hg4.size
   (try simp at hd)
   have h1:=hd.1;have h2:autF lo s4 (f 57) w4:=hd.2.1
   have h3:isV (.int .i64 mu) (f 64) w4:=by first | exact hd.2.2 | exact hd.2.2.1
   clear hd;obtain ⟨A7,n7,c7,B7,k7,d7,e7⟩:=autF.form h2;rw [e7] at h2;have HA7:=zH (autF.rd h2);clear h2
   try simp only [isV] at h1 h3
   simp [puts,dsts,Act.put,h1,h3,e7];clear h1 h3 e7;go_wp2_with fail;refine (Qb k s4 mu _ _ w4 (AggR.grow KK.out (gbT GR.out hg4)) HA7.out WK.out WS4.out).mono ?_;rintro e w6 ⟨v6,rfl,o6,g6⟩;rw [HS5.out] at o6;have O6:=zH (autF.lo o6 (show lo≤w4.heap.size by omega));have G6:=zH g6;clear o6 g6;go_wp2_with fail;exact ⟨_,rfl,O6.out,G6.out⟩
  ·intro f w4 hG hI hd
   have hg4:=gbT (gbD (gbR wr none)) (chgF hG);have hz4:=hg4.size;have hI:wr.drew.grownBy w4 none:=hI
   (try simp at hd)
   have h77:autF lo s5 (f 65) w4:=by first | exact hd | exact hd.1 | exact hd.2.1 | exact hd.2
   obtain ⟨A9,n9,c9,B9,q9,d9,e77⟩:=h77.form;rw [e77] at h77;have R4:=DR.out.grow hg4;have f0:=R4.frozen 0;have f1:=R4.frozen 1;have b0:=R4.cell 0;have b1:=R4.cell 1;simp at b0 b1;have RS:=zH (Yq R4 (.slice A9 n9 c9) (.slice B9 q9 d9));have hch2:=(chgS w4 gR 0 (.slice A9 n9 c9)).trans (chgS _ gR 1 (.slice B9 q9 d9));have A1:=zH (h77.chg hch2 hgR);have CS:=zH ((Chg.of (S:=fun y=>y=gR) hg4 (by simp)).trans hch2);clear R4 h77 hd;simp [puts,dsts,Act.put,e77];go_wp2_with fail;exact ⟨rfl,.bool false,⟨_,_,_,_,_,_,A1.out,RS.out⟩,CS.out⟩
  all_goals
   intro f w4 hG hd;have hg4:=gbT (gbD (gbR wr none)) (chgF hG);have k0:=gbk hg4 (k0'.out);have k1:=gbk hg4 (k1'.out);have k2:=gbk hg4 (x0'.out);have k3:=gbk hg4 (x1'.out);have k4:=gbk hg4 (y0'.out);have k5:=gbk hg4 (y1'.out);have k6:=gbk hg4 (g0.out);have k7:=gbk hg4 (g1.out)
   (try simp at hd)
   (first | simp [hd] | simp)
   clear hd;go_wp2_with fail;exact ⟨rfl,rfl⟩
 intro f w9 hI hd;simp only [puts,dsts,Act.put,zB,zC,zA,zD,zE];obtain ⟨⟨A9,n9,c9,B9,k9,d9,hAU,hBR⟩,hCZ⟩:=hI;have GZ:=zH (Zv (gbT GW.out GR.out) hCZ hwR);clear hd;go_wp2_with fail;refine Yo Tryz.results106 (by rfl) stAuth (cs:=#[.slice A9 n9 c9,.slice B9 k9 d9]) hBR (by rfl) (by rfl) ?_;exact ⟨_,rfl,by rw [HFO.out];exact autF.lo hAU (by omega),GZ.out⟩
end Go.Proofs.YthaadgdeadbhkaaGreat
