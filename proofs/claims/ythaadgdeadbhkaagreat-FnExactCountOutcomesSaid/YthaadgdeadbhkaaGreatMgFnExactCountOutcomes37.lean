/-
 l28Minus and TripleUse of the reference (printed by wip/gen_stripu.py).
-/
import Derived.Test.YthaadgdeadbhkaaGreatMgFnExactCountOutcomes36
open Go.RowKit
set_option linter.unusedVariables false
set_option linter.unusedSimpArgs false
namespace Go.Proofs.YthaadgdeadbhkaaGreat
attribute [local simp] depsC dstAt kAt bindE List.filter_cons Zz Zq Zr Zs ZA ZW puts dsts Act.put
set_option maxHeartbeats 2000000 in
set_option maxRecDepth 100000 in
theorem Xa (k:KM) (a b:AuM) (kv av bv:Value) (w0:World) (h:AggR w0 (ckeys k) kv) (ha:AggR w0 (cauth a) av) (hb:AggR w0 (cauth b) bv) (wk:kwf k) (wa:awf a) (wb:awf b) (hf:fieldB k.p=true) :
  Calls Tryz.prog 105 #[kv,av,bv] w0 fun e w'=>∃v,e=.returned v∧autF w0.heap.size (minusA k a b) v w'∧w0.grownBy w' none:=by
 obtain ⟨A,c,rfl,hc,hm,hI⟩:=ZG h;obtain ⟨Ba,da,Ca,fa,rfl,_,_,_,_,hSa,hMa⟩:=ZO ha;obtain ⟨Bb,db,Cb,fb,rfl,_,_,_,_,hSb,hMb⟩:=ZO hb;have hpw:=wk.1;obtain ⟨wp1,wp2⟩:=hpw;obtain ⟨w1,hw1⟩:∃x:World,(((w0.alloc (.cells #[.int .i64 k.p,.slice A k.al.length c] 34)).alloc (.cells #[.slice Ba a.sh.length da,.slice Ca a.mc.length fa] 80)).alloc (.cells #[.slice Bb b.sh.length db,.slice Cb b.mc.length fb] 80)).alloc (.cells #[.slice none 0 0,.slice none 0 0] 80)=x:=⟨_,rfl⟩;have G1:Hid (w0.grownBy w1 none):=by rw [← hw1];exact gbA (gbA (gbA (gbA (gbR _ _) _) _) _) _
 have z1:Hid (w1.heap.size=w0.heap.size+4):=by rw [← hw1];exact zH (by simp)
 have D0:Hid (Blk w1 w0.heap.size 34 #[.int .i64 k.p,.slice A k.al.length c]):=by rw [← hw1];exact (((Blk.new w0 _ _).grow (gbA (gbR _ _) _)).grow (gbA (gbR _ _) _)).grow (gbA (gbR _ _) _)
 have D1:Hid (Blk w1 (w0.heap.size+1) 80 #[.slice Ba a.sh.length da,.slice Ca a.mc.length fa]):=by rw [← hw1];exact ((Blk.new' _ _ _ _ (by simp)).grow (gbA (gbR _ _) _)).grow (gbA (gbR _ _) _)
 have D2:Hid (Blk w1 (w0.heap.size+1+1) 80 #[.slice Bb b.sh.length db,.slice Cb b.mc.length fb]):=by rw [← hw1];exact (Blk.new' _ _ _ _ (by simp)).grow (gbA (gbR _ _) _)
 have D3:Hid (Blk w1 (w0.heap.size+1+1+1) 80 #[.slice none 0 0,.slice none 0 0]):=by rw [← hw1];exact Blk.new' _ _ _ _ (by simp)
 have HK:=zH (AggR.grow h G1.out);have HAa:=zH (AggR.grow ha G1.out);have HAb:=zH (AggR.grow hb G1.out);have WK:=zH wk;have WA:=zH wa;have WB:=zH wb;obtain ⟨fp1,fp2⟩:=ZC hf;have E0:=zH (Yi hf (show (0:Int)≤0 by omega) (by omega));have E1:=zH (Yi hf (show (0:Int)≤1 by omega) (by omega))
 have HM:Hid ((0 - 1) % k.p=k.p - 1):=by
  unfold Hid;rw [← Int.add_emod_right,show (0 - 1+k.p)=k.p - 1 by omega];exact Int.emod_eq_of_lt (by omega) (by omega)
 clear h ha hb hI hSa hMa hSb hMb wk wa wb;have HFO:Hid (minusA k a b=ZD k a (Zk k b (k.p - 1))):=rfl
 go_enter Tryz.func105,Tryz.ntmps105
 go_wp2_with fail;clear hw1;obtain ⟨lo,hlo⟩:∃lo,w0.heap.size+4=lo:=⟨_,rfl⟩;obtain ⟨gR,hgR'⟩:∃g,w0.heap.size+1+1+1=g:=⟨_,rfl⟩;have hgR:gR<lo:=by omega
 have hwR:w0.heap.size≤gR:=by omega
 have hlz:lo≤w1.heap.size:=by have:=z1.out;omega
 rw [hgR'] at D3 ⊢;have DR:=D3;have k0:=zH (D0.out.cell 0);have k1:=zH (D0.out.cell 1);have a0:=zH (D1.out.cell 0);have a1:=zH (D1.out.cell 1);have b0:=zH (D2.out.cell 0);have b1:=zH (D2.out.cell 1);simp only [List.getElem?_toArray,List.getElem?_cons_succ,List.getElem?_cons_zero] at k0 k1 a0 a1 b0 b1
 refine Zg [.rd (.agg #[.int .i64 k.p,.slice A k.al.length c]),.rd (.agg #[.slice Ba a.sh.length da,.slice Ca a.mc.length fa]),.rd (.agg #[.int .i64 k.p,.slice A k.al.length c]),.rd (.agg #[.slice Bb b.sh.length db,.slice Cb b.mc.length fb]),.rd (.pointer (some ⟨w0.heap.size,0,none⟩)),.rd (.int .i64 k.p),.fl (isV (.int .i64 (k.p - 1))),.fl (autF lo (Zk k b (k.p - 1))),.fl (autF lo (ZD k a (Zk k b (k.p - 1)))),.ch] (fun _=>False)
  [⟨[],fun _ w'=>w1.drew.grownBy w' none⟩,
   ⟨[],fun _ w'=>autX lo gR (ZD k a (Zk k b (k.p - 1))) w'∧Chg (fun y=>y=gR) w1 w'⟩]
  (by kernel_rfl) (by kernel_rfl) (by kernel_rfl) 1 (by kernel_rfl) ?_ (gbR _ _) rfl ?_ ?_
 ·have hst:Zw [⟨[],fun _ w'=>w1.drew.grownBy w' none⟩,⟨[],fun _ w'=>autX lo gR (ZD k a (Zk k b (k.p - 1))) w'∧Chg (fun y=>y=gR) w1 w'⟩]:=by
   refine Zc (fun l w1 w2 h hg=>gbT h hg) ?_;exact Zc (Zo fun l w1 w2 ⟨h1,h2⟩ hg=>⟨h1.grow hg,h2.trans (Chg.of hg (by simp))⟩) ZX
  simp only [flOk,true_and,and_true];exact ⟨⟨Zb _,hst⟩,⟨ZR,hst⟩,⟨ZR,hst⟩⟩
 ·simp only [hopsK,hopK,Kd.next,and_true]
  refine ⟨?_, ?_, ?_, ?_, ?_, ?_, ?_, ?_, ?_, ?_⟩;rotate_left 6
  ·intro f w4 hG hd
   have hg4:=gbT (gbD (gbR w1 none)) (chgF hG);have hz4:=hg4.size
   (try simp at hd)
   try simp only [isV] at hd
   simp [puts,dsts,Act.put,hd];clear hd;go_wp2_with fail;refine (WD k.p 0 1 w4 E0.out E1.out).mono ?_;rintro e w6 ⟨rfl,g6⟩;rw [HM.out];have G6:=zH g6;clear g6;go_wp2_with fail;exact ⟨_,rfl,rfl,G6.out⟩
  ·intro f w4 hG hd
   have hg4:=gbT (gbD (gbR w1 none)) (chgF hG);have hz4:=hg4.size
   (try simp at hd)
   have h1:=hd.1;have h2:=hd.2.1
   have h3:isV (.int .i64 (k.p - 1)) (f 13) w4:=by first | exact hd.2.2 | exact hd.2.2.1
   try simp only [isV] at h1 h2 h3
   simp [puts,dsts,Act.put,h1,h2,h3];clear h1 h2 h3;go_wp2_with fail;refine (Wi k b (k.p - 1) _ _ w4 (AggR.grow HK.out hg4) (AggR.grow HAb.out hg4) WK.out WB.out).mono ?_;rintro e w6 ⟨v6,rfl,o6,g6⟩;have O6:=zH (autF.lo o6 (show lo≤w4.heap.size by omega));have G6:=zH g6;clear o6 g6;go_wp2_with fail;exact ⟨_,rfl,O6.out,G6.out⟩
  ·intro f w4 hG hd
   have hg4:=gbT (gbD (gbR w1 none)) (chgF hG);have hz4:=hg4.size
   (try simp at hd)
   have h1:=hd.1;have h2:=hd.2.1
   have h3:autF lo (Zk k b (k.p - 1)) (f 14) w4:=by first | exact hd.2.2 | exact hd.2.2.1
   clear hd;obtain ⟨A7,n7,c7,B7,k7,d7,e7⟩:=autF.form h3;rw [e7] at h3;have HA7:=zH (autF.rd h3);clear h3
   try simp only [isV] at h1 h2
   simp [puts,dsts,Act.put,h1,h2,e7];clear h1 h2 e7;go_wp2_with fail;refine (XN k a (Zk k b (k.p - 1)) _ _ _ w4 (AggR.grow HK.out hg4) (AggR.grow HAa.out hg4) HA7.out WK.out WA.out (WQ WB.out)).mono ?_;rintro e w6 ⟨v6,rfl,o6,g6⟩;have O6:=zH (autF.lo o6 (show lo≤w4.heap.size by omega));have G6:=zH g6;clear o6 g6;go_wp2_with fail;exact ⟨_,rfl,O6.out,G6.out⟩
  ·intro f w4 hG hI hd
   have hg4:=gbT (gbD (gbR w1 none)) (chgF hG);have hz4:=hg4.size;have hI:w1.drew.grownBy w4 none:=hI
   (try simp at hd)
   have h77:autF lo (ZD k a (Zk k b (k.p - 1))) (f 15) w4:=by first | exact hd | exact hd.1 | exact hd.2.1 | exact hd.2
   obtain ⟨A9,n9,c9,B9,q9,d9,e77⟩:=h77.form;rw [e77] at h77;have R4:=DR.out.grow hg4;have f0:=R4.frozen 0;have f1:=R4.frozen 1;have b0:=R4.cell 0;have b1:=R4.cell 1;simp at b0 b1;have RS:=zH (Yf R4 (.slice A9 n9 c9) (.slice B9 q9 d9));have hch2:=(chgS w4 gR 0 (.slice A9 n9 c9)).trans (chgS _ gR 1 (.slice B9 q9 d9));have A1:=zH (h77.chg hch2 hgR);have CS:=zH ((Chg.of (S:=fun y=>y=gR) hg4 (by simp)).trans hch2);clear R4 h77 hd;simp [puts,dsts,Act.put,e77];go_wp2_with fail;exact ⟨rfl,.bool false,⟨_,_,_,_,_,_,A1.out,RS.out⟩,CS.out⟩
  all_goals
   intro f w4 hG hd;have hg4:=gbT (gbD (gbR w1 none)) (chgF hG);have k0:=gbk hg4 (k0.out);have k1:=gbk hg4 (k1.out);have k2:=gbk hg4 (a0.out);have k3:=gbk hg4 (a1.out);have k4:=gbk hg4 (b0.out);have k5:=gbk hg4 (b1.out)
   (try simp at hd)
   (first | simp [hd] | simp)
   clear hd;go_wp2_with fail;exact ⟨rfl,rfl⟩
 intro f w9 hI hd;simp only [puts,dsts,Act.put,zB,zC,zA,zD,zE];obtain ⟨⟨A9,n9,c9,B9,k9,d9,hAU,hBR⟩,hCZ⟩:=hI;have GZ:=zH (Zu G1.out hCZ hwR);clear hd;go_wp2_with fail;refine YJ Tryz.results105 (by rfl) stAuth (cs:=#[.slice A9 n9 c9,.slice B9 k9 d9]) hBR (by rfl) (by rfl) ?_;exact ⟨_,rfl,by rw [HFO.out];exact autF.lo hAU (by omega),GZ.out⟩
set_option maxHeartbeats 4000000 in
set_option maxRecDepth 100000 in
theorem Jh (k:KM) (x:TrM) (d e:Int) (kv xv:Value) (w0:World) (h:AggR w0 (ckeys k) kv) (hx:AggR w0 (YA x) xv) (wk:kwf k) (wx:twf x) (fa:formB k x.a=true) (fb:formB k x.b=true) (fc:formB k x.c=true) (hd1:elemB k.p d=true) (he1:elemB k.p e=true) :
  Calls Tryz.prog 106 #[kv,xv,.agg #[.int .i64 d,.int .i64 e]] w0 fun r w'=>∃v,r=.returned v∧autF w0.heap.size (ZJ k x d e) v w'∧w0.grownBy w' none:=by
 obtain ⟨A,c,rfl,hc,hm,hI⟩:=ZG h;obtain ⟨A1,a1,A2,a2,B1,b1,B2,b2,C1,c1,C2,c2,rfl,ha,hb,hcc⟩:=XX hx;have hpw:=wk.1;obtain ⟨wp1,wp2⟩:=hpw;obtain ⟨w1,hw1⟩:∃y:World,(((w0.alloc (.cells #[.int .i64 k.p,.slice A k.al.length c] 34)).alloc (.cells #[.slice A1 x.a.sh.length a1,.slice A2 x.a.mc.length a2,.slice B1 x.b.sh.length b1,.slice B2 x.b.mc.length b2,.slice C1 x.c.sh.length c1,.slice C2 x.c.mc.length c2] 82)).alloc (.cells #[.int .i64 d,.int .i64 e] 104)).alloc (.cells #[.slice none 0 0,.slice none 0 0] 80)=y:=⟨_,rfl⟩;have G1:Hid (w0.grownBy w1 none):=by rw [← hw1];exact gbA (gbA (gbA (gbA (gbR _ _) _) _) _) _
 have z1:Hid (w1.heap.size=w0.heap.size+4):=by rw [← hw1];exact zH (by simp)
 have D0:Hid (Blk w1 w0.heap.size 34 #[.int .i64 k.p,.slice A k.al.length c]):=by rw [← hw1];exact (((Blk.new w0 _ _).grow (gbA (gbR _ _) _)).grow (gbA (gbR _ _) _)).grow (gbA (gbR _ _) _)
 have D1:Hid (Blk w1 (w0.heap.size+1) 82 #[.slice A1 x.a.sh.length a1,.slice A2 x.a.mc.length a2,.slice B1 x.b.sh.length b1,.slice B2 x.b.mc.length b2,.slice C1 x.c.sh.length c1,.slice C2 x.c.mc.length c2]):=by rw [← hw1];exact ((Blk.new' _ _ _ _ (by simp)).grow (gbA (gbR _ _) _)).grow (gbA (gbR _ _) _)
 have D2:Hid (Blk w1 (w0.heap.size+1+1) 104 #[.int .i64 d,.int .i64 e]):=by rw [← hw1];exact (Blk.new' _ _ _ _ (by simp)).grow (gbA (gbR _ _) _)
 have D3:Hid (Blk w1 (w0.heap.size+1+1+1) 80 #[.slice none 0 0,.slice none 0 0]):=by rw [← hw1];exact Blk.new' _ _ _ _ (by simp)
 have HK:=zH (AggR.grow h G1.out);have HAa:=zH (AggR.grow ha G1.out);have HAb:=zH (AggR.grow hb G1.out);have HAc:=zH (AggR.grow hcc G1.out);have WK:=zH wk;have WA:=zH wx.1;have WB:=zH wx.2.1;have WC:=zH wx.2.2;have F0:=zH fa;have F1:=zH fb;have F2:=zH fc;have ED:=zH hd1;have EE:=zH he1;clear fa fb fc h hx ha hb hcc hI wk wx;have HFO:Hid (ZJ k x d e=if (formB k x.a&&formB k x.b&&formB k x.c)&&(elemB k.p d&&elemB k.p e) then ZH k (ZD k (ZD k x.c (Zk k x.b d)) (Zk k x.a e)) ((d*e) % k.p) else noA):=rfl
 go_enter Tryz.func106,Tryz.ntmps106
 have k0:=D0.out.cell 0;have k1:=D0.out.cell 1;have x0:=D1.out.cell 0;have x1:=D1.out.cell 1;have x2:=D1.out.cell 2;have x3:=D1.out.cell 3;have x4:=D1.out.cell 4;have x5:=D1.out.cell 5;have y0:=D2.out.cell 0;have y1:=D2.out.cell 1;simp at k0 k1 x0 x1 x2 x3 x4 x5 y0 y1;go_wp2_with fail;clear k0 k1 x0 x1 x2 x3 x4 x5 y0 y1 hw1;refine (ZY k x.a _ _ _ (AggR.grow HK.out (gbR w1 none)) (AggR.grow HAa.out (gbR w1 none)) WK.out WA.out).mono ?_;rintro r v0 ⟨rfl,g2⟩;rw [F0.out];have gz0:=zH (g2);clear g2;have k0:=(D0.out.grow gz0.out).cell 0;have k1:=(D0.out.grow gz0.out).cell 1;have x0:=(D1.out.grow gz0.out).cell 0;have x1:=(D1.out.grow gz0.out).cell 1;have x2:=(D1.out.grow gz0.out).cell 2;have x3:=(D1.out.grow gz0.out).cell 3;have x4:=(D1.out.grow gz0.out).cell 4;have x5:=(D1.out.grow gz0.out).cell 5;have y0:=(D2.out.grow gz0.out).cell 0;have y1:=(D2.out.grow gz0.out).cell 1;simp at k0 k1 x0 x1 x2 x3 x4 x5 y0 y1;go_wp2_with fail;clear k0 k1 x0 x1 x2 x3 x4 x5 y0 y1;refine (ZY k x.b _ _ _ (AggR.grow HK.out gz0.out) (AggR.grow HAb.out gz0.out) WK.out WB.out).mono ?_;rintro r v1 ⟨rfl,g2⟩;rw [F1.out];have gz1:=zH (gbT gz0.out g2);clear g2;have k0:=(D0.out.grow gz1.out).cell 0;have k1:=(D0.out.grow gz1.out).cell 1;have x0:=(D1.out.grow gz1.out).cell 0;have x1:=(D1.out.grow gz1.out).cell 1;have x2:=(D1.out.grow gz1.out).cell 2;have x3:=(D1.out.grow gz1.out).cell 3;have x4:=(D1.out.grow gz1.out).cell 4;have x5:=(D1.out.grow gz1.out).cell 5;have y0:=(D2.out.grow gz1.out).cell 0;have y1:=(D2.out.grow gz1.out).cell 1;simp at k0 k1 x0 x1 x2 x3 x4 x5 y0 y1;go_wp2_with fail;clear k0 k1 x0 x1 x2 x3 x4 x5 y0 y1;refine (ZY k x.c _ _ _ (AggR.grow HK.out gz1.out) (AggR.grow HAc.out gz1.out) WK.out WC.out).mono ?_;rintro r v2 ⟨rfl,g2⟩;rw [F2.out];have gz2:=zH (gbT gz1.out g2);clear g2;have k0:=(D0.out.grow gz2.out).cell 0;have k1:=(D0.out.grow gz2.out).cell 1;have x0:=(D1.out.grow gz2.out).cell 0;have x1:=(D1.out.grow gz2.out).cell 1;have x2:=(D1.out.grow gz2.out).cell 2;have x3:=(D1.out.grow gz2.out).cell 3;have x4:=(D1.out.grow gz2.out).cell 4;have x5:=(D1.out.grow gz2.out).cell 5;have y0:=(D2.out.grow gz2.out).cell 0;have y1:=(D2.out.grow gz2.out).cell 1;simp at k0 k1 x0 x1 x2 x3 x4 x5 y0 y1;go_wp2_with fail;clear k0 k1 x0 x1 x2 x3 x4 x5 y0 y1;refine (YU k.p d e v2 (by omega)).mono ?_;rintro r wy ⟨rfl,hy⟩
 have gy:Hid (w1.grownBy wy none):=by first | (rw [← hy];exact gz2) | (subst hy;exact gz2) | exact zH (gbT gz2.out hy)
 clear hy;rw [show (elemB k.p d&&elemB k.p e)=true by rw [ED.out,EE.out];rfl];rw [show (((formB k x.a&&formB k x.b&&formB k x.c)&&(elemB k.p d&&elemB k.p e))=true) by rw [F0.out,F1.out,F2.out,ED.out,EE.out];rfl,if_pos rfl] at HFO;have E0:=zH (D0.out.grow gy.out);have E1:=zH (D1.out.grow gy.out);have E2:=zH (D2.out.grow gy.out);have E3:=zH (D3.out.grow gy.out);have GW:=zH (gbT G1.out gy.out);have KK:=zH (AggR.grow HK.out gy.out);have KA:=zH (AggR.grow HAa.out gy.out);have KB:=zH (AggR.grow HAb.out gy.out);have KC:=zH (AggR.grow HAc.out gy.out);have zy:Hid (w0.heap.size+4≤wy.heap.size):=by have:=z1.out;have:=gy.out.size;exact zH (by omega)
 clear D0 D1 D2 D3 HK HAa HAb HAc G1 z1 gy gz0 gz1 gz2;go_wp2_with fail;obtain ⟨lo,hlo⟩:∃lo,w0.heap.size+4=lo:=⟨_,rfl⟩;have hlz:lo≤wy.heap.size:=by have:=zy.out;omega
 have k0:=zH (E0.out.cell 0);have k1:=zH (E0.out.cell 1);have x0:=zH (E1.out.cell 0);have x1:=zH (E1.out.cell 1);have x2:=zH (E1.out.cell 2);have x3:=zH (E1.out.cell 3);have x4:=zH (E1.out.cell 4);have x5:=zH (E1.out.cell 5);have y0:=zH (E2.out.cell 0);have y1:=zH (E2.out.cell 1);simp only [List.getElem?_toArray,List.getElem?_cons_succ,List.getElem?_cons_zero] at k0 k1 x0 x1 x2 x3 x4 x5 y0 y1;obtain ⟨s1,hs1⟩:∃q,Zk k x.b d=q:=⟨_,rfl⟩;have HS1:=zH hs1;obtain ⟨s2,hs2⟩:∃q,ZD k x.c s1=q:=⟨_,rfl⟩;have HS2:=zH hs2;have WS1:Hid (awf s1):=by rw [← hs1];exact zH (WQ WB.out)
 have WS2:Hid (awf s2):=by rw [← hs2];exact zH (Xn WC.out)
 rw [hs1,hs2] at HFO;clear hs1 hs2
 refine Zg [.rd (.agg #[.int .i64 k.p,.slice A k.al.length c]),.rd (.pointer (some ⟨w0.heap.size+1,4,none⟩)),.rd (.agg #[.slice C1 x.c.sh.length c1,.slice C2 x.c.mc.length c2]),.rd (.agg #[.int .i64 k.p,.slice A k.al.length c]),.rd (.pointer (some ⟨w0.heap.size+1,2,none⟩)),.rd (.agg #[.slice B1 x.b.sh.length b1,.slice B2 x.b.mc.length b2]),.rd (.pointer (some ⟨w0.heap.size+1+1,0,none⟩)),.rd (.int .i64 d),.fl (autF lo s1),.fl (autF lo s2),.ch,.ch] (fun _=>False)
  [⟨[],fun _ w'=>wy.drew.grownBy w' none⟩,
   ⟨[7],fun l w'=>(∃g,l.getD 0 undef=.pointer (some ⟨g,0,none⟩)∧wy.heap.size≤g∧Blk w' g 80 #[.slice none 0 0,.slice none 0 0])∧wy.grownBy w' none⟩,
   ⟨[7],fun l w'=>(∃g,l.getD 0 undef=.pointer (some ⟨g,0,none⟩)∧wy.heap.size≤g∧autX lo g s2 w')∧wy.grownBy w' none⟩]
  (by kernel_rfl) (by kernel_rfl) (by kernel_rfl) 2 (by kernel_rfl) ?_ (gbR _ _) rfl ?_ ?_
 ·have hst:Zw [⟨[],fun _ w'=>wy.drew.grownBy w' none⟩,⟨[7],fun l w'=>(∃g,l.getD 0 undef=.pointer (some ⟨g,0,none⟩)∧wy.heap.size≤g∧Blk w' g 80 #[.slice none 0 0,.slice none 0 0])∧wy.grownBy w' none⟩,⟨[7],fun l w'=>(∃g,l.getD 0 undef=.pointer (some ⟨g,0,none⟩)∧wy.heap.size≤g∧autX lo g s2 w')∧wy.grownBy w' none⟩]:=by
   refine Zc (fun l w1 w2 h hg=>gbT h hg) ?_;refine Zc (Zo fun l w1 w2 ⟨⟨g,h1,h2,h3⟩,h4⟩ hg=>⟨⟨g,h1,h2,h3.grow hg⟩,gbT h4 hg⟩) ?_;exact Zc (Zo fun l w1 w2 ⟨⟨g,h1,h2,h3⟩,h4⟩ hg=>⟨⟨g,h1,h2,h3.grow hg⟩,gbT h4 hg⟩) ZX
  simp only [flOk,true_and,and_true];exact ⟨⟨ZR,hst⟩,⟨ZR,hst⟩⟩
 ·simp only [hopsK,hopK,Kd.next,and_true]
  refine ⟨?_, ?_, ?_, ?_, ?_, ?_, ?_, ?_, ?_, ?_, ?_, ?_⟩;rotate_left 8
  ·intro f w4 hG hd
   have hg4:=gbT (gbD (gbR wy none)) (chgF hG);have hz4:=hg4.size
   (try simp at hd)
   (first | simp [hd] | simp)
   clear hd;go_wp2_with fail;refine (Wi k x.b d _ _ w4 (AggR.grow KK.out hg4) (AggR.grow KB.out hg4) WK.out WB.out).mono ?_;rintro e w6 ⟨v6,rfl,o6,g6⟩;rw [HS1.out] at o6;have O6:=zH (autF.lo o6 (show lo≤w4.heap.size by omega));have G6:=zH g6;clear o6 g6;go_wp2_with fail;exact ⟨_,rfl,O6.out,G6.out⟩
  ·intro f w4 hG hd
   have hg4:=gbT (gbD (gbR wy none)) (chgF hG);have hz4:=hg4.size
   (try simp at hd)
   have h1:=hd.1;have h2:=hd.2.1
   have h3:autF lo s1 (f 46) w4:=by first | exact hd.2.2 | exact hd.2.2.1
   clear hd;obtain ⟨A7,n7,c7,B7,k7,d7,e7⟩:=autF.form h3;rw [e7] at h3;have HA7:=zH (autF.rd h3);clear h3
   try simp only [isV] at h1 h2
   simp [puts,dsts,Act.put,h1,h2,e7];clear h1 h2 e7;go_wp2_with fail;refine (XN k x.c s1 _ _ _ w4 (AggR.grow KK.out hg4) (AggR.grow KC.out hg4) HA7.out WK.out WC.out WS1.out).mono ?_;rintro e w6 ⟨v6,rfl,o6,g6⟩;rw [HS2.out] at o6;have O6:=zH (autF.lo o6 (show lo≤w4.heap.size by omega));have G6:=zH g6;clear o6 g6;go_wp2_with fail;exact ⟨_,rfl,O6.out,G6.out⟩
  ·intro f w4 hG hI hd
   have hg4:=gbT (gbD (gbR wy none)) (chgF hG);have hz4:=hg4.size;clear hd;simp [puts,dsts,Act.put];go_wp2_with fail;exact ⟨_,rfl,⟨⟨_,rfl,hz4,Blk.new _ _ _⟩,gbA hg4 _⟩,⟨Chg.of (gbA (gbR _ none) _) (by simp),by simp [keepsC,dstAt];exact ⟨fun h=>ZR _ _ _ h (gbA (gbR _ _) _),fun h=>ZR _ _ _ h (gbA (gbR _ _) _)⟩⟩⟩
  ·intro f w4 hG hI hd
   have hg4:=gbT (gbD (gbR wy none)) (chgF hG);have hz4:=hg4.size;obtain ⟨⟨g7,e7,hg7,R4⟩,hI⟩:=hI;have e7:f 7=.pointer (some ⟨g7,0,none⟩):=e7
   (try simp at hd)
   have h77:autF lo s2 (f 47) w4:=by first | exact hd | exact hd.1 | exact hd.2.1 | exact hd.2
   clear hd;obtain ⟨A9,n9,c9,B9,q9,d9,e77⟩:=h77.form;rw [e77] at h77;have f0:=R4.frozen 0;have f1:=R4.frozen 1;have b0:=R4.cell 0;have b1:=R4.cell 1;simp at b0 b1;have RS:=zH (Yf R4 (.slice A9 n9 c9) (.slice B9 q9 d9));have hch2:=(chgS w4 g7 0 (.slice A9 n9 c9)).trans (chgS _ g7 1 (.slice B9 q9 d9));have A1:=zH (autF.far h77 R4 hch2 (by decide));have GS:=zH (Zu hg4 hch2 hg7);clear R4 h77 hI;simp [puts,dsts,Act.put,e7,e77];go_wp2_with fail;exact ⟨rfl,.bool false,⟨g7,e7,hg7,_,_,_,_,_,_,A1.out,RS.out⟩,GS.out⟩
  all_goals
   intro f w4 hG hd;have hg4:=gbT (gbD (gbR wy none)) (chgF hG);have k0:=gbk hg4 (k0.out);have k1:=gbk hg4 (k1.out);have k2:=gbk hg4 (x0.out);have k3:=gbk hg4 (x1.out);have k4:=gbk hg4 (x2.out);have k5:=gbk hg4 (x3.out);have k6:=gbk hg4 (x4.out);have k7:=gbk hg4 (x5.out);have k8:=gbk hg4 (y0.out);have k9:=gbk hg4 (y1.out)
   (try simp at hd)
   (first | simp [hd] | simp)
   clear hd;go_wp2_with fail;exact ⟨rfl,rfl⟩
 intro f wr hI hd;simp only [puts,dsts,Act.put,zB,zC,zA,zD,zE];obtain ⟨⟨g7,e7,hg7,A9,n9,c9,B9,k9,d9,hAU,hBR⟩,hgr⟩:=hI;have e7:f 7=.pointer (some ⟨g7,0,none⟩):=e7;rw [e7];have GR:=zH hgr;have GB:=zH hBR;have AU:=zH (autF.rd hAU);have DR:=zH (E3.out.grow hgr);have k0':=zH (gbk hgr k0.out);have k1':=zH (gbk hgr k1.out);have x0':=zH (gbk hgr x0.out);have x1':=zH (gbk hgr x1.out);have y0':=zH (gbk hgr y0.out);have y1':=zH (gbk hgr y1.out);have g0:=zH (hBR.cell 0);have g1:=zH (hBR.cell 1);simp only [List.getElem?_toArray,List.getElem?_cons_succ,List.getElem?_cons_zero] at g0 g1;have hlr:lo≤wr.heap.size:=by have:=hgr.size;omega
 clear hd e7 hAU hBR hgr k0 k1 x0 x1 x2 x3 x4 x5 y0 y1 hlz;go_wp2_with fail;obtain ⟨gR,hgR'⟩:∃g,w0.heap.size+1+1+1=g:=⟨_,rfl⟩;have hgR:gR<lo:=by omega
 have hwR:w0.heap.size≤gR:=by omega
 rw [hgR'] at DR ⊢;obtain ⟨s3,hs3⟩:∃q,Zk k x.a e=q:=⟨_,rfl⟩;have HS3:=zH hs3;obtain ⟨s4,hs4⟩:∃q,ZD k s2 s3=q:=⟨_,rfl⟩;have HS4:=zH hs4;obtain ⟨mu,hmu⟩:∃q,(d*e) % k.p=q:=⟨_,rfl⟩;have HMU:=zH hmu;obtain ⟨s5,hs5⟩:∃q,ZH k s4 mu=q:=⟨_,rfl⟩;have HS5:=zH hs5;have WS3:Hid (awf s3):=by rw [← hs3];exact zH (WQ WA.out)
 have WS4:Hid (awf s4):=by rw [← hs4];exact zH (Xn WS2.out)
 rw [hs3,hs4,hmu,hs5] at HFO;clear hs3 hs4 hmu hs5
 refine Zg [.rd (.agg #[.int .i64 k.p,.slice A k.al.length c]),.rd (.agg #[.int .i64 k.p,.slice A k.al.length c]),.rd (.agg #[.slice A9 n9 c9,.slice B9 k9 d9]),.rd (.agg #[.int .i64 k.p,.slice A k.al.length c]),.rd (.pointer (some ⟨w0.heap.size+1,0,none⟩)),.rd (.agg #[.slice A1 x.a.sh.length a1,.slice A2 x.a.mc.length a2]),.rd (.pointer (some ⟨w0.heap.size+1+1,1,none⟩)),.rd (.int .i64 e),.fl (autF lo s3),.fl (autF lo s4),.rd (.pointer (some ⟨w0.heap.size,0,none⟩)),.rd (.int .i64 k.p),.rd (.pointer (some ⟨w0.heap.size+1+1,0,none⟩)),.rd (.int .i64 d),.rd (.pointer (some ⟨w0.heap.size+1+1,1,none⟩)),.rd (.int .i64 e),.fl (isV (.int .i64 mu)),.fl (autF lo s5),.ch] (fun _=>False)
  [⟨[],fun _ w'=>wr.drew.grownBy w' none⟩,
   ⟨[],fun _ w'=>autX lo gR s5 w'∧Chg (fun y=>y=gR) wr w'⟩]
  (by kernel_rfl) (by kernel_rfl) (by kernel_rfl) 1 (by kernel_rfl) ?_ (gbR _ _) rfl ?_ ?_
 ·have hst:Zw [⟨[],fun _ w'=>wr.drew.grownBy w' none⟩,⟨[],fun _ w'=>autX lo gR s5 w'∧Chg (fun y=>y=gR) wr w'⟩]:=by
   refine Zc (fun l w1 w2 h hg=>gbT h hg) ?_;exact Zc (Zo fun l w1 w2 ⟨h1,h2⟩ hg=>⟨h1.grow hg,h2.trans (Chg.of hg (by simp))⟩) ZX
  simp only [flOk,true_and,and_true];exact ⟨⟨ZR,hst⟩,⟨ZR,hst⟩,⟨Zb _,hst⟩,⟨ZR,hst⟩⟩
 ·simp only [hopsK,hopK,Kd.next,and_true]
  refine ⟨?_, ?_, ?_, ?_, ?_, ?_, ?_, ?_, ?_, ?_, ?_, ?_, ?_, ?_, ?_, ?_, ?_, ?_, ?_⟩;rotate_left 8
  ·intro f w4 hG hd
   have hg4:=gbT (gbD (gbR wr none)) (chgF hG);have hz4:=hg4.size
   (try simp at hd)
   (first | simp [hd] | simp)
   clear hd;go_wp2_with fail;refine (Wi k x.a e _ _ w4 (AggR.grow KK.out (gbT GR.out hg4)) (AggR.grow KA.out (gbT GR.out hg4)) WK.out WA.out).mono ?_;rintro e w6 ⟨v6,rfl,o6,g6⟩;rw [HS3.out] at o6;have O6:=zH (autF.lo o6 (show lo≤w4.heap.size by omega));have G6:=zH g6;clear o6 g6;go_wp2_with fail;exact ⟨_,rfl,O6.out,G6.out⟩
  ·intro f w4 hG hd
   have hg4:=gbT (gbD (gbR wr none)) (chgF hG);have hz4:=hg4.size
   (try simp at hd)
   have h1:=hd.1;have h2:=hd.2.1
   have h3:autF lo s3 (f 56) w4:=by first | exact hd.2.2 | exact hd.2.2.1
   clear hd;obtain ⟨A7,n7,c7,B7,k7,d7,e7⟩:=autF.form h3;rw [e7] at h3;have HA7:=zH (autF.rd h3);clear h3
   try simp only [isV] at h1 h2
   simp [puts,dsts,Act.put,h1,h2,e7];clear h1 h2 e7;go_wp2_with fail;refine (XN k s2 s3 _ _ _ w4 (AggR.grow KK.out (gbT GR.out hg4)) (AggR.grow AU.out hg4) HA7.out WK.out WS2.out WS3.out).mono ?_;rintro e w6 ⟨v6,rfl,o6,g6⟩;rw [HS4.out] at o6;have O6:=zH (autF.lo o6 (show lo≤w4.heap.size by omega));have G6:=zH g6;clear o6 g6;go_wp2_with fail;exact ⟨_,rfl,O6.out,G6.out⟩
  rotate_left 6
  ·intro f w4 hG hd
   have hg4:=gbT (gbD (gbR wr none)) (chgF hG);have hz4:=hg4.size
   (try simp at hd)
   have h1:=hd.1;have h2:=hd.2.1
   have h3:isV (.int .i64 e) (f 63) w4:=by first | exact hd.2.2 | exact hd.2.2.1
   clear hd
   try simp only [isV] at h1 h2 h3
   simp [puts,dsts,Act.put,h1,h2,h3];clear h1 h2 h3;go_wp2_with fail;refine (WE k.p d e w4 ED.out EE.out).mono ?_;rintro e w6 ⟨rfl,g6⟩;rw [HMU.out];have G6:=zH g6;clear g6;go_wp2_with fail;exact ⟨_,rfl,rfl,G6.out⟩
  ·intro f w4 hG hd
   have hg4:=gbT (gbD (gbR wr none)) (chgF hG);have hz4:=hg4.size
   (try simp at hd)
   have h1:=hd.1;have h2:autF lo s4 (f 57) w4:=hd.2.1
   have h3:isV (.int .i64 mu) (f 64) w4:=by first | exact hd.2.2 | exact hd.2.2.1
   clear hd;obtain ⟨A7,n7,c7,B7,k7,d7,e7⟩:=autF.form h2;rw [e7] at h2;have HA7:=zH (autF.rd h2);clear h2
   try simp only [isV] at h1 h3
   simp [puts,dsts,Act.put,h1,h3,e7];clear h1 h3 e7;go_wp2_with fail;refine (Vt k s4 mu _ _ w4 (AggR.grow KK.out (gbT GR.out hg4)) HA7.out WK.out WS4.out).mono ?_;rintro e w6 ⟨v6,rfl,o6,g6⟩;rw [HS5.out] at o6;have O6:=zH (autF.lo o6 (show lo≤w4.heap.size by omega));have G6:=zH g6;clear o6 g6;go_wp2_with fail;exact ⟨_,rfl,O6.out,G6.out⟩
  ·intro f w4 hG hI hd
   have hg4:=gbT (gbD (gbR wr none)) (chgF hG);have hz4:=hg4.size;have hI:wr.drew.grownBy w4 none:=hI
   (try simp at hd)
   have h77:autF lo s5 (f 65) w4:=by first | exact hd | exact hd.1 | exact hd.2.1 | exact hd.2
   obtain ⟨A9,n9,c9,B9,q9,d9,e77⟩:=h77.form;rw [e77] at h77;have R4:=DR.out.grow hg4;have f0:=R4.frozen 0;have f1:=R4.frozen 1;have b0:=R4.cell 0;have b1:=R4.cell 1;simp at b0 b1;have RS:=zH (Yf R4 (.slice A9 n9 c9) (.slice B9 q9 d9));have hch2:=(chgS w4 gR 0 (.slice A9 n9 c9)).trans (chgS _ gR 1 (.slice B9 q9 d9));have A1:=zH (h77.chg hch2 hgR);have CS:=zH ((Chg.of (S:=fun y=>y=gR) hg4 (by simp)).trans hch2);clear R4 h77 hd;simp [puts,dsts,Act.put,e77];go_wp2_with fail;exact ⟨rfl,.bool false,⟨_,_,_,_,_,_,A1.out,RS.out⟩,CS.out⟩
  all_goals
   intro f w4 hG hd;have hg4:=gbT (gbD (gbR wr none)) (chgF hG);have k0:=gbk hg4 (k0'.out);have k1:=gbk hg4 (k1'.out);have k2:=gbk hg4 (x0'.out);have k3:=gbk hg4 (x1'.out);have k4:=gbk hg4 (y0'.out);have k5:=gbk hg4 (y1'.out);have k6:=gbk hg4 (g0.out);have k7:=gbk hg4 (g1.out)
   (try simp at hd)
   (first | simp [hd] | simp)
   clear hd;go_wp2_with fail;exact ⟨rfl,rfl⟩
 intro f w9 hI hd;simp only [puts,dsts,Act.put,zB,zC,zA,zD,zE];obtain ⟨⟨A9,n9,c9,B9,k9,d9,hAU,hBR⟩,hCZ⟩:=hI;have GZ:=zH (Zu (gbT GW.out GR.out) hCZ hwR);clear hd;go_wp2_with fail;refine YJ Tryz.results106 (by rfl) stAuth (cs:=#[.slice A9 n9 c9,.slice B9 k9 d9]) hBR (by rfl) (by rfl) ?_;exact ⟨_,rfl,by rw [HFO.out];exact autF.lo hAU (by omega),GZ.out⟩
end Go.Proofs.YthaadgdeadbhkaaGreat
namespace Go.Proofs.YthaadgdeadbhkaaGreat
theorem roundTo_form (m:EM) (ts:List TrM) (es ss:List Int) (j:Nat):∃vj oj bj,Zl m ts es ss j=⟨m.k,m.c,vj,oj,m.rd,bj⟩∧vj.length=m.vs.length∧oj.length=m.op.length+2*j:=by
 obtain ⟨h1,h2,h3,h4,h5⟩:=YC m ts es ss j;refine ⟨(Zl m ts es ss j).vs,(Zl m ts es ss j).op,(Zl m ts es ss j).bad, ?_,h4,h5⟩;rw [← h1,← h2,← h3]
theorem opd_same {m:EM} (h:engOkB m=true) {ts:List TrM} {es:List Int} {j i y z:Nat} (hj:j<(mulsOf m).length) (hi:(mulsOf m).getD j 0=i) (hst:stAt m.c i=(4,(y:Int),(z:Int))) :
  getA (Zl m ts es (mulsOf m) j).vs y=getA m.vs y∧getA (Zl m ts es (mulsOf m) j).vs z=getA m.vs z:=by
 obtain ⟨_,hok,_,hvl,hrd,_⟩:=XD h
 have hmem:∀q,q<(mulsOf m).length→∃x:Nat,x<m.c.st.length∧(mulsOf m).getD q 0=x∧depAt m.c x=m.rd+1:=fun q hq=>by
  obtain ⟨x,h1,h2,_,h4⟩:=(VR hok (m.rd+1) _).1 (Wv hq);exact ⟨x,h1,h2,h4⟩
 obtain ⟨x,hx1,hx2,hx4⟩:=hmem j hj;obtain rfl:x=i:=by have:=hi.symm.trans hx2;omega
 have hd:=dep_mul hok hx1 (by rw [hst]);rw [hst] at hd;simp only [Int.toNat_natCast] at hd
 have key:∀u,depAt m.c u<m.rd+1→getA (Zl m ts es (mulsOf m) j).vs u=getA m.vs u:=fun u hu=>by
  have:=Ql (P:=fun _ _=>True) (e:=m) (ts:=ts) (es:=es) (ss:=mulsOf m) (fun q hq=>by
   obtain ⟨x',h1,h2,_⟩:=hmem q hq
   rw [h2,hvl];simpa using h1) (fun _ _=>trivial) j (by omega) u
  rcases this with ⟨⟨q,hq,hq2⟩,_⟩ | ⟨_,h2⟩
  ·obtain ⟨x',h1,h2,h3⟩:=hmem q (by omega)
   rw [h2] at hq2;have:x'=u:=by simpa using hq2
   subst this;omega
  ·exact h2
 exact ⟨key y (by omega),key z (by omega)⟩
theorem Ji {m:EM} {ts:List TrM} {es:List Int} (h:mayB m ts es=true):∀j,j≤(mulsOf m).length→∀a∈(Zl m ts es (mulsOf m) j).vs,okV m.k a=true
 | 0,_=>fun a ha=>by
  have ha:a∈m.vs:=ha;obtain ⟨i,hi,rfl⟩:=List.getElem_of_mem ha;have:=(XD (Vy h).1).2.2.2.2.2 i;unfold getA at this;rw [zF,List.getElem?_eq_getElem hi] at this;exact this
 | j+1,hj=>fun a ha=>by
  have ha:a∈(Zl m ts es (mulsOf m) j).vs.set ((mulsOf m).getD j 0).toNat (ZJ m.k (trAt ts j) _ _):=ha
  rcases List.mem_or_eq_of_mem_set ha with h1 | h1
  ·exact Ji h j (by omega) a h1
  ·have hf:=(Yc (XD (Vy h).1).1).1
   have ht:=(Vy h).2.2.2.2.2 j (by omega);unfold tripOk at ht;simp only [Bool.and_eq_true,Bool.not_eq_true'] at ht;obtain ⟨⟨⟨⟨h2,h3⟩,h4⟩,_⟩,_⟩:=ht;rw [h1];unfold okV;rw [Bool.or_eq_true]
   right
   unfold rD rE;exact (form_use h2 h3 h4 (Yg hf _) (Yg hf _)).2
def chainBT (ops:Array Oper) (q:List Kd) (ts:List (List Tmp)):Bool :=
 regB ops []&&decide (0<(chainL ops.size q).length) &&
 ((List.range (chainL ops.size q).length).all fun j=>j == 0||(waits ops ((chainL ops.size q)[j]?.getD 0)).contains ((chainL ops.size q)[j - 1]?.getD 0)) &&
 ((List.range ops.size).all fun k=>k == ((chainL ops.size q)[(chainL ops.size q).length - 1]?.getD 0)||aheadB ops ((chainL ops.size q)[(chainL ops.size q).length - 1]?.getD 0) k) &&
 ((List.range (chainL ops.size q).length).all fun j=>((ts[j]?).getD []).all fun t=>((chainL ops.size q).take j).any fun k=>dstAt ops k == some t)
structure ChainOkT (ops:Array Oper) (q:List Kd) (I:List Fact):Prop where
 reg:RegOk ops []
 pos:0<(chainL ops.size q).length
 link:∀j k i o,(chainL ops.size q)[j+1]?=some k→(chainL ops.size q)[j]?=some i→ops[k]?=some o→∃e∈bindE o,e.on=i
 last:∀l o,(chainL ops.size q)[(chainL ops.size q).length - 1]?=some l→ops[l]?=some o→∀k,k<ops.size→aheadB ops l k=true
 sup:∀j,j<(chainL ops.size q).length→∀t∈(fAt I j).ts,∃i k,i<j∧(chainL ops.size q)[i]?=some k∧dstAt ops k=some t
section
variable {P:Program} {ops:Array Oper} {q:List Kd} {I:List Fact} {W:World} {a0:Act} {S:Nat→Prop} {Q:Exit→Act→World→Prop}
theorem ChainOkT.of (h:chainBT ops q (I.map (·.ts))=true):ChainOkT ops q I:=by
 unfold chainBT at h;simp only [Bool.and_eq_true,decide_eq_true_eq] at h;obtain ⟨⟨⟨⟨h1,h2⟩,h3⟩,h4⟩,h5⟩:=h;refine ⟨RegOk.of (T:=[]) h1,h2,fun j k i o hk hi ho => ?_,fun l o hl ho k hk => ?_,fun j hj t ht => ?_⟩
 ·have:=List.all_eq_true.1 h3 (j+1) (by simpa using (List.getElem?_eq_some_iff.1 hk).1)
  rw [hk,Nat.add_sub_cancel,hi] at this;simp only [Option.getD_some,Bool.or_eq_true] at this
  rcases this with h | h
  ·simp at h
  ·exact Kr ho h
 ·have:=List.all_eq_true.1 h4 k (by simpa using hk)
  rw [hl] at this;simp only [Option.getD_some,Bool.or_eq_true] at this
  rcases this with h | h
  ·have:k=l:=by simpa using h
   subst this;unfold aheadB;simp
  ·exact h
 ·have hts:((I.map (·.ts))[j]?).getD []=(fAt I j).ts:=by
   unfold fAt;rw [List.getElem?_map]
   cases I[j]? <;> rfl
  have h6:=List.all_eq_true.1 h5 j (by simp;omega);rw [hts] at h6;have h7:=List.all_eq_true.1 h6 t ht;obtain ⟨k,hk,hd⟩:=List.any_eq_true.1 h7;obtain ⟨i,hi⟩:=List.mem_iff_getElem?.1 hk;rw [List.getElem?_take] at hi
  split at hi
  ·rename_i hij
   exact ⟨i,k,hij,hi,by simpa using hd⟩
  ·cases hi
theorem GInvC.moreT {listed:Array Bool} {a:Act} {w:World} {b:Nat} (K:ChainOkT ops q I) (h:GInvC ops q I W a0 S b listed a w) {i:Nat} (hi:i<ops.size) (hun:listed.getD i false=false):b<(chainL ops.size q).length:=by
 rcases Nat.lt_or_ge b (chainL ops.size q).length with h1 | h1
 ·exact h1
 ·exfalso
  have hp:=K.pos;have hl:(chainL ops.size q)[(chainL ops.size q).length - 1]?=some ((chainL ops.size q)[(chainL ops.size q).length - 1]'(by omega)):=List.getElem?_eq_getElem (by omega);have h2:=(h.chn _ _ hl).2 (by omega);have h3:=(YY hl).1;have h4:=K.last _ _ hl (Array.getElem?_eq_getElem h3) i hi;rw [Vg h.closed hun h4] at h2
  cases h2
theorem GInvC.stepT {listed:Array Bool} {a:Act} {w:World} {b b':Nat} (K:ChainOkT ops q I) (hO:flOk I q) (hsz:∀d∈dsts ops,d<a0.tmps.size) (h:GInvC ops q I W a0 S b listed a w) {i:Nat} {o:Oper} (hi:ops[i]?=some o)
  (hun:listed.getD i false=false) (hwait:∀e∈bindE o,listed.getD e.on false=true) {v:Value} {w':World}
  (hc:(kAt q i=.rd v∧w'=w∧b'=b)∨(∃R,kAt q i=.fl R∧w.grownBy w' none∧R v w'∧b'=b)∨(kAt q i=.ch∧cntC q i=b∧b'=b+1∧(fAt I (b+1)).at_ (upd (fun d=>a.tmps.getD d undef) o.dst v) w'∧(b+1<(chainL ops.size q).length→Chg S w w'∧keepsC ops (fun d=>a.tmps.getD d undef) w w' q 0))) :
  GInvC ops q I W a0 S b' (listed.setIfInBounds i true) (a.put o.dst v) w':=by
 have his:i<ops.size:=(Array.getElem?_eq_some_iff.1 hi).1;have hbl:=h.moreT K his hun;have hdlt:∀d,o.dst=some d→d<a.tmps.size:=fun d hd=>by rw [h.tz];exact hsz d (YM hi hd)
 have hil:i<listed.size:=by rw [h.sz];exact his
 have lset:∀k,k≠i→(listed.setIfInBounds i true).getD k false=listed.getD k false:=fun k hk=>by
  simp only [Array.getD_eq_getD_getElem?,Array.getElem?_setIfInBounds,Ne.symm hk,if_false]
 have lself:(listed.setIfInBounds i true).getD i false=true:=by simp [hil]
 have lold:∀k,listed.getD k false=true→(listed.setIfInBounds i true).getD k false=true:=fun k hk=>by
  by_cases e:k=i
  ·subst e;exact lself
  ·rw [lset k e];exact hk
 have hf:(fun d=>(a.put o.dst v).tmps.getD d undef)=upd (fun d=>a.tmps.getD d undef) o.dst v:=by
  funext t;exact Vd a o.dst v t hdlt
 have hne:∀k d,k≠i→dstAt ops k=some d→o.dst≠some d:=fun k d hk hd hd'=>by
  unfold dstAt at hd
  cases hko:ops[k]? with
  | none=>rw [hko] at hd;cases hd
  | some ok =>
   rw [hko] at hd;exact Ym K.reg.nodup (l:=ops.toList) (i:=k) (j:=i) (by simpa using hko) (by simpa using hi) hk hd hd'
 have hupd:∀k d,k≠i→dstAt ops k=some d→(a.put o.dst v).tmps.getD d undef=a.tmps.getD d undef:=fun k d hk hd=>by
  have h9:(a.put o.dst v).tmps.getD d undef=upd (fun d=>a.tmps.getD d undef) o.dst v d:=congrFun hf d;rw [h9,Xi _ _ _ _ (hne k d hk hd)]
 have hnc:b'=b∧kAt q i≠.ch∨b'=b+1∧kAt q i=.ch∧cntC q i=b:=by
  rcases hc with ⟨h1,_,h2⟩ | ⟨R,h1,_,_,h2⟩ | ⟨h1,h2,h3,_,_⟩
  ·exact .inl ⟨h2,by rw [h1];simp⟩
  ·exact .inl ⟨h2,by rw [h1];simp⟩
  ·exact .inr ⟨h3,h1,h2⟩
 refine ⟨by simp [h.sz], ?_, ?_,fun t ht => ?_,fun k ok hk hl e he => ?_,fun j k hj => ?_, ?_,fun hlt => ?_, ?_,fun k d u hq hl hd => ?_,fun hlt k d R hq hl hd => ?_⟩
 ·rw [← h.tz];cases o.dst <;> simp [Act.put]
 ·rw [← h.df];cases o.dst <;> rfl
 ·rw [← h.out t ht]
  cases hd:o.dst with
  | none=>rfl
  | some d =>
   have:d≠t:=fun e=>ht (e ▸ YM hi hd);simp [Act.put,this]
 ·by_cases hik:k=i
  ·subst hik
   obtain rfl:ok=o:=by rw [hi] at hk;injection hk with hk;exact hk.symm
   exact lold _ (hwait e he)
  ·rw [lset k hik] at hl
   exact lold _ (h.closed k ok hk hl e he)
 ·rcases hnc with ⟨rfl,h1⟩ | ⟨rfl,h1,h2⟩
  ·have hki:k≠i:=fun e=>h1 (by rw [← e];exact (YY hj).2.1)
   rw [lset k hki];exact h.chn j k hj
  ·by_cases hki:k=i
   ·subst hki
    have:=(YY hj).2.2;simp only [lself,true_iff];omega
   ·rw [lset k hki,h.chn j k hj]
    have h3:j≠b:=fun e=>hki (by
     have h4:=VC his h1;rw [h2,← e,hj] at h4
     injection h4)
    omega
 ·rcases hnc with ⟨rfl,_⟩ | ⟨rfl,_,_⟩
  ·exact h.le
  ·omega
 ·rcases hc with ⟨_,rfl,rfl⟩ | ⟨_,_,h2,_,rfl⟩ | ⟨_,_,rfl,_,h5⟩
  ·exact h.ch hlt
  ·exact (h.ch hlt).trans (Chg.of h2 fun g hg'=>by simp at hg')
  ·exact (h.ch hbl).trans (h5 hlt).1
 ·rw [hf]
  have same:kAt q i≠.ch→∀c,b=c→(fAt I c).ts.map (upd (fun d=>a.tmps.getD d undef) o.dst v)=(fAt I c).ts.map (fun d=>a.tmps.getD d undef):=fun h1 c hbc=>List.map_congr_left fun t ht=>by
   obtain ⟨i',k',hi',hk',hd'⟩:=K.sup c (hbc ▸ hbl) t ht;refine Xi _ _ _ _ (hne k' t (fun e=>h1 ?_) hd');rw [← e];exact (YY hk').2.1
  rcases hc with ⟨h1,rfl,rfl⟩ | ⟨R,h1,h2,_,rfl⟩ | ⟨_,_,rfl,h4,_⟩
  ·unfold Fact.at_
   rw [same (by rw [h1];simp) _ rfl];exact h.inv
  ·unfold Fact.at_
   rw [same (by rw [h1];simp) _ rfl];exact Xr (Kq hO h1).2 _ _ _ _ h.inv h2
  ·exact h4
 ·by_cases hki:k=i
  ·subst hki
   rcases hc with ⟨h1,_,_⟩ | ⟨R,h1,_,_,_⟩ | ⟨h1,_,_,_,_⟩
   ·rw [h1] at hq
    injection hq with hq;subst hq;have h9:(a.put o.dst v).tmps.getD d undef=upd (fun d=>a.tmps.getD d undef) o.dst v d:=congrFun hf d;unfold dstAt at hd;rw [hi] at hd;have hd':o.dst=some d:=hd;rw [h9,hd',Zn,if_pos rfl]
   ·rw [h1] at hq;cases hq
   ·rw [h1] at hq;cases hq
  ·rw [lset k hki] at hl
   rw [hupd k d hki hd];exact h.qv k d u hq hl hd
 ·by_cases hki:k=i
  ·subst hki
   rcases hc with ⟨h1,_,_⟩ | ⟨R',h1,_,h3,_⟩ | ⟨h1,_,_,_,_⟩
   ·rw [h1] at hq;cases hq
   ·rw [h1] at hq
    injection hq with hq;subst hq;have h9:(a.put o.dst v).tmps.getD d undef=upd (fun d=>a.tmps.getD d undef) o.dst v d:=congrFun hf d;unfold dstAt at hd;rw [hi] at hd;have hd':o.dst=some d:=hd;rw [h9,hd',Zn,if_pos rfl];exact h3
   ·rw [h1] at hq;cases hq
  ·rw [lset k hki] at hl
   rw [hupd k d hki hd];have h6:=h.fv hbl k d R hq hl hd
   rcases hc with ⟨_,rfl,_⟩ | ⟨R',_,h2,_,_⟩ | ⟨_,_,rfl,_,h5⟩
   ·exact h6
   ·exact (Kq hO hq).1 _ _ _ h6 h2
   ·exact Kp (h5 hlt).2 hq (by rw [Nat.zero_add];exact hd) h6
theorem regC_anyT (K:ChainOkT ops q I) (hO:flOk I q) (hsz:∀d∈dsts ops,d<a0.tmps.size) (hh:hopsC P ops q I W a0 S (chainL ops.size q).length ops.toList 0 0)
  (fin:∀(f:Tmp→Value) (w:World),(fAt I (chainL ops.size q).length).at_ f w→(∀k d v,kAt q k=.rd v→dstAt ops k=some d→f d=v)→Q .normal (puts a0 (dsts ops) f) w) :
  ∀(fuel:Nat) (b:Nat) (listed:Array Bool) (a:Act) (w:World),GInvC ops q I W a0 S b listed a w→listed.toList.countP (fun b=>!b)≤fuel→wpAny P .any ops Q fuel listed a w:=by
 have done:∀(b:Nat) (listed:Array Bool) (a:Act) (w:World),GInvC ops q I W a0 S b listed a w→Region.ready .any ops listed=[]→Q .normal a w:=fun b listed a w h hr=>by
  have hall:∀k,k<ops.size→listed.getD k false=true:=fun k hk=>YN K.reg h.sz hr (k+1) k (by omega) hk;have hp:=K.pos;have hl:(chainL ops.size q)[(chainL ops.size q).length - 1]?=some ((chainL ops.size q)[(chainL ops.size q).length - 1]'(by omega)):=List.getElem?_eq_getElem (by omega);have h2:=(h.chn _ _ hl).1 (hall _ (YY hl).1);have h3:=h.le;obtain rfl:b=(chainL ops.size q).length:=by omega
  rw [h.is];refine fin _ w h.inv fun k d v hq hd=>h.qv k d v hq (hall k ?_) hd;unfold dstAt at hd
  cases hk:ops[k]? with
  | none=>rw [hk] at hd;cases hd
  | some _=>exact (Array.getElem?_eq_some_iff.1 hk).1
 intro fuel
 induction fuel with
 | zero =>
  intro b listed a w h hc
  have hr:Region.ready .any ops listed=[]:=by
   cases hr:Region.ready .any ops listed with
   | nil=>rfl
   | cons i l =>
    exfalso
    have hi:=(mem_ready.1 (show i∈Region.ready .any ops listed by rw [hr];exact List.mem_cons_self ..)).1;have h0:listed.toList.countP (fun b=>!b)=0:=by omega
    rw [List.countP_eq_zero] at h0
    have hlt:i<listed.size:=by
     rcases Nat.lt_or_ge i listed.size with h1 | h1
     ·exact h1
     ·simp [Array.getElem?_eq_none h1] at hi
    have hv:listed[i]=false:=by simpa [hlt] using hi
    have:=h0 listed[i] (Array.getElem_mem_toList hlt);simp [hv] at this
  exact ⟨hr,done b listed a w h hr⟩
 | succ fuel ih =>
  intro b listed a w h hc;refine ⟨fun hr=>done b listed a w h hr,fun i hi => ?_⟩;obtain ⟨hl,o,ho,hall⟩:=mem_ready.1 hi
  have hwait:∀e∈bindE o,listed.getD e.on false=true:=fun e he=>by
   obtain ⟨h1,h2⟩:=bind_mem.1 he;exact hall e (by simpa using h1) h2
  have his:i<ops.size:=(Array.getElem?_eq_some_iff.1 ho).1
  have hun:listed.getD i false=false:=by
   have hlt:i<listed.size:=by rw [h.sz];exact his
   simp [hlt] at hl ⊢;exact hl
  have hbl:=h.moreT K his hun;have hop:=hopsC_at (k:=0) hh (i:=i) (by simpa using ho);rw [Nat.zero_add] at hop;have hdeps:depsC ops q (fun d=>a.tmps.getD d undef) w (bindE o):=depsC_of (fun e he v d hq hd=>h.qv e.on d v hq (hwait e he) hd) (fun e he R d hq hd=>h.fv hbl e.on d R hq (hwait e he) hd);unfold wpOp;simp only [ho]
  cases hq:kAt q i with
  | rd v =>
   unfold hopC at hop;rw [hq] at hop;unfold hopK at hop;have h1:=hop (fun d=>a.tmps.getD d undef) w (h.ch hbl) hdeps;rw [← h.is] at h1
   have next:∀a' w',(a'=a.put o.dst v∧w'=w)→wpAny P .any ops Q fuel (listed.setIfInBounds i true) a' w':=fun a' w' ⟨ha,hw⟩=>by
    subst ha;subst hw;exact ih b _ _ _ (h.stepT K hO hsz ho hun hwait (.inl ⟨hq,rfl,rfl⟩)) (Ww hc hl)
   unfold wpList at h1
   split
   ·rename_i hw
    rw [if_pos hw] at h1
    rcases h1 with h1 | h1
    ·exact .inl (We (Oper.wp_mono next h1))
    ·exact (XI h1.2).elim
   ·rename_i hw
    rw [if_neg hw] at h1;exact next _ _ h1
  | fl R =>
   unfold hopC at hop;rw [hq] at hop;unfold hopK at hop;have h1:=hop (fun d=>a.tmps.getD d undef) w (h.ch hbl) hdeps;rw [← h.is] at h1
   have next:∀a' w',(∃v,a'=a.put o.dst v∧R v w'∧w.grownBy w' none)→wpAny P .any ops Q fuel (listed.setIfInBounds i true) a' w':=fun a' w' ⟨v,ha,hv,hg⟩=>by
    subst ha;exact ih b _ _ _ (h.stepT K hO hsz ho hun hwait (.inr (.inl ⟨R,hq,hg,hv,rfl⟩))) (Ww hc hl)
   unfold wpList at h1
   split
   ·rename_i hw
    rw [if_pos hw] at h1
    rcases h1 with h1 | h1
    ·exact .inl (We (Oper.wp_mono next h1))
    ·exact (XI h1.2).elim
   ·rename_i hw
    rw [if_neg hw] at h1;exact next _ _ h1
  | ch =>
   have hci:cntC q i=b:=by
    have h4:=VC his hq
    rcases Nat.lt_trichotomy (cntC q i) b with h5 | h5 | h5
    ·have:=(h.chn _ _ h4).2 h5
     rw [hun] at this;cases this
    ·exact h5
    ·exfalso
     have h6:=(List.getElem?_eq_some_iff.1 h4).1;have h7:(chainL ops.size q)[cntC q i - 1]?=some ((chainL ops.size q)[cntC q i - 1]'(by omega)):=List.getElem?_eq_getElem (by omega);obtain ⟨e,he,h8⟩:=K.link (cntC q i - 1) i _ o (by rw [show cntC q i - 1+1=cntC q i by omega];exact h4) h7 ho;have h9:=hwait e he;rw [h8] at h9;have:=(h.chn _ _ h7).1 h9;omega
   unfold hopC at hop;rw [hq,hci] at hop;unfold hopK at hop;have h1:=hop (fun d=>a.tmps.getD d undef) w (h.ch hbl) h.inv hdeps;rw [← h.is] at h1
   have next:∀a' w',(∃v,a'=a.put o.dst v∧(fAt I (b+1)).at_ (upd (fun d=>a.tmps.getD d undef) o.dst v) w'∧(b+1<(chainL ops.size q).length→Chg S w w'∧keepsC ops (fun d=>a.tmps.getD d undef) w w' q 0))→wpAny P .any ops Q fuel (listed.setIfInBounds i true) a' w':=fun a' w' ⟨v,ha,hv,hg⟩=>by
    subst ha;exact ih (b+1) _ _ _ (h.stepT K hO hsz ho hun hwait (.inr (.inr ⟨hq,hci,rfl,hv,hg⟩))) (Ww hc hl)
   unfold wpList at h1
   split
   ·rename_i hw
    rw [if_pos hw] at h1
    rcases h1 with h1 | h1
    ·exact .inl (We (Oper.wp_mono next h1))
    ·exact (XI h1.2).elim
   ·rename_i hw
    rw [if_neg hw] at h1;exact next _ _ h1
theorem region_chainT {id:Nat} {w:World} (q:List Kd) (S:Nat→Prop) (I:List Fact) (hm:P.follows .mixedOrders=true) (hB:chainBT ops q (I.map (·.ts))=true) (hsz:(dsts ops).all (fun d=>d<a0.tmps.size)=true)
  (n:Nat) (hn:(chainL ops.size q).length=n) (hO:flOk I q)
  (h0:(fAt I 0).R [] w.drew) (h0':(fAt I 0).ts=[])
  (hh:hopsK P ops q I w.drew a0 S n ops.toList q 0)
  (fin:∀(f:Tmp→Value) (w':World),(fAt I n).at_ f w'→knowsC ops f q 0→Q .normal (puts a0 (dsts ops) f) w'):(Code.region id ops true).wp P Q a0 w:=by
 subst hn;refine wp_region_any hm (regC_anyT (W:=w.drew) (ChainOkT.of hB) hO (fun d hd=>by simpa using List.all_eq_true.1 hsz d hd) (Uz (k:=0) hh) (fun f w' h1 h2=>fin f w' h1 (Ks fun i d v h3 h4=>h2 i d v h3 (by simpa using h4))) ops.size 0 _ a0 _ ⟨by simp,rfl,rfl,fun _ _=>rfl, ?_, ?_,Nat.zero_le _,fun _=>Chg.refl _ _, ?_, ?_, ?_⟩ ?_)
 ·intro k o hk hl
  simp only [Array.getD_eq_getD_getElem?,Array.getElem?_replicate] at hl
  split at hl <;> simp at hl
 ·intro j k hj
  simp only [Array.getD_eq_getD_getElem?,Array.getElem?_replicate]
  constructor
  ·intro h;split at h <;> simp at h
  ·intro h;omega
 ·unfold Fact.at_;rw [h0'];exact h0
 ·intro k d v _ hl
  simp only [Array.getD_eq_getD_getElem?,Array.getElem?_replicate] at hl
  split at hl <;> simp at hl
 ·intro _ k d v _ hl
  simp only [Array.getD_eq_getD_getElem?,Array.getElem?_replicate] at hl
  split at hl <;> simp at hl
 ·have:=List.countP_le_length (p:=fun b:Bool=>!b) (l:=(Array.replicate ops.size false).toList)
  simpa using this
end
end Go.Proofs.YthaadgdeadbhkaaGreat
