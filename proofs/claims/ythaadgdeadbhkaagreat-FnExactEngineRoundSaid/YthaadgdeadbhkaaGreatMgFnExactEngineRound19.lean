/-
 TripleUse of the program.
-/
import Derived.Test.YthaadgdeadbhkaaGreatMgFnExactEngineRound18
open Go.RowKit
set_option linter.unusedVariables false
set_option linter.unusedSimpArgs false
namespace Go.Proofs.YthaadgdeadbhkaaGreat
attribute [local simp] depsC dstAt kAt bindE List.filter_cons Zy Zp Zq Zr Zz Yu puts dsts Act.put
theorem awf_use {k:KM} {x:TrM} {d e:Int} (h:twf x):awf (Zw k x d e):=by
 unfold Zw
 split
 ·exact awf_const (YY (YY h.2.2))
 ·exact awf_no
set_option maxHeartbeats 4000000 in
set_option maxRecDepth 100000 in
theorem Qg (k:KM) (x:TrM) (d e:Int) (kv xv:Value) (w0:World) (h:AggR w0 (ckeys k) kv) (hx:AggR w0 (ctriple x) xv) (wk:kwf k) (wx:twf x) :
  Calls Tryz.prog 72 #[kv,xv,.agg #[.int .i64 d,.int .i64 e]] w0 fun r w'=>∃v,r=.returned v∧autF w0.heap.size (Zw k x d e) v w'∧w0.grownBy w' none:=by
 obtain ⟨A,c,rfl,hc,hm,hI⟩:=ZK h;obtain ⟨A1,a1,A2,a2,B1,b1,B2,b2,C1,c1,C2,c2,rfl,ha,hb,hcc⟩:=YD hx;have hpw:=wk.1;obtain ⟨wp1,wp2⟩:=hpw;obtain ⟨w1,hw1⟩:∃y:World,(((w0.alloc (.cells #[.int .i64 k.p,.slice A k.al.length c] 34)).alloc (.cells #[.slice A1 x.a.sh.length a1,.slice A2 x.a.mc.length a2,.slice B1 x.b.sh.length b1,.slice B2 x.b.mc.length b2,.slice C1 x.c.sh.length c1,.slice C2 x.c.mc.length c2] 82)).alloc (.cells #[.int .i64 d,.int .i64 e] 104)).alloc (.cells #[.slice none 0 0,.slice none 0 0] 80)=y:=⟨_,rfl⟩;have G1:Hid (w0.grownBy w1 none):=by rw [← hw1];exact gbA (gbA (gbA (gbA (gbR _ _) _) _) _) _
 have z1:Hid (w1.heap.size=w0.heap.size+4):=by rw [← hw1];exact zH (by simp)
 have D0:Hid (Blk w1 w0.heap.size 34 #[.int .i64 k.p,.slice A k.al.length c]):=by rw [← hw1];exact (((Blk.new w0 _ _).grow (gbA (gbR _ _) _)).grow (gbA (gbR _ _) _)).grow (gbA (gbR _ _) _)
 have D1:Hid (Blk w1 (w0.heap.size+1) 82 #[.slice A1 x.a.sh.length a1,.slice A2 x.a.mc.length a2,.slice B1 x.b.sh.length b1,.slice B2 x.b.mc.length b2,.slice C1 x.c.sh.length c1,.slice C2 x.c.mc.length c2]):=by rw [← hw1];exact ((Blk.new' _ _ _ _ (by simp)).grow (gbA (gbR _ _) _)).grow (gbA (gbR _ _) _)
 have D2:Hid (Blk w1 (w0.heap.size+1+1) 104 #[.int .i64 d,.int .i64 e]):=by rw [← hw1];exact (Blk.new' _ _ _ _ (by simp)).grow (gbA (gbR _ _) _)
 have D3:Hid (Blk w1 (w0.heap.size+1+1+1) 80 #[.slice none 0 0,.slice none 0 0]):=by rw [← hw1];exact Blk.new' _ _ _ _ (by simp)
 have HK:=zH (AggR.grow h G1.out);have HAa:=zH (AggR.grow ha G1.out);have HAb:=zH (AggR.grow hb G1.out);have HAc:=zH (AggR.grow hcc G1.out);have WK:=zH wk;have WA:=zH wx.1;have WB:=zH wx.2.1;have WC:=zH wx.2.2;clear h hx ha hb hcc hI wk wx;have HFO:Hid (Zw k x d e=if (formB k x.a&&formB k x.b&&formB k x.c)&&(elemB k.p d&&elemB k.p e) then ZM k (Zk k (Zk k x.c (Ze k x.b d)) (Ze k x.a e)) ((d*e) % k.p) else noA):=rfl
 go_enter Tryz.func72,Tryz.ntmps72
 have k0:=D0.out.cell 0;have k1:=D0.out.cell 1;have x0:=D1.out.cell 0;have x1:=D1.out.cell 1;have x2:=D1.out.cell 2;have x3:=D1.out.cell 3;have x4:=D1.out.cell 4;have x5:=D1.out.cell 5;have y0:=D2.out.cell 0;have y1:=D2.out.cell 1;simp at k0 k1 x0 x1 x2 x3 x4 x5 y0 y1;go_wp2_with fail;clear k0 k1 x0 x1 x2 x3 x4 x5 y0 y1 hw1;obtain ⟨VL,hVL⟩:∃l:List Value,l=[.slice A1 x.a.sh.length a1,.slice A2 x.a.mc.length a2,.slice B1 x.b.sh.length b1,.slice B2 x.b.mc.length b2,.slice C1 x.c.sh.length c1,.slice C2 x.c.mc.length c2]:=⟨_,rfl⟩;have HL:=zH (Vh (w:=w1) [x.a,x.b,x.c] VL 3 (by rw [hVL];exact RdAll.append2 (Vb (vs:=[_,_]) HAa.out) (RdAll.append2 (Vb (vs:=[_,_]) HAb.out) (by simpa using Vb (vs:=[_,_]) HAc.out))) rfl (by omega));rw [hVL] at HL;have GL:=zH (gbA (gbR w1 none) (.cells #[.slice A1 x.a.sh.length a1,.slice A2 x.a.mc.length a2,.slice B1 x.b.sh.length b1,.slice B2 x.b.mc.length b2,.slice C1 x.c.sh.length c1,.slice C2 x.c.mc.length c2] 80))
 have HAL:Hid (([x.a,x.b,x.c].all (formA k)&&keysB k)=(formB k x.a&&formB k x.b&&formB k x.c)):=by
  unfold Hid formB;simp only [List.all_cons,List.all_nil,Bool.and_true]
  cases keysB k <;> simp [Bool.and_assoc]
 refine (Yz k [x.a,x.b,x.c] _ _ 3 3 _ (AggR.grow HK.out GL.out) HL.out WK.out (by intro y hy;simp at hy;rcases hy with rfl | rfl | rfl <;> first | exact WA.out | exact WB.out | exact WC.out) (by omega)).mono ?_;rintro r wz ⟨rfl,g2⟩;have gz:=gbT GL.out g2;clear g2 HL GL hVL;rw [HAL.out]
 cases hfabc:(formB k x.a&&formB k x.b&&formB k x.c)
 ·rw [hfabc] at HFO
  have RS:=zH (Zh (D3.out.grow gz) [.slice none 0 0,.slice none 0 0] rfl);have CH:=zH (Zc (w0.heap.size+1+1+1) [.slice none 0 0,.slice none 0 0] 0 wz);have r0:=(D3.out.grow gz).cell 0;have r1:=(D3.out.grow gz).cell 1;have s0:=(D3.out.grow gz).frozen 0;have s1:=(D3.out.grow gz).frozen 1;simp at r0 r1;have GG:=zH (gbT G1.out gz);clear gz;go_wp2_with fail;refine Yo Tryz.results72 (by rfl) stAuth (cs:=#[.slice none 0 0,.slice none 0 0]) RS.out (by rfl) (by rfl) ?_;exact ⟨_,rfl,by rw [HFO.out];exact ⟨_,Xe _,by simp⟩,Zv GG.out CH.out (by omega)⟩
 obtain ⟨hfab,hfc⟩:=Bool.and_eq_true_iff.1 hfabc;obtain ⟨hfa,hfb⟩:=Bool.and_eq_true_iff.1 hfab;rw [hfabc] at HFO;clear hfabc hfab HAL;have k0:=(D0.out.grow gz).cell 0;have y0:=(D2.out.grow gz).cell 0;have y1:=(D2.out.grow gz).cell 1;simp at k0 y0 y1;have Gz:=zH gz;clear gz;go_wp2_with fail;clear k0 y0 y1;refine (Zl k.p _ 2 2 [d,e] _ (by omega) (by omega) (ints2 wz 3 d e) (by omega)).mono ?_;rintro r wy ⟨rfl,hy⟩;have gy:wz.grownBy wy none:=by rw [← hy];exact gbA (gbR _ _) _
 clear hy;have gy:=gbT Gz.out gy;clear Gz;rw [Wy]
 cases hde:(elemB k.p d&&elemB k.p e)
 ·rw [hde] at HFO
  have RS:=zH (Zh (D3.out.grow gy) [.slice none 0 0,.slice none 0 0] rfl);have CH:=zH (Zc (w0.heap.size+1+1+1) [.slice none 0 0,.slice none 0 0] 0 wy);have r0:=(D3.out.grow gy).cell 0;have r1:=(D3.out.grow gy).cell 1;have s0:=(D3.out.grow gy).frozen 0;have s1:=(D3.out.grow gy).frozen 1;simp at r0 r1;have GG:=zH (gbT G1.out gy);clear gy;go_wp2_with fail;refine Yo Tryz.results72 (by rfl) stAuth (cs:=#[.slice none 0 0,.slice none 0 0]) RS.out (by rfl) (by rfl) ?_;exact ⟨_,rfl,by rw [HFO.out];exact ⟨_,Xe _,by simp⟩,Zv GG.out CH.out (by omega)⟩
 rw [hde,Bool.and_self,if_pos rfl] at HFO;obtain ⟨hd1,he1⟩:=Bool.and_eq_true_iff.1 hde;clear hde;have E0:=zH (D0.out.grow gy);have E1:=zH (D1.out.grow gy);have E2:=zH (D2.out.grow gy);have E3:=zH (D3.out.grow gy);have GW:=zH (gbT G1.out gy);have KK:=zH (AggR.grow HK.out gy);have KA:=zH (AggR.grow HAa.out gy);have KB:=zH (AggR.grow HAb.out gy);have KC:=zH (AggR.grow HAc.out gy);have zy:Hid (w0.heap.size+4≤wy.heap.size):=by have:=z1.out;have:=gy.size;exact zH (by omega)
 clear D0 D1 D2 D3 HK HAa HAb HAc G1 z1 gy;go_wp2_with fail;obtain ⟨lo,hlo⟩:∃lo,w0.heap.size+4=lo:=⟨_,rfl⟩;have hlz:lo≤wy.heap.size:=by have:=zy.out;omega
 refine Zg [.rd (.agg #[.int .i64 k.p,.slice A k.al.length c]),.rd (.pointer (some ⟨w0.heap.size+1,4,none⟩)),.rd (.agg #[.slice C1 x.c.sh.length c1,.slice C2 x.c.mc.length c2]),.rd (.agg #[.int .i64 k.p,.slice A k.al.length c]),.rd (.pointer (some ⟨w0.heap.size+1,2,none⟩)),.rd (.agg #[.slice B1 x.b.sh.length b1,.slice B2 x.b.mc.length b2]),.rd (.pointer (some ⟨w0.heap.size+1+1,0,none⟩)),.rd (.int .i64 d),.fl (autF lo (Ze k x.b d)),.fl (autF lo (Zk k x.c (Ze k x.b d))),.fl (isBox wy.heap.size 80 #[.slice none 0 0,.slice none 0 0]),.ch] (fun _=>False)
  [⟨[],fun _ w'=>wy.drew.grownBy w' none⟩,
   ⟨[7],fun l w'=>authBox wy.heap.size lo (Zk k x.c (Ze k x.b d)) (l.getD 0 undef) w'∧wy.drew.grownBy w' none⟩]
  (by kernel_rfl) (by kernel_rfl) (by kernel_rfl) 1 (by kernel_rfl) ?_ (gbR _ _) rfl ?_ ?_
 ·have hst:Zn [⟨[],fun _ w'=>wy.drew.grownBy w' none⟩,
   ⟨[7],fun l w'=>authBox wy.heap.size lo (Zk k x.c (Ze k x.b d)) (l.getD 0 undef) w'∧wy.drew.grownBy w' none⟩]:=by
   intro F hF;simp only [List.mem_cons,List.not_mem_nil,or_false] at hF
   rcases hF with rfl | rfl
   ·exact fun l w1 w2 h hg=>gbT h hg
   ·rintro l w1 w2 ⟨⟨g9,A9,n9,c9,B9,k9,d9,h5,h6,h1,h2⟩,h3⟩ hg
    exact ⟨⟨g9,A9,n9,c9,B9,k9,d9,h5,h6,h1.grow hg,h2.grow hg⟩,gbT h3 hg⟩
  simp only [flOk,true_and,and_true];exact ⟨⟨ZH,hst⟩,⟨ZH,hst⟩,Vm _ _ _,hst⟩
 ·simp only [hopsK,hopK,Kd.next,and_true]
  refine ⟨?_, ?_, ?_, ?_, ?_, ?_, ?_, ?_, ?_, ?_, ?_, ?_⟩;rotate_left 8
  ·intro f w4 hG hd
   have hg4:=gbT (gbD (gbR wy none)) (chgF hG);have hz4:=hg4.size
   (try simp at hd)
   (first | simp [hd] | simp)
   clear hd;go_wp2_with fail;refine (XF k x.b d _ _ w4 (AggR.grow KK.out hg4) (AggR.grow KB.out hg4) WK.out WB.out).mono ?_;rintro e w6 ⟨v6,rfl,o6,g6⟩;have O6:=zH (autF.lo o6 (show lo≤w4.heap.size by omega));have G6:=zH g6;clear o6 g6;go_wp2_with fail;exact ⟨_,rfl,O6.out,G6.out⟩
  ·intro f w4 hG hd
   have hg4:=gbT (gbD (gbR wy none)) (chgF hG);have hz4:=hg4.size
   (try simp at hd)
   obtain ⟨e1,e2,hA⟩:=hd;obtain ⟨A7,n7,c7,B7,k7,d7,e7⟩:=autF.form hA;rw [e7] at hA;have HA7:=zH (autF.rd hA);clear hA;simp [puts,dsts,Act.put,e1,e2,e7];clear e1 e2 e7;go_wp2_with fail;refine (Xq k x.c (Ze k x.b d) _ _ _ w4 (AggR.grow KK.out hg4) (AggR.grow KC.out hg4) HA7.out WK.out WC.out (XT WB.out)).mono ?_;rintro e w6 ⟨v6,rfl,o6,g6⟩;have O6:=zH (autF.lo o6 (show lo≤w4.heap.size by omega));have G6:=zH g6;clear o6 g6;go_wp2_with fail;exact ⟨_,rfl,O6.out,G6.out⟩
  ·intro f w4 hG hd
   have hg4:=gbT (gbD (gbR wy none)) (chgF hG);have hz4:=hg4.size;clear hd;simp [puts,dsts,Act.put];go_wp2_with fail;exact ⟨_,rfl,⟨_,rfl,hz4,Blk.new w4 _ _⟩,gbA (gbR _ _) _⟩
  ·intro f w4 hG hI hd
   have hI:wy.drew.grownBy w4 none:=hI
   (try simp at hd)
   obtain ⟨⟨g9,e8,hg9,R4⟩,h1,_⟩:=hd;obtain ⟨A9,n9,c9,B9,k9,d9,e9⟩:=autF.form h1;rw [e9] at h1;have f0:=R4.frozen 0;have f1:=R4.frozen 1;have b0:=R4.cell 0;have b1:=R4.cell 1;simp at b0 b1;have RS:=zH (Yq R4 (.slice A9 n9 c9) (.slice B9 k9 d9));have CH:=Zc g9 [.slice A9 n9 c9,.slice B9 k9 d9] 0 w4;have AS:=zH (autF.far h1 R4 CH);have GS:=zH (Zv hI CH (by simpa using hg9));clear R4 h1 hI CH;simp [puts,dsts,Act.put,e9,e8];go_wp2_with fail;exact ⟨rfl,.bool false,⟨g9,A9,n9,c9,B9,k9,d9,e8,hg9,AS.out,RS.out⟩,GS.out⟩
  all_goals
   intro f w4 hG hd;have hg4:=gbT (gbD (gbR wy none)) (chgF hG);have k0:=(E0.out.grow hg4).cell 0;have k1:=(E0.out.grow hg4).cell 1;have x0:=(E1.out.grow hg4).cell 0;have x1:=(E1.out.grow hg4).cell 1;have x2:=(E1.out.grow hg4).cell 2;have x3:=(E1.out.grow hg4).cell 3;have x4:=(E1.out.grow hg4).cell 4;have x5:=(E1.out.grow hg4).cell 5;have y0:=(E2.out.grow hg4).cell 0;have y1:=(E2.out.grow hg4).cell 1;simp at k0 k1 x0 x1 x2 x3 x4 x5 y0 y1
   (try simp at hd)
   (first | simp [hd] | simp)
   clear hd;go_wp2_with fail;exact ⟨rfl,rfl⟩
 intro f wr hI hd;obtain ⟨⟨g9,A9,n9,c9,B9,k9,d9,e8_,hg9_,hAU,hBR⟩,hCZ⟩:=hI;have hCZ:=gbT (gbD (gbR wy none)) hCZ;have e9_:f 7=.pointer (some ⟨g9,0,none⟩):=e8_;clear e8_;simp only [puts,dsts,Act.put,e9_,zB,zC,zA,zD,zE];clear hd e9_;have GR:=zH hCZ;have GB:=zH hBR;have AU:=zH (autF.rd hAU);have hg9:=zH hg9_;clear hCZ hBR hAU hg9_ hlz lo hlo;obtain ⟨lo,hlo⟩:∃lo,wr.heap.size=lo:=⟨_,rfl⟩;have hlz:lo≤wr.heap.size:=by omega
 obtain ⟨gR,hgR'⟩:∃g,g9=g:=⟨_,rfl⟩;rw [hgR'] at GB hg9 ⊢;clear hgR' g9
 have hgR:gR<lo:=by
  rw [← hlo];have h:=GB.out;unfold Blk at h;exact (Array.getElem?_eq_some_iff.1 h).1
 go_wp2_with fail
 refine Zg [.rd (.agg #[.int .i64 k.p,.slice A k.al.length c]),.rd (.agg #[.slice A9 n9 c9,.slice B9 k9 d9]),.rd (.agg #[.int .i64 k.p,.slice A k.al.length c]),.rd (.pointer (some ⟨w0.heap.size+1,0,none⟩)),.rd (.agg #[.slice A1 x.a.sh.length a1,.slice A2 x.a.mc.length a2]),.rd (.pointer (some ⟨w0.heap.size+1+1,1,none⟩)),.rd (.int .i64 e),.fl (autF lo (Ze k x.a e)),.fl (autF lo (Zk k (Zk k x.c (Ze k x.b d)) (Ze k x.a e))),.ch] (fun _=>False)
  [⟨[],fun _ w'=>wr.drew.grownBy w' none⟩,
   ⟨[],fun _ w'=>(∃A9 n9 c9 B9 k9 d9,autF lo (Zk k (Zk k x.c (Ze k x.b d)) (Ze k x.a e)) (.agg #[.slice A9 n9 c9,.slice B9 k9 d9]) w'∧Blk w' gR 80 #[.slice A9 n9 c9,.slice B9 k9 d9])∧Chg (fun y=>y=gR) wr.drew w'⟩]
  (by kernel_rfl) (by kernel_rfl) (by kernel_rfl) 1 (by kernel_rfl) ?_ (gbR _ _) rfl ?_ ?_
 ·have hst:Zn [⟨[],fun _ w'=>wr.drew.grownBy w' none⟩,
   ⟨[],fun _ w'=>(∃A9 n9 c9 B9 k9 d9,autF lo (Zk k (Zk k x.c (Ze k x.b d)) (Ze k x.a e)) (.agg #[.slice A9 n9 c9,.slice B9 k9 d9]) w'∧Blk w' gR 80 #[.slice A9 n9 c9,.slice B9 k9 d9])∧Chg (fun y=>y=gR) wr.drew w'⟩]:=by
   intro F hF;simp only [List.mem_cons,List.not_mem_nil,or_false] at hF
   rcases hF with rfl | rfl
   ·exact fun l w1 w2 h hg=>gbT h hg
   ·rintro l w1 w2 ⟨⟨A9,n9,c9,B9,k9,d9,h1,h2⟩,h3⟩ hg
    exact ⟨⟨A9,n9,c9,B9,k9,d9,h1.grow hg,h2.grow hg⟩,h3.trans (Chg.of hg (by simp))⟩
  simp only [flOk,true_and,and_true];exact ⟨⟨ZH,hst⟩,ZH,hst⟩
 ·simp only [hopsK,hopK,Kd.next,and_true]
  refine ⟨?_, ?_, ?_, ?_, ?_, ?_, ?_, ?_, ?_, ?_⟩;rotate_left 7
  ·intro f w4 hG hd
   have hg4:=gbT (gbD (gbR wr none)) (chgF hG);have hz4:=hg4.size
   (try simp at hd)
   (first | simp [hd] | simp)
   clear hd;go_wp2_with fail;refine (XF k x.a e _ _ w4 (AggR.grow KK.out (gbT GR.out hg4)) (AggR.grow KA.out (gbT GR.out hg4)) WK.out WA.out).mono ?_;rintro e w6 ⟨v6,rfl,o6,g6⟩;have O6:=zH (autF.lo o6 (show lo≤w4.heap.size by omega));have G6:=zH g6;clear o6 g6;go_wp2_with fail;exact ⟨_,rfl,O6.out,G6.out⟩
  ·intro f w4 hG hd
   have hg4:=gbT (gbD (gbR wr none)) (chgF hG);have hz4:=hg4.size
   (try simp at hd)
   obtain ⟨e1,e2,hA⟩:=hd;obtain ⟨A7,n7,c7,B7,k7,d7,e7⟩:=autF.form hA;rw [e7] at hA;have HA7:=zH (autF.rd hA);clear hA;simp [puts,dsts,Act.put,e1,e2,e7];clear e1 e2 e7;go_wp2_with fail;refine (Xq k (Zk k x.c (Ze k x.b d)) (Ze k x.a e) _ _ _ w4 (AggR.grow KK.out (gbT GR.out hg4)) (AggR.grow AU.out hg4) HA7.out WK.out (YY WC.out) (XT WA.out)).mono ?_;rintro e w6 ⟨v6,rfl,o6,g6⟩;have O6:=zH (autF.lo o6 (show lo≤w4.heap.size by omega));have G6:=zH g6;clear o6 g6;go_wp2_with fail;exact ⟨_,rfl,O6.out,G6.out⟩
  ·intro f w4 hG hI hd
   have hI:wr.drew.grownBy w4 none:=hI;have hg4:=gbT (gbD (gbR wr none)) hI
   (try simp at hd)
   have h1:=hd.1;obtain ⟨A9,n9,c9,B9,k9,d9,e9⟩:=autF.form h1;rw [e9] at h1;have R4:=(GB.out).grow hg4;have f0:=R4.frozen 0;have f1:=R4.frozen 1;have b0:=R4.cell 0;have b1:=R4.cell 1;simp at b0 b1;have RS:=zH (Yq R4 (.slice A9 n9 c9) (.slice B9 k9 d9));have CH:=Zc gR [.slice A9 n9 c9,.slice B9 k9 d9] 0 w4;have AS:=zH (h1.chg CH hgR);have CS:=zH ((Chg.of (S:=fun y=>y=gR) hI (by simp)).trans CH);clear R4 h1 hI CH hd;simp [puts,dsts,Act.put,e9];go_wp2_with fail;exact ⟨rfl,.bool false,⟨A9,n9,c9,B9,k9,d9,AS.out,RS.out⟩,CS.out⟩
  all_goals
   intro f w4 hG hd;have hg4:=gbT (gbD (gbR wr none)) (chgF hG);have kg:=gbT GR.out hg4;have k0:=(E0.out.grow kg).cell 0;have k1:=(E0.out.grow kg).cell 1;have x0:=(E1.out.grow kg).cell 0;have x1:=(E1.out.grow kg).cell 1;have y0:=(E2.out.grow kg).cell 0;have y1:=(E2.out.grow kg).cell 1;have g0:=(GB.out.grow hg4).cell 0;have g1:=(GB.out.grow hg4).cell 1;simp at k0 k1 x0 x1 y0 y1 g0 g1;clear kg
   (try simp at hd)
   (first | simp [hd] | simp)
   clear hd;go_wp2_with fail;exact ⟨rfl,rfl⟩
 intro f wt hI hd;obtain ⟨⟨A9,n9,c9,B9,k9,d9,hAU,hBR⟩,hCZ⟩:=hI;have hCZ:=chgDr hCZ;simp only [puts,dsts,Act.put,zB,zC,zA,zD,zE];clear hd;have GR':=zH (Zv GR.out hCZ hg9.out);have GB':=zH hBR;have AU':=zH (autF.rd hAU);clear hCZ hBR hAU hlz hlo GR GB AU hgR;have GR:=GR';have GB:=GB';have AU:=AU';clear GR' GB' AU';go_wp2_with fail;obtain ⟨lo,hlo⟩:∃lo,w0.heap.size+4=lo:=⟨_,rfl⟩;have hlz:lo≤wt.heap.size:=by have:=zy.out;have:=GR.out.size;omega
 obtain ⟨gS,hgS⟩:∃g,gR=g:=⟨_,rfl⟩;rw [hgS] at GB hg9 ⊢;clear hgS;obtain ⟨gR,hgR'⟩:∃g,w0.heap.size+1+1+1=g:=⟨_,rfl⟩;have hgR:gR<lo:=by omega
 have hwR:w0.heap.size≤gR:=by omega
 rw [hgR'] at E3 ⊢;have DR:=zH (E3.out.grow GR.out)
 refine Zg [.rd (.agg #[.int .i64 k.p,.slice A k.al.length c]),.rd (.agg #[.slice A9 n9 c9,.slice B9 k9 d9]),.rd (.pointer (some ⟨w0.heap.size,0,none⟩)),.rd (.int .i64 k.p),.rd (.pointer (some ⟨w0.heap.size+1+1,0,none⟩)),.rd (.int .i64 d),.rd (.pointer (some ⟨w0.heap.size+1+1,1,none⟩)),.rd (.int .i64 e),.fl (isV (.int .i64 ((d*e) % k.p))),.fl (autF lo (ZM k (Zk k (Zk k x.c (Ze k x.b d)) (Ze k x.a e)) ((d*e) % k.p))),.ch] (fun _=>False)
  [⟨[],fun _ w'=>wt.drew.grownBy w' none⟩,
   ⟨[],fun _ w'=>(∃A9 n9 c9 B9 k9 d9,autF lo (ZM k (Zk k (Zk k x.c (Ze k x.b d)) (Ze k x.a e)) ((d*e) % k.p)) (.agg #[.slice A9 n9 c9,.slice B9 k9 d9]) w'∧Blk w' gR 80 #[.slice A9 n9 c9,.slice B9 k9 d9])∧Chg (fun y=>y=gR) wt.drew w'⟩]
  (by kernel_rfl) (by kernel_rfl) (by kernel_rfl) 1 (by kernel_rfl) ?_ (gbR _ _) rfl ?_ ?_
 ·have hst:Zn [⟨[],fun _ w'=>wt.drew.grownBy w' none⟩,
   ⟨[],fun _ w'=>(∃A9 n9 c9 B9 k9 d9,autF lo (ZM k (Zk k (Zk k x.c (Ze k x.b d)) (Ze k x.a e)) ((d*e) % k.p)) (.agg #[.slice A9 n9 c9,.slice B9 k9 d9]) w'∧Blk w' gR 80 #[.slice A9 n9 c9,.slice B9 k9 d9])∧Chg (fun y=>y=gR) wt.drew w'⟩]:=by
   intro F hF;simp only [List.mem_cons,List.not_mem_nil,or_false] at hF
   rcases hF with rfl | rfl
   ·exact fun l w1 w2 h hg=>gbT h hg
   ·rintro l w1 w2 ⟨⟨A9,n9,c9,B9,k9,d9,h1,h2⟩,h3⟩ hg
    exact ⟨⟨A9,n9,c9,B9,k9,d9,h1.grow hg,h2.grow hg⟩,h3.trans (Chg.of hg (by simp))⟩
  simp only [flOk,true_and,and_true];exact ⟨⟨Zb _,hst⟩,ZH,hst⟩
 ·simp only [hopsK,hopK,Kd.next,and_true]
  refine ⟨?_, ?_, ?_, ?_, ?_, ?_, ?_, ?_, ?_, ?_, ?_⟩;rotate_left 8
  ·intro f w4 hG hd
   have hg4:=gbT (gbD (gbR wt none)) (chgF hG);have hz4:=hg4.size
   (try simp at hd)
   (first | simp [hd] | simp)
   clear hd;go_wp2_with fail;refine (VO k.p d e w4 hd1 he1).mono ?_;rintro e w6 ⟨rfl,g6⟩;have G6:=zH g6;clear g6;go_wp2_with fail;exact ⟨_,rfl,rfl,G6.out⟩
  ·intro f w4 hG hd
   have hg4:=gbT (gbD (gbR wt none)) (chgF hG);have hz4:=hg4.size
   (try simp at hd)
   obtain ⟨e1,e2,e3⟩:=hd;have e3:f 57=.int .i64 ((d*e) % k.p):=e3;simp [puts,dsts,Act.put,e1,e2,e3];clear e1 e2 e3;go_wp2_with fail;refine (Qc k (Zk k (Zk k x.c (Ze k x.b d)) (Ze k x.a e)) ((d*e) % k.p) _ _ w4 (AggR.grow KK.out (gbT GR.out hg4)) (AggR.grow AU.out hg4) WK.out (YY (YY WC.out))).mono ?_;rintro e w6 ⟨v6,rfl,o6,g6⟩;have O6:=zH (autF.lo o6 (show lo≤w4.heap.size by omega));have G6:=zH g6;clear o6 g6;go_wp2_with fail;exact ⟨_,rfl,O6.out,G6.out⟩
  ·intro f w4 hG hI hd
   have hI:wt.drew.grownBy w4 none:=hI;have hg4:=gbT (gbD (gbR wt none)) hI
   (try simp at hd)
   have h1:=hd.1;obtain ⟨A9,n9,c9,B9,k9,d9,e9⟩:=autF.form h1;rw [e9] at h1;have R4:=(DR.out).grow hg4;have f0:=R4.frozen 0;have f1:=R4.frozen 1;have b0:=R4.cell 0;have b1:=R4.cell 1;simp at b0 b1;have RS:=zH (Yq R4 (.slice A9 n9 c9) (.slice B9 k9 d9));have CH:=Zc gR [.slice A9 n9 c9,.slice B9 k9 d9] 0 w4;have AS:=zH (h1.chg CH hgR);have CS:=zH ((Chg.of (S:=fun y=>y=gR) hI (by simp)).trans CH);clear R4 h1 hI CH hd;simp [puts,dsts,Act.put,e9];go_wp2_with fail;exact ⟨rfl,.bool false,⟨A9,n9,c9,B9,k9,d9,AS.out,RS.out⟩,CS.out⟩
  all_goals
   intro f w4 hG hd;have hg4:=gbT (gbD (gbR wt none)) (chgF hG);have kg:=gbT GR.out hg4;have k0:=(E0.out.grow kg).cell 0;have k1:=(E0.out.grow kg).cell 1;have x0:=(E1.out.grow kg).cell 0;have x1:=(E1.out.grow kg).cell 1;have y0:=(E2.out.grow kg).cell 0;have y1:=(E2.out.grow kg).cell 1;have g0:=(GB.out.grow hg4).cell 0;have g1:=(GB.out.grow hg4).cell 1;simp at k0 k1 x0 x1 y0 y1 g0 g1;clear kg
   (try simp at hd)
   (first | simp [hd] | simp)
   clear hd;go_wp2_with fail;exact ⟨rfl,rfl⟩
 intro f w9 hI hd;obtain ⟨⟨A9,n9,c9,B9,k9,d9,hAU,hBR⟩,hCZ⟩:=hI;have hCZ:=chgDr hCZ;simp only [puts,dsts,Act.put,zB,zC,zA,zD,zE];clear hd;have GZ:=zH (Zv (gbT GW.out GR.out) hCZ hwR);go_wp2_with fail;refine Yo Tryz.results72 (by rfl) stAuth (cs:=#[.slice A9 n9 c9,.slice B9 k9 d9]) hBR (by rfl) (by rfl) ?_;exact ⟨_,rfl,by rw [HFO.out];exact autF.lo hAU (by omega),GZ.out⟩
end Go.Proofs.YthaadgdeadbhkaaGreat
