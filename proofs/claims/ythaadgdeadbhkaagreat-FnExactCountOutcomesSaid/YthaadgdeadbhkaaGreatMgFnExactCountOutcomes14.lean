/-
 MacCheck: reference and program;the sum of keys.
-/
import Derived.Test.YthaadgdeadbhkaaGreatMgFnExactCountOutcomes13
open Go.RowKit
set_option linter.unusedVariables false
set_option linter.unusedSimpArgs false
namespace Go.Proofs.YthaadgdeadbhkaaGreat
def Ye (k:KM) (o:Int) (a:AuM):Bool:=keysB k&&elemB k.p o&&((a.mc.length:Int) == (k.al.length:Int))&&elemsB k.p a.mc&&(fsum k.p a.mc == (o*fsum k.p k.al) % k.p)
theorem Yc {k:KM} (h:keysB k=true):fieldB k.p=true∧elemsB k.p k.al=true∧1≤k.al.length∧k.al.length≤5:=by
 unfold keysB at h;rw [Bool.and_eq_true] at h;have:=Uw h.2;exact ⟨(ZI h.1).1,h.1,by omega,by omega⟩
theorem QA (k:KM) (kv:Value) (w:World) (h:AggR w (ckeys k) kv) (hk:keysB k=true) :
  Calls Tryz.prog 144 #[kv] w fun e w'=>e=.returned (.int .i64 (fsum k.p k.al))∧w.grownBy w' none:=by
 obtain ⟨A,c,rfl,hc,hm,hI⟩:=ZG h;obtain ⟨_,he,h1,h5⟩:=Yc hk;have HI:=zH (hI.grow (gbA (gbR w none) (.cells #[.int .i64 k.p,.slice A k.al.length c] 34)));have HE:=zH he;clear h hI he hk
 go_enter Tryz.func144,Tryz.ntmps144
 go_wp2_with fail;refine (XV k.p A k.al.length c k.al _ HE.out HI.out (by omega)).mono ?_;rintro e w1 ⟨rfl,rfl⟩;go_wp2_with fail;go_ret;exact ⟨rfl,gbA (gbR _ _) _⟩
set_option maxHeartbeats 2000000 in
set_option maxRecDepth 100000 in
theorem YL (k:KM) (o:Int) (a:AuM) (kv av:Value) (w:World) (h:AggR w (ckeys k) kv) (ha:AggR w (cauth a) av) (wk:kwf k) (wa:awf a) :
  Calls Tryz.prog 104 #[kv,.int .i64 o,av] w fun e w'=>e=.returned (.bool (Ye k o a))∧w.grownBy w' none:=by
 obtain ⟨A,c,rfl,hc,hm,hI⟩:=ZG h;obtain ⟨B,d,C,fc,rfl,_,_,_,_,hS,hM⟩:=ZO ha;obtain ⟨wa1,wa2⟩:=wa;have hp:=wk.1;have hl:=wk.2;obtain ⟨wp1,wp2⟩:=hp;have G0:=zH (gbA (gbA (gbR w none) (.cells #[.int .i64 k.p,.slice A k.al.length c] 34)) (.cells #[.slice B a.sh.length d,.slice C a.mc.length fc] 80));have HK:=zH (AggR.grow h G0.out);have IK:=zH (hI.grow G0.out);have IM:=zH (hM.grow G0.out);have B0:=zH ((Blk.new w 34 #[.int .i64 k.p,.slice A k.al.length c]).grow (gbA (gbR _ _) (.cells #[.slice B a.sh.length d,.slice C a.mc.length fc] 80)));have B1:=zH (Blk.new' (w.alloc (.cells #[.int .i64 k.p,.slice A k.al.length c] 34)) 80 #[.slice B a.sh.length d,.slice C a.mc.length fc] (w.heap.size+1) (by simp));have WK:=zH wk;have HF:Hid (Ye k o a=(keysB k&&elemB k.p o&&((a.mc.length:Int) == (k.al.length:Int))&&elemsB k.p a.mc&&(fsum k.p a.mc == (o*fsum k.p k.al) % k.p))):=rfl;clear h ha hI hS hM wk
 go_enter Tryz.func104,Tryz.ntmps104
 go_wp2_with fail;refine (YP k _ _ HK.out WK.out).mono ?_;rintro e w1 ⟨rfl,g1⟩;have K1:=zH (AggR.grow HK.out g1);have I1:=zH (IK.out.grow g1);have M1:=zH (IM.out.grow g1);have c0:=(B0.out.grow g1).cell 0;have c1:=(B0.out.grow g1).cell 1;have d1:=(B1.out.grow g1).cell 1;simp at c0 c1 d1;have G1:=zH (gbT G0.out g1);clear g1 HK IK IM B0 B1 WK
 cases b0:keysB k
 ·rw [b0] at HF
  go_wp2_with fail;go_ret;exact ⟨retB (by rw [HF.out];rfl),G1.out⟩
 have b0h:=zH b0;go_wp2_with fail;refine (ZN k.p o _ (by omega)).mono ?_;rintro e w2 ⟨rfl,rfl⟩
 cases b1:elemB k.p o
 ·rw [b0,b1] at HF
  go_wp2_with fail;go_ret;exact ⟨retB (by rw [HF.out];rfl),G1.out⟩
 have b1h:=zH b1
 cases b2:((a.mc.length:Int) == (k.al.length:Int))
 ·rw [b0,b1,b2] at HF
  have n2:((a.mc.length:Int) != (k.al.length:Int))=true:=by rw [bne,b2];rfl
  clear b2 b0 b1;go_wp2_with fail;go_ret;exact ⟨retB (by rw [HF.out];rfl),G1.out⟩
 have n2:((a.mc.length:Int) != (k.al.length:Int))=false:=by rw [bne,b2];rfl
 rw [b0,b1,b2] at HF;clear b2 b0 b1;go_wp2_with fail;refine (ZQ k.p C a.mc.length fc a.mc _ (by omega) M1.out (by omega)).mono ?_;rintro e w2 ⟨rfl,rfl⟩
 cases b3:elemsB k.p a.mc
 ·rw [b3] at HF
  go_wp2_with fail;go_ret;exact ⟨retB (by rw [HF.out];rfl),G1.out⟩
 rw [b3] at HF;obtain ⟨kf,ke,kl1,kl5⟩:=Yc b0h.out;have KE:=zH ke;have ME:=zH b3;have FE:=zH (Yl kf k.al);obtain ⟨S1,hS1⟩:∃s,fsum k.p a.mc=s:=⟨_,rfl⟩;obtain ⟨S2,hS2⟩:∃s,fsum k.p k.al=s:=⟨_,rfl⟩;obtain ⟨S3,hS3⟩:∃s,(o*S2) % k.p=s:=⟨_,rfl⟩;have HS1:=zH hS1;have HS2:=zH hS2;have HS3:=zH hS3;rw [hS1,hS2,hS3] at HF;rw [hS2] at FE;have C0:=zH c0;have C1:=zH c1;have D1:=zH d1;clear ke kf b3 hS1 hS2 hS3 n2;go_wp2_with fail;clear c0 c1 d1;refine Zv [isV (.pointer (some ⟨w.heap.size,0,none⟩)),isV (.int .i64 k.p),isV (.pointer (some ⟨w.heap.size+1,1,none⟩)),isV (.slice C a.mc.length fc),isV (.int .i64 S1),isV (.pointer (some ⟨w.heap.size,0,none⟩)),isV (.int .i64 k.p),isV (.int .i64 o),isV (.agg #[.int .i64 k.p,.slice A k.al.length c]),isV (.int .i64 S2),isV (.int .i64 S3),isV (.bool (S1 == S3)),isV (.bool (S1 == S3))] (by kernel_rfl) (by kernel_rfl) (by kernel_rfl) (by simp [ZM,Zb]) ?_ ?_
 ·simp only [hops,and_true]
  refine ⟨?_, ?_, ?_, ?_, ?_, ?_, ?_, ?_, ?_, ?_, ?_, ?_, ?_⟩
  all_goals
   intro f w1 hG hd;have k0:=gbk (gbT (gbD (gbR _ _)) hG) (C0.out);have k1:=gbk (gbT (gbD (gbR _ _)) hG) (C1.out);have k2:=gbk (gbT (gbD (gbR _ _)) hG) (D1.out);simp [deps,tAt,isV] at hd
   first | simp [puts,dsts,Act.put,hd] | simp [puts,dsts,Act.put]
   clear hd
   go_wp2_with (first | (go_at_call 100;refine (WE k.p o S2 _ b1h.out FE.out).mono ?_;rintro e w6 ⟨rfl,hw⟩;rw [HS3.out]) | (go_at_call 143;refine (XV k.p C a.mc.length fc a.mc _ ME.out (M1.out.grow (gbT (gbD (gbR _ none)) hG)) (by omega)).mono ?_;rintro e w6 ⟨rfl,rfl⟩;rw [HS1.out]) | (go_at_call 144;refine (QA k _ _ (AggR.grow K1.out (gbT (gbD (gbR _ none)) hG)) b0h.out).mono ?_;rintro e w6 ⟨rfl,hw⟩;rw [HS2.out]))
  all_goals exact ⟨_,rfl,by first | with_reducible exact gbR _ _ | exact hw,by first | (simp [tAt,isV];done) | (simp [tAt,isV];assumption)⟩
 intro f w5 hG hd;simp [knows,tAt,isV] at hd;simp only [puts,dsts,Act.put,hd,zB,zC,zA,zD,zE];clear hd;have g5:=gbT (gbD (gbR _ none)) hG;clear hG;have GZ:=zH (gbT G1.out g5);go_wp2_with fail;go_ret;exact ⟨retB (by rw [HF.out];rfl),GZ.out⟩
set_option maxHeartbeats 2000000 in
set_option maxRecDepth 100000 in
theorem Yz (k:KM) (o:Int) (a:AuM) (kv av:Value) (w:World) (h:AggR w (ckeys k) kv) (ha:AggR w (cauth a) av) (wk:kwf k) (wa:awf a) :
  Calls Tryz.prog 70 #[kv,.int .i64 o,av] w fun e w'=>e=.returned (.bool (Ye k o a))∧w.grownBy w' none:=by
 obtain ⟨A,c,rfl,hc,hm,hI⟩:=ZG h;obtain ⟨B,d,C,fc,rfl,_,_,_,_,hS,hM⟩:=ZO ha;obtain ⟨wa1,wa2⟩:=wa;have hp:=wk.1;have hl:=wk.2;obtain ⟨wp1,wp2⟩:=hp;have G0:=zH (gbA (gbA (gbR w none) (.cells #[.int .i64 k.p,.slice A k.al.length c] 34)) (.cells #[.slice B a.sh.length d,.slice C a.mc.length fc] 80));have HK:=zH (AggR.grow h G0.out);have IK:=zH (hI.grow G0.out);have IM:=zH (hM.grow G0.out);have B0:=zH ((Blk.new w 34 #[.int .i64 k.p,.slice A k.al.length c]).grow (gbA (gbR _ _) (.cells #[.slice B a.sh.length d,.slice C a.mc.length fc] 80)));have B1:=zH (Blk.new' (w.alloc (.cells #[.int .i64 k.p,.slice A k.al.length c] 34)) 80 #[.slice B a.sh.length d,.slice C a.mc.length fc] (w.heap.size+1) (by simp));have WK:=zH wk;have HF:Hid (Ye k o a=(keysB k&&elemB k.p o&&((a.mc.length:Int) == (k.al.length:Int))&&elemsB k.p a.mc&&(fsum k.p a.mc == (o*fsum k.p k.al) % k.p))):=rfl;clear h ha hI hS hM wk
 go_enter Tryz.func70,Tryz.ntmps70
 go_wp2_with fail;refine (YQ k _ _ HK.out WK.out).mono ?_;rintro e w1 ⟨rfl,g1⟩;have K1:=zH (AggR.grow HK.out g1);have I1:=zH (IK.out.grow g1);have M1:=zH (IM.out.grow g1);have c0:=(B0.out.grow g1).cell 0;have c1:=(B0.out.grow g1).cell 1;have d1:=(B1.out.grow g1).cell 1;simp at c0 c1 d1;have G1:=zH (gbT G0.out g1);clear g1 HK IK IM B0 B1 WK
 cases b0:keysB k
 ·rw [b0] at HF
  go_wp2_with fail;go_ret;exact ⟨retB (by rw [HF.out];rfl),G1.out⟩
 have b0h:=zH b0;go_wp2_with fail;refine (YF k.p o _ (by omega) (by omega)).mono ?_;rintro e w2 ⟨rfl,rfl⟩
 cases b1:elemB k.p o
 ·rw [b0,b1] at HF
  go_wp2_with fail;go_ret;exact ⟨retB (by rw [HF.out];rfl),G1.out⟩
 have b1h:=zH b1
 cases b2:((a.mc.length:Int) == (k.al.length:Int))
 ·rw [b0,b1,b2] at HF
  have n2:((a.mc.length:Int) != (k.al.length:Int))=true:=by rw [bne,b2];rfl
  clear b2 b0 b1;go_wp2_with fail;go_ret;exact ⟨retB (by rw [HF.out];rfl),G1.out⟩
 have n2:((a.mc.length:Int) != (k.al.length:Int))=false:=by rw [bne,b2];rfl
 rw [b0,b1,b2] at HF;clear b2 b0 b1;go_wp2_with fail;refine (Zp k.p C a.mc.length fc a.mc _ (by omega) (by omega) M1.out (by omega)).mono ?_;rintro e w2 ⟨rfl,rfl⟩
 cases b3:elemsB k.p a.mc
 ·rw [b3] at HF
  go_wp2_with fail;go_ret;exact ⟨retB (by rw [HF.out];rfl),G1.out⟩
 rw [b3] at HF;obtain ⟨kf,ke,kl1,kl5⟩:=Yc b0h.out;have KE:=zH ke;have ME:=zH b3;have FE:=zH (Yl kf k.al);obtain ⟨S1,hS1⟩:∃s,fsum k.p a.mc=s:=⟨_,rfl⟩;obtain ⟨S2,hS2⟩:∃s,fsum k.p k.al=s:=⟨_,rfl⟩;obtain ⟨S3,hS3⟩:∃s,(o*S2) % k.p=s:=⟨_,rfl⟩;have HS1:=zH hS1;have HS2:=zH hS2;have HS3:=zH hS3;rw [hS1,hS2,hS3] at HF;rw [hS2] at FE;have C0:=zH c0;have C1:=zH c1;have D1:=zH d1;clear ke kf b3 hS1 hS2 hS3 n2;go_wp2_with fail;clear c0 c1 d1;refine Zv [isV (.pointer (some ⟨w.heap.size,0,none⟩)),isV (.int .i64 k.p),isV (.pointer (some ⟨w.heap.size+1,1,none⟩)),isV (.slice C a.mc.length fc),isV (.int .i64 S1),isV (.pointer (some ⟨w.heap.size,0,none⟩)),isV (.int .i64 k.p),isV (.int .i64 o),isV (.pointer (some ⟨w.heap.size,0,none⟩)),isV (.int .i64 k.p),isV (.pointer (some ⟨w.heap.size,1,none⟩)),isV (.slice A k.al.length c),isV (.int .i64 S2),isV (.int .i64 S3),isV (.bool (S1 == S3)),isV (.bool (S1 == S3))] (by kernel_rfl) (by kernel_rfl) (by kernel_rfl) (by simp [ZM,Zb]) ?_ ?_
 ·simp only [hops,and_true]
  refine ⟨?_, ?_, ?_, ?_, ?_, ?_, ?_, ?_, ?_, ?_, ?_, ?_, ?_, ?_, ?_, ?_⟩
  all_goals
   intro f w1 hG hd;have k0:=gbk (gbT (gbD (gbR _ _)) hG) (C0.out);have k1:=gbk (gbT (gbD (gbR _ _)) hG) (C1.out);have k2:=gbk (gbT (gbD (gbR _ _)) hG) (D1.out);simp [deps,tAt,isV] at hd
   first | simp [puts,dsts,Act.put,hd] | simp [puts,dsts,Act.put]
   clear hd
   go_wp2_with (first | (go_at_call 121;refine (WG k.p o S2 _ b1h.out FE.out).mono ?_;rintro e w6 ⟨rfl,hw⟩;rw [HS3.out]) | (go_at_call 135;first | (with_reducible refine (WH k.p C a.mc.length fc a.mc _ ME.out (M1.out.grow (gbT (gbD (gbR _ none)) hG)) (by omega)).mono ?_;rintro e w6 ⟨rfl,rfl⟩;rw [HS1.out]) | (refine (WH k.p A k.al.length c k.al _ KE.out (I1.out.grow (gbT (gbD (gbR _ none)) hG)) (by omega)).mono ?_;rintro e w6 ⟨rfl,rfl⟩;rw [HS2.out])))
  all_goals exact ⟨_,rfl,by first | with_reducible exact gbR _ _ | exact hw,by first | (simp [tAt,isV];done) | (simp [tAt,isV];assumption)⟩
 intro f w5 hG hd;simp [knows,tAt,isV] at hd;simp only [puts,dsts,Act.put,hd,zB,zC,zA,zD,zE];clear hd;have g5:=gbT (gbD (gbR _ none)) hG;clear hG;have GZ:=zH (gbT G1.out g5);go_wp2_with fail;go_ret;exact ⟨retB (by rw [HF.out];rfl),GZ.out⟩
attribute [local simp] depsC dstAt kAt bindE List.filter_cons Zz Zq Zr Zs ZA ZW puts dsts Act.put
set_option maxHeartbeats 2000000 in
theorem VX (P s a n:Nat) (x:Int) (w:World) (hx:elemB (P:Int) x=true) (hs:s<4294967296) (ha:a≤900010) (hn1:1≤n) (hn:n≤5) :
  Calls Tryz.prog 155 #[.int .i64 P,.int .i64 x,.int .i64 n,.agg #[.int .i64 s,.int .i64 a]] w fun e w'=>∃v,e=.returned (.tuple #[v,.agg #[.int .i64 s,.int .i64 ((a+(n - 1):Nat):Int)]])∧w'.ownsRow w.heap.size 3 1 v n ((shareL P x (tapeL s a P (n - 1))).map (Value.int .i64))∧w.grownBy w' none:=by
 obtain ⟨hf,p2,p101,x0,x1⟩:=ZT hx;have HX:=zH hx;have HF:=zH hf;obtain ⟨m,rfl⟩:∃m,n=m+1:=⟨n - 1,by omega⟩;rw [Nat.add_sub_cancel];clear hx hf
 go_enter Tryz.func155,Tryz.ntmps155
 have B1:=zH (Blk.new' (w.alloc (.cells #[.int .i64 s,.int .i64 a] 41)) 41 #[.int .i64 0,.int .i64 0] (w.heap.size+1) (by simp));have G1:=zH (gbA (gbA (gbR w none) (.cells #[.int .i64 s,.int .i64 a] 41)) (.cells #[.int .i64 0,.int .i64 0] 41));have em:((m+1:Nat):Int) - 1=(m:Int):=by omega
 go_wp2_with fail;refine (QH s a P m _ hs (by omega) (by omega) (by omega) (by omega)).mono ?_;rintro e w2 ⟨v,rfl,o2,g2⟩;obtain ⟨A,c,rfl,_,_⟩:=ZB o2;have z1:=g2.size;simp at z1;have HL:=zH (ZE (base':=w.heap.size+2) o2 (by simp));have HE:=zH (VK (s:=s) (a:=a) (k:=m) HF.out (by omega));have B2:=zH (B1.out.grow g2);have G2:=zH (gbT G1.out g2);obtain ⟨L,hL⟩:∃L,tapeL s a P m=L:=⟨_,rfl⟩;rw [hL] at HL HE;have HLL:=zH hL;have w0:0≤fsum (P:Int) L:=(UG p2 L).1;have E:=zH (Yl HF.out L);clear g2 o2 B1 hL;go_wp2_with fail;obtain ⟨w3,hw3⟩:∃x:World,w2.alloc (.cells #[.int .i64 s,.int .i64 ((a:Int)+(m:Int))] 41)=x:=⟨_,rfl⟩;have B3:Hid (Blk w3 (w.heap.size+1) 41 #[.int .i64 0,.int .i64 0]):=by rw [← hw3];exact B2.out.grow (gbA (gbR _ _) _)
 have N3:Hid (Blk w3 w2.heap.size 41 #[.int .i64 s,.int .i64 ((a:Int)+(m:Int))]):=by rw [← hw3];exact Blk.new _ _ _
 have G3:Hid (w.grownBy w3 none):=by rw [← hw3];exact gbA G2.out _
 have HL3:Hid (w3.ownsRow (w.heap.size+2) 3 1 (.slice A m c) m (L.map (Value.int .i64))):=by rw [← hw3];exact Zj HL.out (gbA (gbR _ _) _)
 have HLB:=zH (fun g hg=>(HL.out.lt g hg).2);have hloW:w.heap.size+2≤w3.heap.size:=by rw [← hw3];simp;omega
 rw [hw3];clear hw3 HL B2 G2;obtain ⟨lo,hlo⟩:∃lo,w.heap.size+2=lo:=⟨_,rfl⟩;obtain ⟨gR,hgR⟩:∃g,w.heap.size+1=g:=⟨_,rfl⟩;rw [hlo] at HL3 hloW;rw [hgR] at B3 ⊢
 refine Zg [.rd (.slice A m c),.rd (.int .i64 (P:Int)),.rd (.int .i64 x),.rd (.int .i64 (P:Int)),.rd (.slice A m c),.ch,.ch,.ch,.ch,.rd (.agg #[.int .i64 s,.int .i64 ((a:Int)+(m:Int))]),.ch,.ch] (fun y=>(Value.slice A m c).ownBlock=some y)
  [⟨[],fun _ w'=>w3.drew.grownBy w' none⟩,
   ⟨[25],fun l w'=>l.getD 0 undef=.int .i64 (fsum (P:Int) L)∧w3.drew.grownBy w' none⟩,
   ⟨[26],fun l w'=>l.getD 0 undef=.int .i64 ((x - fsum (P:Int) L) % (P:Int))∧w3.drew.grownBy w' none⟩,
   ⟨[27],fun l w'=>lit1X w3.heap.size 3 #[.int .i64 ((x - fsum (P:Int) L) % (P:Int))] (l.getD 0 undef) w'∧w3.drew.grownBy w' none⟩,
   ⟨[28],fun l w'=>w'.ownsRow lo 3 1 (l.getD 0 undef) (m+1) ((shareL (P:Int) x L).map (Value.int .i64))∧Chg (fun y=>(Value.slice A m c).ownBlock=some y) w3.drew w'⟩,
   ⟨[8],fun l w'=>w'.ownsRow lo 3 1 (l.getD 0 undef) (m+1) ((shareL (P:Int) x L).map (Value.int .i64))∧Chg (fun y=>(Value.slice A m c).ownBlock=some y) w3.drew w'⟩,
   ⟨[8],fun l w'=>w'.ownsRow lo 3 1 (l.getD 0 undef) (m+1) ((shareL (P:Int) x L).map (Value.int .i64))∧Chg (fun y=>(Value.slice A m c).ownBlock=some y∨y=gR) w3.drew w'∧Blk w' gR 41 #[.int .i64 s,.int .i64 ((a:Int)+(m:Int))]⟩]
  (by kernel_rfl) (by kernel_rfl) (by kernel_rfl) 6 (by kernel_rfl) (by simp only [flOk,and_true]) (gbR _ _) rfl ?_ ?_
 ·simp only [hopsK,hopK,Kd.next,and_true]
  refine ⟨?_, ?_, ?_, ?_, ?_, ?_, ?_, ?_, ?_, ?_, ?_, ?_⟩
  ·(intro f w4 hG hd;(try simp at hd);(first | simp [hd] | simp);go_wp2_with fail;exact ⟨rfl,rfl⟩)
  ·(intro f w4 hG hd;(try simp at hd);(first | simp [hd] | simp);go_wp2_with fail;exact ⟨rfl,rfl⟩)
  ·(intro f w4 hG hd;(try simp at hd);(first | simp [hd] | simp);go_wp2_with fail;exact ⟨rfl,rfl⟩)
  ·(intro f w4 hG hd;(try simp at hd);(first | simp [hd] | simp);go_wp2_with fail;exact ⟨rfl,rfl⟩)
  ·(intro f w4 hG hd;(try simp at hd);(first | simp [hd] | simp);go_wp2_with fail;exact ⟨rfl,rfl⟩)
  ·intro f w4 hG hI hd
   have hI:w3.drew.grownBy w4 none:=hI
   (try simp at hd)
   (first | simp [hd] | simp)
   go_wp2_with fail;refine (WH (P:Int) A m c L _ HE.out (Ints.grow (show Ints w3 A m L from Rd.ofOwn HL3.out) (gbT (gbD (gbR _ none)) hI)) (by omega)).mono ?_;rintro e w5 ⟨rfl,rfl⟩;go_wp2_with fail;exact ⟨_,rfl,⟨rfl,hI⟩,⟨Chg.refl _ _,by simp [keepsC]⟩⟩
  ·intro f w4 hG hI hd
   obtain ⟨hv,hI⟩:=hI;have hv:f 25=.int .i64 (fsum (P:Int) L):=hv
   (try simp at hd)
   simp [puts,dsts,Act.put,hd,hv];go_wp2_with fail;refine (Qc (P:Int) x (fsum (P:Int) L) _ HX.out E.out).mono ?_;rintro e w5 ⟨rfl,g5⟩;have G5:=zH g5;clear g5;go_wp2_with fail;exact ⟨_,rfl,⟨rfl,gbT hI G5.out⟩,⟨Chg.of G5.out (by simp),by simp [keepsC]⟩⟩
  ·intro f w4 hG hI hd
   obtain ⟨hv,hI⟩:=hI;have hv:f 26=.int .i64 ((x - fsum (P:Int) L) % (P:Int)):=hv;have hz:=hI.size
   (try simp at hd)
   simp [puts,dsts,Act.put,hv];go_wp2_with fail;exact ⟨_,rfl,⟨⟨_,rfl,by simpa using hz,Blk.new w4 _ _⟩,gbA hI _⟩,⟨Chg.of (gbA (gbR w4 none) _) (by simp),by simp [keepsC]⟩⟩
  ·intro f w4 hG hI hd
   obtain ⟨⟨g9,hv,hg9,B9⟩,hI⟩:=hI;have hv:f 27=.slice (some ⟨g9,0,none⟩) 1 1:=hv;have n0:=B9.cell 0;simp at n0
   (try simp at hd)
   simp [puts,dsts,Act.put,hd,hv];refine Xt w4 ZZ rfl (.tmp 20) (.tmp 27) rfl lo _ _ _ (Zj HL3.out (gbT (gbD (gbR _ none)) hI)) rfl ⟨g9,0,none⟩ 1 1 [.int .i64 ((x - fsum (P:Int) L) % (P:Int))] rfl rfl ?_ (by simp [Value.oneCell']) (by unfold maxLen;omega) (by omega) (by have:=hI.size;simp at this;omega) ?_
   ·intro j u hu
    have hadd:(⟨g9,0,none⟩:Addr).add j=⟨g9,j,none⟩:=by unfold Addr.add;split <;> simp_all
    rw [hadd]
    match j,hu with
    | 0,hu=>simp at hu;rw [n0,hu]
    | j+1,hu=>simp at hu
   intro v' w6 o8 g8 k8;have O8:Hid (w6.ownsRow lo 3 1 v' (m+1) ((shareL (P:Int) x L).map (Value.int .i64))):=by unfold Hid shareL;rw [List.map_append];exact o8
   have C8:=zH ((Chg.of (S:=fun y=>(Value.slice A m c).ownBlock=some y) hI (by simp)).trans (Chg.of g8 (fun g h=>h)));have D8:=zH (Chg.of (S:=fun y=>(Value.slice A m c).ownBlock=some y) g8 (fun g h=>h));clear o8 g8 k8;go_wp2_with fail;exact ⟨_,rfl,⟨O8.out,C8.out⟩,⟨D8.out,by simp [keepsC]⟩⟩
  ·intro f w4 hG hd
   have t4:=((N3.out.grow (gbD (gbR w3 none)))).chg hG (fun e=>by have:=HLB.out _ e;omega);have t0:=t4.cell 0;have t1:=t4.cell 1;simp at t0 t1;clear hd;simp [puts,dsts,Act.put];go_wp2_with fail;exact ⟨rfl,rfl⟩
  ·intro f w4 hG hI hd
   obtain ⟨ho,hI⟩:=hI;have ho:w4.ownsRow lo 3 1 (f 28) (m+1) ((shareL (P:Int) x L).map (Value.int .i64)):=ho;clear hd;simp [puts,dsts,Act.put];go_wp2_with fail;exact ⟨_,rfl,⟨ho,hI⟩,⟨Chg.refl _ _,by simp [keepsC]⟩⟩
  ·intro f w4 hG hI hd
   obtain ⟨ho,hI⟩:=hI;have ho:w4.ownsRow lo 3 1 (f 8) (m+1) ((shareL (P:Int) x L).map (Value.int .i64)):=ho;have R4:=((B3.out.grow (gbD (gbR w3 none)))).chg hI (fun e=>by have:=((HL3.out).lt _ e).1;omega);have f0:=R4.frozen 0;have f1:=R4.frozen 1;have b0:=R4.cell 0;have b1:=R4.cell 1;simp at b0 b1;have RS:=zH (Zd R4 [.int .i64 s,.int .i64 ((a:Int)+(m:Int))] rfl);have CH:=zH ((hI.mono (T:=fun y=>(Value.slice A m c).ownBlock=some y∨y=gR) (fun y h=>.inl h)).trans ((Za gR [.int .i64 s,.int .i64 ((a:Int)+(m:Int))] 0 w4).mono (fun y h=>.inr h)));have OS:=zH (Chg.own ho (Za gR [.int .i64 s,.int .i64 ((a:Int)+(m:Int))] 0 w4) (fun g hg (e:g=gR)=>by have:=(ho.lt g hg).1;omega));clear R4 hI ho
   (try simp at hd)
   simp [puts,dsts,Act.put,hd];go_wp2_with fail;exact ⟨rfl,.bool false,OS.out,CH.out,RS.out⟩
 intro f w5 hI hd;obtain ⟨hOS,hCS,hBS⟩:=hI;have hCS:=chgDr hCS;have hOS:w5.ownsRow lo 3 1 (f 8) (m+1) ((shareL (P:Int) x L).map (Value.int .i64)):=hOS;obtain ⟨A9_,c9_,e9_,_,_⟩:=ZB hOS;rw [e9_] at hOS;simp only [puts,dsts,Act.put,e9_,zB,zC,zA,zD,zE];clear hd e9_
 have GZ:=zH (gbChg G3.out hCS (fun y hy=>by
  rcases hy with hy | hy
  ·have:=(HL3.out.lt y hy).1;omega
  ·omega))
 go_wp2_with fail;refine Kn Tryz.results155 (by rfl) stTape (cs:=#[.int .i64 s,.int .i64 ((a:Int)+(m:Int))]) hBS (by rfl) (by rfl) ?_;exact ⟨_,by rw [show ((a+m:Nat):Int)=(a:Int)+(m:Int) by omega],by rw [HLL.out];exact ZE hOS (by omega),GZ.out⟩
end Go.Proofs.YthaadgdeadbhkaaGreat
namespace Go.Proofs.YthaadgdeadbhkaaGreat
attribute [local simp] depsC dstAt kAt bindE List.filter_cons Zz Zq Zr Zs ZA ZW puts dsts Act.put
def ZL (k:KM) (P s a:Nat) (x:Int):AuM:=⟨shareL k.p x (tapeL s a P (k.al.length - 1)),shareL k.p ((x*fsum k.p k.al) % k.p) (tapeL s (a+(k.al.length - 1)) P (k.al.length - 1))⟩
def shT2 (lo n:Nat) (L:List Int) (t:Value) (v:Value) (w:World):Prop:=∃A c,v=.tuple #[.slice A n c,t]∧w.ownsRow lo 3 1 (.slice A n c) n (L.map (Value.int .i64))
theorem shT2_st {lo n:Nat} {L:List Int} {t:Value}:stable (shT2 lo n L t):=fun v w w' ⟨A,c,h1,h2⟩ hg=>⟨A,c,h1,Zj h2 hg⟩
theorem shT2_chg {lo n g:Nat} {L:List Int} {t v:Value} {w w':World} (h:shT2 lo n L t v w) (k:Chg (fun y=>y=g) w w') (hg:g<lo):shT2 lo n L t v w':=by
 obtain ⟨A,c,h1,h2⟩:=h;exact ⟨A,c,h1,Chg.own h2 k (fun x hx (e:x=g)=>by have:=(h2.lt x hx).1;omega)⟩
theorem row1_chg {lo n g:Nat} {L:List Int} {v:Value} {w w':World} (h:row1 lo n L v w) (k:Chg (fun y=>y=g) w w') (hg:g<lo):row1 lo n L v w':=by
 obtain ⟨A,c,h1,h2⟩:=h;exact ⟨A,c,h1,Chg.own h2 k (fun x hx (e:x=g)=>by have:=(h2.lt x hx).1;omega)⟩
theorem autF.chg2 {lo g g':Nat} {m:AuM} {v:Value} {w w':World} (h:autF lo m v w) (k:Chg (fun y=>y=g∨y=g') w w') (hg:g<lo) (hg':g'<lo):autF lo m v w':=by
 obtain ⟨F,h1,h2⟩:=h;exact ⟨F,h1.chg k (fun x hx e=>by have:=h2 x hx;rcases e with e | e <;> omega),h2⟩
theorem KO {lo n:Nat} {L:List Int}:stable (row1 lo n L):=fun v w w' h hg=>h.grow hg
set_option maxHeartbeats 2000000 in
set_option maxRecDepth 100000 in
theorem Vv (k:KM) (P s a:Nat) (x:Int) (kv:Value) (w0:World) (h:AggR w0 (ckeys k) kv) (wk:kwf k) (hk:keysB k=true) (hP:k.p=P) (hx:elemB k.p x=true) (hs:s<4294967296) (ha:a≤900000) :
  Calls Tryz.prog 115 #[kv,.int .i64 x,.agg #[.int .i64 s,.int .i64 a]] w0 fun e w'=>∃v,e=.returned (.tuple #[v,.agg #[.int .i64 s,.int .i64 ((a+(k.al.length - 1)+(k.al.length - 1):Nat):Int)]])∧autF w0.heap.size (ZL k P s a x) v w'∧w0.grownBy w' none:=by
 obtain ⟨A,c,rfl,hc,hm,hI⟩:=ZG h;obtain ⟨p,al⟩:=k;simp only at hP;subst hP;obtain ⟨kf,ke,n1,n5⟩:=Yc hk;obtain ⟨p2,p101⟩:=ZC kf;simp only at n1 n5 ke kf p2 p101;obtain ⟨w1,hw1⟩:∃y:World,(((w0.alloc (.cells #[.int .i64 P,.slice A al.length c] 34)).alloc (.cells #[.int .i64 s,.int .i64 a] 41)).alloc (.cells #[.slice none 0 0,.slice none 0 0] 80)).alloc (.cells #[.int .i64 0,.int .i64 0] 41)=y:=⟨_,rfl⟩;have G1:Hid (w0.grownBy w1 none):=by rw [← hw1];exact gbA (gbA (gbA (gbA (gbR _ _) _) _) _) _
 have z1:Hid (w1.heap.size=w0.heap.size+4):=by rw [← hw1];exact zH (by simp)
 have D0:Hid (Blk w1 w0.heap.size 34 #[.int .i64 P,.slice A al.length c]):=by rw [← hw1];exact (((Blk.new w0 _ _).grow (gbA (gbR _ _) _)).grow (gbA (gbR _ _) _)).grow (gbA (gbR _ _) _)
 have D1:Hid (Blk w1 (w0.heap.size+1) 41 #[.int .i64 s,.int .i64 a]):=by rw [← hw1];exact ((Blk.new' _ _ _ _ (by simp)).grow (gbA (gbR _ _) _)).grow (gbA (gbR _ _) _)
 have D2:Hid (Blk w1 (w0.heap.size+1+1) 80 #[.slice none 0 0,.slice none 0 0]):=by rw [← hw1];exact (Blk.new' _ _ _ _ (by simp)).grow (gbA (gbR _ _) _)
 have D3:Hid (Blk w1 (w0.heap.size+1+1+1) 41 #[.int .i64 0,.int .i64 0]):=by rw [← hw1];exact Blk.new' _ _ _ _ (by simp)
 have LA:Hid (∀b,A=some b→b.block<w0.heap.size):=zH (fun b hb=>by
  obtain ⟨b',o',e',hb',_⟩:=hI.at_ (show 0<al.length from n1)
  rw [hb] at e';injection e' with e';rw [e'];exact hb')
 have HK:=zH (AggR.grow h G1.out);have IK:=zH (hI.grow G1.out);have WK:=zH wk;have KB:=zH hk;have EX:=zH hx;have KE:=zH ke;have KF:=zH kf;have TB:=zH (Yw hs (show a≤1000000 by omega));have da:¬(900000:Int)<(a:Int):=by omega
 clear h hI wk hk hx ke kf
 go_enter Tryz.func115,Tryz.ntmps115
 have k0:=D0.out.cell 0;have k1:=D0.out.cell 1;simp at k0 k1;go_wp2_with fail;clear hw1 k0 k1;refine (YQ ⟨P,al⟩ _ _ HK.out WK.out).mono ?_;rintro e w2 ⟨rfl,g2⟩;rw [KB.out];have k0:=(D0.out.grow g2).cell 0;have k1:=(D0.out.grow g2).cell 1;have t0:=(D1.out.grow g2).cell 0;have t1:=(D1.out.grow g2).cell 1;simp at k0 k1 t0 t1;have Q2:=zH g2;clear g2;go_wp2_with fail;refine (YF P x _ (by omega) (by omega)).mono ?_;rintro e w3 ⟨rfl,rfl⟩;rw [EX.out];go_wp2_with fail;refine (Yj s a _).mono ?_;rintro e w3 ⟨rfl,g3⟩;rw [TB.out];have g13:=gbT Q2.out g3;have D0':=zH (D0.out.grow g13);have D1':=zH (D1.out.grow g13);have D2':=zH (D2.out.grow g13);have D3':=zH (D3.out.grow g13);have IK':=zH (IK.out.grow g13);have G3:=zH (gbT G1.out g13);have z3:w0.heap.size+4≤w3.heap.size:=by have:=z1.out;have:=g13.size;omega
 have t1':=D1'.out.cell 1;simp at t1';clear g3 g13 Q2 k0 k1 t0 t1 D0 D1 D2 D3 IK G1 HK;obtain ⟨gB,hgB⟩:∃g,w3.heap.size=g:=⟨_,rfl⟩;obtain ⟨w4,hw4⟩:∃y:World,w3.alloc (.cells #[.slice none 0 0,.slice none 0 0] 80)=y:=⟨_,rfl⟩;have hgr:w3.grownBy w4 none:=by rw [← hw4];exact gbA (gbR _ _) _
 have D0:=zH (D0'.out.grow hgr);have D1:=zH (D1'.out.grow hgr);have D2:=zH (D2'.out.grow hgr);have D3:=zH (D3'.out.grow hgr);have IK:=zH (IK'.out.grow hgr);have G4:=zH (gbT G3.out hgr);have DB:Hid (Blk w4 gB 80 #[.slice none 0 0,.slice none 0 0]):=by rw [← hw4,← hgB];exact Blk.new _ _ _
 have z4:Hid (w4.heap.size=gB+1):=by rw [← hw4,← hgB];exact zH (by simp)
 rw [hgB] at z3;have k0:=D0'.out.cell 0;have k1:=D0'.out.cell 1;have t0:=D1'.out.cell 0;have t1:=D1'.out.cell 1;simp at k0 k1 t0 t1;have q0:=fun o=>kA k0 o;have q1:=fun o=>kA k1 o;have q2:=fun o=>kA t0 o;have q3:=fun o=>kA t1 o;have HW4:=zH hw4;clear hgr D0' D1' D2' D3' IK' G3 hw4;go_wp2_with fail;rw [HW4.out];clear HW4 k0 k1 t0 t1 t1' q0 q1 q2 q3;refine (VX P s a al.length x w4 EX.out hs (by omega) n1 n5).mono ?_;rintro e w5 ⟨v1,rfl,o1,g5⟩;obtain ⟨A1,c1,rfl,_,_⟩:=ZB o1;obtain ⟨T1,hT1⟩:∃T,a+(al.length - 1)=T:=⟨_,rfl⟩;rw [hT1];have HT1:=zH hT1;have z5:=g5.size;rw [z4.out] at z5 o1;have D0':=zH (D0.out.grow g5);have D1':=D1.out.grow g5;have D2':=zH (D2.out.grow g5);have D3':=zH (D3.out.grow g5);have IK':=zH (IK.out.grow g5);have DB':=DB.out.grow g5;have G5:=zH (gbT G4.out g5);have f0:=DB'.frozen 0;have e0:=DB'.cell 0;have f1:=D1'.frozen 0;have f2:=D1'.frozen 1;have e1:=D1'.cell 0;have e2:=D1'.cell 1;simp at e0 e1 e2;have CB:=zH (chgS w5 gB 0 (.slice A1 al.length c1));have CT:=zH (Za (w0.heap.size+1) [.int .i64 s,.int .i64 (T1:Int)] 0 (w5.setCell ⟨gB,0,none⟩ (.slice A1 al.length c1)));have DB6:=zH ((DB'.set_ 0 (.slice A1 al.length c1)).chg CT.out (by omega));have D16:=zH (Zd (D1'.chg CB.out (by omega)) [.int .i64 s,.int .i64 (T1:Int)] rfl);have D06:=zH ((D0'.out.chg CB.out (by omega)).chg CT.out (by omega));have D26:=zH ((D2'.out.chg CB.out (by omega)).chg CT.out (by omega));have D36:=zH ((D3'.out.chg CB.out (by omega)).chg CT.out (by omega));have O16:=zH (Wz (base':=gB+1) (Chg.own (Chg.own o1 CB.out (fun g hg (e:g=gB)=>by have:=(o1.lt g hg).1;omega)) CT.out (fun g hg (e:g=w0.heap.size+1)=>by have:=(o1.lt g hg).1;omega)) (fun g hg=>(o1.lt g hg).1));have IK6:=zH (Chg.rd (Chg.rd IK'.out CB.out (fun b hb (e:b.block=gB)=>by have:=LA.out b hb;omega)) CT.out (fun b hb (e:b.block=w0.heap.size+1)=>by have:=LA.out b hb;omega));have G6:=zH (Zu (Zu G5.out CB.out (by omega)) CT.out (by omega));obtain ⟨w6,hw6⟩:∃y,Zm (w5.setCell ⟨gB,0,none⟩ (.slice A1 al.length c1)) (w0.heap.size+1) 0 [.int .i64 s,.int .i64 (T1:Int)]=y:=⟨_,rfl⟩;have z6:gB+1≤w6.heap.size:=by rw [← hw6];simp [Zm];omega
 rw [hw6] at DB6 D16 D06 D26 D36 O16 IK6 G6;have HW6:=zH hw6;clear g5 D0 D1 D2 D3 IK DB G4 D0' D2' D3' IK' o1 D1' DB' CB CT hw6;go_wp2_with fail;rw [show ((w5.setCell ⟨gB,0,none⟩ (.slice A1 al.length c1)).setCell ⟨w0.heap.size+1,0,none⟩ (.int .i64 s)).setCell ⟨w0.heap.size+1,1,none⟩ (.int .i64 (T1:Int))=w6 from HW6.out];clear f0 f1 f2 e0 e1 e2 HW6;obtain ⟨n,hn⟩:∃n,al.length=n:=⟨_,rfl⟩;have HN:=zH hn;obtain ⟨S2,hS2⟩:∃z,fsum (P:Int) al=z:=⟨_,rfl⟩;have HS2:=zH hS2;have FE:Hid (elemB (P:Int) S2=true):=by rw [← hS2];exact zH (Yl KF.out al)
 obtain ⟨y,hy⟩:∃z,(x*S2) % (P:Int)=z:=⟨_,rfl⟩;have HY:=zH hy;have EY:Hid (elemB (P:Int) y=true):=by rw [← hy];exact zH (Yg KF.out _)
 obtain ⟨L2,hL2⟩:∃l,shareL (P:Int) y (tapeL s T1 P (al.length - 1))=l:=⟨_,rfl⟩;have HL2:=zH hL2;obtain ⟨gT,hgT⟩:∃g,w0.heap.size+1=g:=⟨_,rfl⟩;have hgTB:gT<gB:=by omega
 have hw0T:w0.heap.size≤gT:=by omega
 have T1b:T1≤900004:=by omega
 rw [hgT] at D16 D26 D36 ⊢;rw [hn] at IK6 O16 DB6 D06 HL2 n1 n5 ⊢;clear hn hS2 hy hL2 hT1
 refine Zg [.rd (.pointer (some ⟨w0.heap.size,0,none⟩)),.rd (.int .i64 P),.rd (.pointer (some ⟨w0.heap.size,0,none⟩)),.rd (.int .i64 P),.rd (.int .i64 x),.rd (.pointer (some ⟨w0.heap.size,0,none⟩)),.rd (.int .i64 P),.rd (.pointer (some ⟨w0.heap.size,1,none⟩)),.rd (.slice A n c),.rd (.int .i64 S2),.fl (isV (.int .i64 y)),.rd (.pointer (some ⟨w0.heap.size,1,none⟩)),.rd (.slice A n c),.rd (.int .i64 n),.rd (.agg #[.int .i64 s,.int .i64 T1]),.fl (shT2 w6.heap.size n L2 (.agg #[.int .i64 s,.int .i64 ((T1+(n - 1):Nat):Int)])),.fl (shT2 w6.heap.size n L2 (.agg #[.int .i64 s,.int .i64 ((T1+(n - 1):Nat):Int)])),.fl (row1 w6.heap.size n L2),.rd (.agg #[.int .i64 s,.int .i64 ((T1+(n - 1):Nat):Int)]),.rd (.pointer (some ⟨gB,1,none⟩)),.ch,.ch] (fun z=>z=gB)
  [⟨[],fun _ w'=>w6.drew.grownBy w' none⟩,
   ⟨[],fun _ w'=>(∃A2 c2,w'.ownsRow w6.heap.size 3 1 (.slice A2 n c2) n (L2.map (Value.int .i64))∧Blk w' gB 80 #[.slice A1 n c1,.slice A2 n c2])∧Chg (fun z=>z=gB) w6.drew w'⟩,
   ⟨[],fun _ w'=>(∃A2 c2,w'.ownsRow w6.heap.size 3 1 (.slice A2 n c2) n (L2.map (Value.int .i64))∧Blk w' gB 80 #[.slice A1 n c1,.slice A2 n c2])∧Blk w' gT 41 #[.int .i64 s,.int .i64 ((T1+(n - 1):Nat):Int)]∧Chg (fun z=>z=gB∨z=gT) w6.drew w'⟩]
  (by kernel_rfl) (by kernel_rfl) (by kernel_rfl) 2 (by kernel_rfl) ?_ (gbR _ _) rfl ?_ ?_
 ·have hst:Zw [⟨[],fun _ w'=>w6.drew.grownBy w' none⟩,
   ⟨[],fun _ w'=>(∃A2 c2,w'.ownsRow w6.heap.size 3 1 (.slice A2 n c2) n (L2.map (Value.int .i64))∧Blk w' gB 80 #[.slice A1 n c1,.slice A2 n c2])∧Chg (fun z=>z=gB) w6.drew w'⟩,
   ⟨[],fun _ w'=>(∃A2 c2,w'.ownsRow w6.heap.size 3 1 (.slice A2 n c2) n (L2.map (Value.int .i64))∧Blk w' gB 80 #[.slice A1 n c1,.slice A2 n c2])∧Blk w' gT 41 #[.int .i64 s,.int .i64 ((T1+(n - 1):Nat):Int)]∧Chg (fun z=>z=gB∨z=gT) w6.drew w'⟩]:=by
   intro F hF;simp only [List.mem_cons,List.not_mem_nil,or_false] at hF
   rcases hF with rfl | rfl | rfl
   ·exact fun l w1 w2 h hg=>gbT h hg
   ·rintro l w1 w2 ⟨⟨A2,c2,h1,h2⟩,h3⟩ hg
    exact ⟨⟨A2,c2,Zj h1 hg,h2.grow hg⟩,h3.trans (Chg.of hg (by simp))⟩
   ·rintro l w1 w2 ⟨⟨A2,c2,h1,h2⟩,h4,h3⟩ hg
    exact ⟨⟨A2,c2,Zj h1 hg,h2.grow hg⟩,h4.grow hg,h3.trans (Chg.of hg (by simp))⟩
  simp only [flOk,true_and,and_true];exact ⟨⟨Zb _,hst⟩,⟨shT2_st,hst⟩,⟨shT2_st,hst⟩,KO,hst⟩
 ·simp only [hopsK,hopK,Kd.next,and_true]
  refine ⟨?_, ?_, ?_, ?_, ?_, ?_, ?_, ?_, ?_, ?_, ?_, ?_, ?_, ?_, ?_, ?_, ?_, ?_, ?_, ?_, ?_, ?_⟩;rotate_left 9
  ·intro f w9 hG hd
   have I9:=zH (Chg.rd (w':=w9) (Rd.grow IK6.out (gbD (gbR w6 none))) hG (fun b hb (e:b.block=gB)=>by have:=LA.out b hb;omega))
   (try simp at hd)
   (first | simp [hd] | simp)
   clear hd;go_wp2_with fail;refine (WH P A n c al _ KE.out I9.out (by omega)).mono ?_;rintro e w10 ⟨rfl,rfl⟩;rw [HS2.out];go_wp2_with fail;exact ⟨rfl,rfl⟩
  ·intro f w9 hG hd
   (try simp at hd)
   (first | simp [hd] | simp)
   clear hd;go_wp2_with fail;refine (WG P x S2 _ EX.out FE.out).mono ?_;rintro e w10 ⟨rfl,g10⟩;rw [HY.out];have G10:=zH g10;clear g10;go_wp2_with fail;exact ⟨_,rfl,rfl,G10.out⟩
  rotate_left 4
  ·intro f w9 hG hd
   have hz:=hG.size;simp at hz
   (try simp at hd)
   simp only [isV] at hd
   (first | simp [hd] | simp)
   clear hd;go_wp2_with fail;refine (VX P s T1 n y w9 EY.out hs (by omega) n1 n5).mono ?_;rintro e w10 ⟨v2,rfl,o2,g2⟩;rw [HL2.out] at o2;obtain ⟨A2,c2,rfl,_,_⟩:=ZB o2;have O2:=zH (ZE o2 hz);have G2:=zH g2;clear o2 g2;go_wp2_with fail;exact ⟨_,rfl,⟨A2,c2,rfl,O2.out⟩,G2.out⟩
  ·intro f w9 hG hd
   (try simp at hd)
   obtain ⟨A2,c2,e2,o2⟩:=hd;simp [puts,dsts,Act.put,e2];go_wp2_with fail;exact ⟨_,rfl,⟨A2,c2,rfl,o2⟩,gbR _ _⟩
  ·intro f w9 hG hd
   (try simp at hd)
   obtain ⟨A2,c2,e2,o2⟩:=hd;simp [puts,dsts,Act.put,e2];go_wp2_with fail;exact ⟨_,rfl,⟨A2,c2,rfl,o2⟩,gbR _ _⟩
  ·intro f w9 hG hd
   (try simp at hd)
   obtain ⟨A2,c2,e2,o2⟩:=hd;simp [puts,dsts,Act.put,e2];go_wp2_with fail;exact ⟨rfl,rfl⟩
  rotate_left 1
  ·intro f w9 hG hI hd
   have hI:w6.drew.grownBy w9 none:=hI
   (try simp at hd)
   obtain ⟨e63,⟨A2,c2,e61,o2⟩,_⟩:=hd;rw [e61] at o2;have hz:=hI.size;simp at hz;have DBw:=DB6.out.grow (gbT (gbD (gbR w6 none)) hI);have f1:=DBw.frozen 1;have b1:=DBw.cell 1;simp at b1;have CH:=chgS w9 gB 1 (.slice A2 n c2);have RS:=zH (DBw.set_ 1 (.slice A2 n c2));have OS:=zH (Chg.own o2 CH (fun g hg (e:g=gB)=>by have:=(o2.lt g hg).1;omega));have C1:=zH ((Chg.of (S:=fun z=>z=gB) hI (by simp)).trans CH);have K1:=zH (fun v (h:shT2 w6.heap.size n L2 (.agg #[.int .i64 s,.int .i64 ((T1+(n - 1):Nat):Int)]) v w9)=>shT2_chg h CH (show gB<w6.heap.size by omega));have K2:=zH (fun v (h:row1 w6.heap.size n L2 v w9)=>row1_chg h CH (show gB<w6.heap.size by omega));have CH:=zH CH;clear o2 DBw;simp [puts,dsts,Act.put,e61,e63];go_wp2_with fail;exact ⟨rfl,⟨.bool false,⟨A2,c2,OS.out,RS.out⟩,C1.out⟩,CH.out,by simp [keepsC,dstAt];exact ⟨fun h=>h,K1.out _,K1.out _,K2.out _⟩⟩
  ·intro f w9 hG hI hd
   obtain ⟨⟨A2,c2,o2,B2⟩,C2⟩:=hI;have C2:Chg (fun z=>z=gB) w6.drew w9:=C2
   (try simp at hd)
   have e62:=hd.1;clear hd;have DTw:=(D16.out.grow (gbD (gbR w6 none))).chg C2 (by omega);have f0:=DTw.frozen 0;have f1:=DTw.frozen 1;have b0:=DTw.cell 0;have b1:=DTw.cell 1;simp at b0 b1;have RS:=zH (Zd DTw [.int .i64 s,.int .i64 ((T1+(n - 1):Nat):Int)] rfl);have CH:=Za gT [.int .i64 s,.int .i64 ((T1+(n - 1):Nat):Int)] 0 w9;have OS:=zH (Chg.own o2 CH (fun g hg (e:g=gT)=>by have:=(o2.lt g hg).1;omega));have BS:=zH (B2.chg CH (by omega));have CS:=zH ((C2.mono (T:=fun z=>z=gB∨z=gT) (fun z h=>.inl h)).trans (CH.mono (fun z h=>.inr h)));clear o2 B2 C2 CH DTw;simp [puts,dsts,Act.put,e62];go_wp2_with fail;exact ⟨rfl,.bool false,⟨A2,c2,OS.out,BS.out⟩,RS.out,CS.out⟩
  all_goals
   intro f w9 hG hd;have k0:=hG.cell (D06.out.cell 0) (by have:=D06.out.lt;simpa using this) (by omega);have k1:=hG.cell (D06.out.cell 1) (by have:=D06.out.lt;simpa using this) (by omega);have k2:=hG.cell (D16.out.cell 0) (by have:=D16.out.lt;simpa using this) (by omega);have k3:=hG.cell (D16.out.cell 1) (by have:=D16.out.lt;simpa using this) (by omega);simp at k0 k1 k2 k3
   (try simp at hd)
   (first | simp [hd] | simp)
   clear hd;go_wp2_with fail;exact ⟨rfl,rfl⟩
 intro f w9 hI hd;obtain ⟨⟨A2,c2,o2,B2⟩,T2,C2⟩:=hI;have C2:=chgDr C2;have O1:=zH (Chg.own O16.out C2 (fun g hg e=>by have:=(O16.out.lt g hg).1;rcases e with e | e <;> (have e:=e;omega)))
 have hap:∀g,(Value.slice A1 n c1).ownBlock=some g→(Value.slice A2 n c2).ownBlock≠some g:=fun g hg hg'=>by
  have h1:=(O16.out.lt g hg).2;have h2:=(o2.lt g hg').1;omega
 have AU:Hid (autF (gB+1) ⟨shareL (P:Int) x (tapeL s a P (n - 1)),L2⟩ (.agg #[.slice A1 n c1,.slice A2 n c2]) w9):=by
  exact zH (row2.agg ⟨row1.of O1.out,row1.of (ZE o2 z6),hap⟩)
 have DA:=zH (D26.out.chg C2 (by omega));have DT:=zH (D36.out.chg C2 (by omega));have G9:=zH (gbChg G6.out C2 (fun z hz=>by rcases hz with hz | hz <;> omega));have b0:=B2.cell 0;have b1:=B2.cell 1;have t0:=T2.cell 0;have t1:=T2.cell 1;simp at b0 b1 t0 t1;clear o2 hd;simp only [puts,dsts,Act.put,zB,zC,zA,zD,zE];have BB:=zH B2;have TT:=zH T2;clear B2 T2 C2;go_wp2_with fail;obtain ⟨gA,hgA⟩:∃g,gT+1=g:=⟨_,rfl⟩;obtain ⟨gU,hgU⟩:∃g,gT+1+1=g:=⟨_,rfl⟩;rw [hgU] at DT ⊢;rw [hgA] at DA ⊢;have hAU1:gA<gU:=by omega
 have hUB:gU<gB:=by omega
 have hTA:gT<gA:=by omega
 clear b0 b1 t0 t1
 refine Zg [.rd (.agg #[.slice A1 n c1,.slice A2 n c2]),.rd (.agg #[.int .i64 s,.int .i64 ((T1+(n - 1):Nat):Int)]),.ch,.ch] (fun z=>z=gA)
  [⟨[],fun _ w'=>w'=w9.drew⟩,
   ⟨[],fun _ w'=>Blk w' gA 80 #[.slice A1 n c1,.slice A2 n c2]∧Chg (fun z=>z=gA) w9.drew w'⟩,
   ⟨[],fun _ w'=>Blk w' gA 80 #[.slice A1 n c1,.slice A2 n c2]∧Blk w' gU 41 #[.int .i64 s,.int .i64 ((T1+(n - 1):Nat):Int)]∧Chg (fun z=>z=gA∨z=gU) w9.drew w'⟩]
  (by kernel_rfl) (by kernel_rfl) (by kernel_rfl) 2 (by kernel_rfl) (by simp only [flOk,and_true]) rfl rfl ?_ ?_
 ·simp only [hopsK,hopK,Kd.next,and_true]
  refine ⟨?_, ?_, ?_, ?_⟩
  ·intro f w10 hG hd
   have B4:=(BB.out.grow (gbD (gbR w9 none))).chg hG (by omega);have b0:=B4.cell 0;have b1:=B4.cell 1;simp at b0 b1;clear hd;simp [puts,dsts,Act.put];go_wp2_with fail;exact ⟨rfl,rfl⟩
  ·intro f w10 hG hd
   have B4:=(TT.out.grow (gbD (gbR w9 none))).chg hG (by omega);have b0:=B4.cell 0;have b1:=B4.cell 1;simp at b0 b1;clear hd;simp [puts,dsts,Act.put];go_wp2_with fail;exact ⟨rfl,rfl⟩
  ·intro f w10 hG hI hd
   have hI:w10=w9.drew:=hI;subst hI
   (try simp at hd)
   have e64:=hd;have R4:=DA.out.grow (gbD (gbR w9 none));have f0:=R4.frozen 0;have f1:=R4.frozen 1;have g0:=DA.out.frozen 0;have g1:=DA.out.frozen 1;have b0:=R4.cell 0;have b1:=R4.cell 1;simp at b0 b1;have RS:=zH (Zd R4 [.slice A1 n c1,.slice A2 n c2] rfl);have CH:=zH (Za gA [.slice A1 n c1,.slice A2 n c2] 0 w9.drew);clear hd R4;simp [puts,dsts,Act.put,e64];go_wp2_with fail;exact ⟨rfl,⟨.bool false,RS.out,CH.out⟩,CH.out,by simp [keepsC]⟩
  ·intro f w10 hG hI hd
   obtain ⟨B2,C2⟩:=hI;have C2:Chg (fun z=>z=gA) w9.drew w10:=C2
   (try simp at hd)
   have e65:=hd.1;have R4:=(DT.out.grow (gbD (gbR w9 none))).chg C2 (by omega);have f0:=R4.frozen 0;have f1:=R4.frozen 1;have b0:=R4.cell 0;have b1:=R4.cell 1;simp at b0 b1;have RS:=zH (Zd R4 [.int .i64 s,.int .i64 ((T1+(n - 1):Nat):Int)] rfl);have CH:=Za gU [.int .i64 s,.int .i64 ((T1+(n - 1):Nat):Int)] 0 w10;have BS:=zH (B2.chg CH (by omega));have CS:=zH ((C2.mono (T:=fun z=>z=gA∨z=gU) (fun z h=>.inl h)).trans (CH.mono (fun z h=>.inr h)));clear hd R4 B2 C2 CH;simp [puts,dsts,Act.put,e65];go_wp2_with fail;exact ⟨rfl,.bool false,BS.out,RS.out,CS.out⟩
 intro f w10 hI hd;obtain ⟨BA,BU,C3⟩:=hI;have C3:=chgDr C3;have AZ:=zH (autF.chg2 AU.out C3 (show gA<gB+1 by omega) (show gU<gB+1 by omega));have GZ:=zH (gbChg G9.out C3 (fun z hz=>by rcases hz with hz | hz <;> omega));clear hd;simp only [puts,dsts,Act.put,zB,zC,zA,zD,zE];go_wp2_with fail;refine ret_cc Tryz.results115 (by rfl) stAuth (cs:=#[.slice A1 n c1,.slice A2 n c2]) BA (by rfl) (by rfl) stTape (ds:=#[.int .i64 s,.int .i64 ((T1+(n - 1):Nat):Int)]) BU (by rfl) (by rfl) ?_;have hT:=HT1.out;have hN:=HN.out;rw [hN] at hT;refine ⟨.agg #[.slice A1 n c1,.slice A2 n c2], ?_, ?_,GZ.out⟩
 ·rw [hN,hT]
 ·have e:ZL ⟨(P:Int),al⟩ P s a x=⟨shareL (P:Int) x (tapeL s a P (n - 1)),L2⟩:=by
   unfold ZL;simp only;rw [hN,hT,HS2.out,HY.out,← HL2.out]
  rw [e];exact autF.lo AZ.out (by omega)
end Go.Proofs.YthaadgdeadbhkaaGreat
