/-
 MacCheck: reference and program;the sum of keys.
-/
import Derived.Test.YthaadgdeadbhkaaGreatMgFnExactEngineRound16
open Go.RowKit
set_option linter.unusedVariables false
set_option linter.unusedSimpArgs false
namespace Go.Proofs.YthaadgdeadbhkaaGreat
def Yb (k:KM) (o:Int) (a:AuM):Bool:=keysB k&&elemB k.p o&&((a.mc.length:Int) == (k.al.length:Int))&&elemsB k.p a.mc&&(fsum k.p a.mc == (o*fsum k.p k.al) % k.p)
theorem YX {k:KM} (h:keysB k=true):fieldB k.p=true∧elemsB k.p k.al=true∧1≤k.al.length∧k.al.length≤5:=by
 unfold keysB at h;rw [Bool.and_eq_true] at h;have:=Vl h.2;exact ⟨(ZY h.1).1,h.1,by omega,by omega⟩
theorem specl23Key_y (k:KM) (kv:Value) (w:World) (h:AggR w (ckeys k) kv) (hk:keysB k=true) :
  Calls Tryz.prog 144 #[kv] w fun e w'=>e=.returned (.int .i64 (fsum k.p k.al))∧w.grownBy w' none:=by
 obtain ⟨A,c,rfl,hc,hm,hI⟩:=ZK h;obtain ⟨_,he,h1,h5⟩:=YX hk;have HI:=zH (hI.grow (gbA (gbR w none) (.cells #[.int .i64 k.p,.slice A k.al.length c] 34)));have HE:=zH he;clear h hI he hk
 go_enter Tryz.func144,Tryz.ntmps144
 go_wp2_with fail;refine (VP k.p A k.al.length c k.al _ HE.out HI.out (by omega)).mono ?_;rintro e w1 ⟨rfl,rfl⟩;go_wp2_with fail;go_ret;exact ⟨rfl,gbA (gbR _ _) _⟩
set_option maxHeartbeats 2000000 in
set_option maxRecDepth 100000 in
theorem YI (k:KM) (o:Int) (a:AuM) (kv av:Value) (w:World) (h:AggR w (ckeys k) kv) (ha:AggR w (cauth a) av) (wk:kwf k) (wa:awf a) :
  Calls Tryz.prog 104 #[kv,.int .i64 o,av] w fun e w'=>e=.returned (.bool (Yb k o a))∧w.grownBy w' none:=by
 obtain ⟨A,c,rfl,hc,hm,hI⟩:=ZK h;obtain ⟨B,d,C,fc,rfl,_,_,_,_,hS,hM⟩:=ZC ha;obtain ⟨wa1,wa2⟩:=wa;have hp:=wk.1;have hl:=wk.2;obtain ⟨wp1,wp2⟩:=hp;have G0:=zH (gbA (gbA (gbR w none) (.cells #[.int .i64 k.p,.slice A k.al.length c] 34)) (.cells #[.slice B a.sh.length d,.slice C a.mc.length fc] 80));have HK:=zH (AggR.grow h G0.out);have IK:=zH (hI.grow G0.out);have IM:=zH (hM.grow G0.out);have B0:=zH ((Blk.new w 34 #[.int .i64 k.p,.slice A k.al.length c]).grow (gbA (gbR _ _) (.cells #[.slice B a.sh.length d,.slice C a.mc.length fc] 80)));have B1:=zH (Blk.new' (w.alloc (.cells #[.int .i64 k.p,.slice A k.al.length c] 34)) 80 #[.slice B a.sh.length d,.slice C a.mc.length fc] (w.heap.size+1) (by simp));have WK:=zH wk;have HF:Hid (Yb k o a=(keysB k&&elemB k.p o&&((a.mc.length:Int) == (k.al.length:Int))&&elemsB k.p a.mc&&(fsum k.p a.mc == (o*fsum k.p k.al) % k.p))):=rfl;clear h ha hI hS hM wk
 go_enter Tryz.func104,Tryz.ntmps104
 go_wp2_with fail;refine (Wm k _ _ HK.out WK.out).mono ?_;rintro e w1 ⟨rfl,g1⟩;have K1:=zH (AggR.grow HK.out g1);have I1:=zH (IK.out.grow g1);have M1:=zH (IM.out.grow g1);have c0:=(B0.out.grow g1).cell 0;have c1:=(B0.out.grow g1).cell 1;have d1:=(B1.out.grow g1).cell 1;simp at c0 c1 d1;have G1:=zH (gbT G0.out g1);clear g1 HK IK IM B0 B1 WK
 cases b0:keysB k
 ·rw [b0] at HF
  go_wp2_with fail;go_ret;exact ⟨retB (by rw [HF.out];rfl),G1.out⟩
 have b0h:=zH b0;go_wp2_with fail;refine (ZD k.p o _ (by omega)).mono ?_;rintro e w2 ⟨rfl,rfl⟩
 cases b1:elemB k.p o
 ·rw [b0,b1] at HF
  go_wp2_with fail;go_ret;exact ⟨retB (by rw [HF.out];rfl),G1.out⟩
 have b1h:=zH b1
 cases b2:((a.mc.length:Int) == (k.al.length:Int))
 ·rw [b0,b1,b2] at HF
  have n2:((a.mc.length:Int) != (k.al.length:Int))=true:=by rw [bne,b2];rfl
  clear b2 b0 b1;go_wp2_with fail;go_ret;exact ⟨retB (by rw [HF.out];rfl),G1.out⟩
 have n2:((a.mc.length:Int) != (k.al.length:Int))=false:=by rw [bne,b2];rfl
 rw [b0,b1,b2] at HF;clear b2 b0 b1;go_wp2_with fail;refine (ZU k.p C a.mc.length fc a.mc _ (by omega) M1.out (by omega)).mono ?_;rintro e w2 ⟨rfl,rfl⟩
 cases b3:elemsB k.p a.mc
 ·rw [b3] at HF
  go_wp2_with fail;go_ret;exact ⟨retB (by rw [HF.out];rfl),G1.out⟩
 rw [b3] at HF;obtain ⟨kf,ke,kl1,kl5⟩:=YX b0h.out;have KE:=zH ke;have ME:=zH b3;have FE:=zH (YH kf k.al);obtain ⟨S1,hS1⟩:∃s,fsum k.p a.mc=s:=⟨_,rfl⟩;obtain ⟨S2,hS2⟩:∃s,fsum k.p k.al=s:=⟨_,rfl⟩;obtain ⟨S3,hS3⟩:∃s,(o*S2) % k.p=s:=⟨_,rfl⟩;have HS1:=zH hS1;have HS2:=zH hS2;have HS3:=zH hS3;rw [hS1,hS2,hS3] at HF;rw [hS2] at FE;have C0:=zH c0;have C1:=zH c1;have D1:=zH d1;clear ke kf b3 hS1 hS2 hS3 n2;go_wp2_with fail;clear c0 c1 d1;refine Zi [isV (.pointer (some ⟨w.heap.size,0,none⟩)),isV (.int .i64 k.p),isV (.pointer (some ⟨w.heap.size+1,1,none⟩)),isV (.slice C a.mc.length fc),isV (.int .i64 S1),isV (.pointer (some ⟨w.heap.size,0,none⟩)),isV (.int .i64 k.p),isV (.int .i64 o),isV (.agg #[.int .i64 k.p,.slice A k.al.length c]),isV (.int .i64 S2),isV (.int .i64 S3),isV (.bool (S1 == S3)),isV (.bool (S1 == S3))] (by kernel_rfl) (by kernel_rfl) (by kernel_rfl) (by simp [ZB,Zb]) ?_ ?_
 ·simp only [hops,and_true]
  refine ⟨?_, ?_, ?_, ?_, ?_, ?_, ?_, ?_, ?_, ?_, ?_, ?_, ?_⟩
  all_goals
   intro f w1 hG hd;have k0:=gbk (gbT (gbD (gbR _ _)) hG) (C0.out);have k1:=gbk (gbT (gbD (gbR _ _)) hG) (C1.out);have k2:=gbk (gbT (gbD (gbR _ _)) hG) (D1.out);simp [deps,tAt,isV] at hd
   first | simp [puts,dsts,Act.put,hd] | simp [puts,dsts,Act.put]
   clear hd
   go_wp2_with (first | (go_at_call 100;refine (VN k.p o S2 _ b1h.out FE.out).mono ?_;rintro e w6 ⟨rfl,hw⟩;rw [HS3.out]) | (go_at_call 143;refine (VP k.p C a.mc.length fc a.mc _ ME.out (M1.out.grow (gbT (gbD (gbR _ none)) hG)) (by omega)).mono ?_;rintro e w6 ⟨rfl,rfl⟩;rw [HS1.out]) | (go_at_call 144;refine (specl23Key_y k _ _ (AggR.grow K1.out (gbT (gbD (gbR _ none)) hG)) b0h.out).mono ?_;rintro e w6 ⟨rfl,hw⟩;rw [HS2.out]))
  all_goals exact ⟨_,rfl,by first | with_reducible exact gbR _ _ | exact hw,by first | (simp [tAt,isV];done) | (simp [tAt,isV];assumption)⟩
 intro f w5 hG hd;simp [knows,tAt,isV] at hd;simp only [puts,dsts,Act.put,hd,zB,zC,zA,zD,zE];clear hd;have g5:=gbT (gbD (gbR _ none)) hG;clear hG;have GZ:=zH (gbT G1.out g5);go_wp2_with fail;go_ret;exact ⟨retB (by rw [HF.out];rfl),GZ.out⟩
set_option maxHeartbeats 2000000 in
set_option maxRecDepth 100000 in
theorem YJ (k:KM) (o:Int) (a:AuM) (kv av:Value) (w:World) (h:AggR w (ckeys k) kv) (ha:AggR w (cauth a) av) (wk:kwf k) (wa:awf a) :
  Calls Tryz.prog 70 #[kv,.int .i64 o,av] w fun e w'=>e=.returned (.bool (Yb k o a))∧w.grownBy w' none:=by
 obtain ⟨A,c,rfl,hc,hm,hI⟩:=ZK h;obtain ⟨B,d,C,fc,rfl,_,_,_,_,hS,hM⟩:=ZC ha;obtain ⟨wa1,wa2⟩:=wa;have hp:=wk.1;have hl:=wk.2;obtain ⟨wp1,wp2⟩:=hp;have G0:=zH (gbA (gbA (gbR w none) (.cells #[.int .i64 k.p,.slice A k.al.length c] 34)) (.cells #[.slice B a.sh.length d,.slice C a.mc.length fc] 80));have HK:=zH (AggR.grow h G0.out);have IK:=zH (hI.grow G0.out);have IM:=zH (hM.grow G0.out);have B0:=zH ((Blk.new w 34 #[.int .i64 k.p,.slice A k.al.length c]).grow (gbA (gbR _ _) (.cells #[.slice B a.sh.length d,.slice C a.mc.length fc] 80)));have B1:=zH (Blk.new' (w.alloc (.cells #[.int .i64 k.p,.slice A k.al.length c] 34)) 80 #[.slice B a.sh.length d,.slice C a.mc.length fc] (w.heap.size+1) (by simp));have WK:=zH wk;have HF:Hid (Yb k o a=(keysB k&&elemB k.p o&&((a.mc.length:Int) == (k.al.length:Int))&&elemsB k.p a.mc&&(fsum k.p a.mc == (o*fsum k.p k.al) % k.p))):=rfl;clear h ha hI hS hM wk
 go_enter Tryz.func70,Tryz.ntmps70
 go_wp2_with fail;refine (Wo k _ _ HK.out WK.out).mono ?_;rintro e w1 ⟨rfl,g1⟩;have K1:=zH (AggR.grow HK.out g1);have I1:=zH (IK.out.grow g1);have M1:=zH (IM.out.grow g1);have c0:=(B0.out.grow g1).cell 0;have c1:=(B0.out.grow g1).cell 1;have d1:=(B1.out.grow g1).cell 1;simp at c0 c1 d1;have G1:=zH (gbT G0.out g1);clear g1 HK IK IM B0 B1 WK
 cases b0:keysB k
 ·rw [b0] at HF
  go_wp2_with fail;go_ret;exact ⟨retB (by rw [HF.out];rfl),G1.out⟩
 have b0h:=zH b0;go_wp2_with fail;refine (YA k.p o _ (by omega) (by omega)).mono ?_;rintro e w2 ⟨rfl,rfl⟩
 cases b1:elemB k.p o
 ·rw [b0,b1] at HF
  go_wp2_with fail;go_ret;exact ⟨retB (by rw [HF.out];rfl),G1.out⟩
 have b1h:=zH b1
 cases b2:((a.mc.length:Int) == (k.al.length:Int))
 ·rw [b0,b1,b2] at HF
  have n2:((a.mc.length:Int) != (k.al.length:Int))=true:=by rw [bne,b2];rfl
  clear b2 b0 b1;go_wp2_with fail;go_ret;exact ⟨retB (by rw [HF.out];rfl),G1.out⟩
 have n2:((a.mc.length:Int) != (k.al.length:Int))=false:=by rw [bne,b2];rfl
 rw [b0,b1,b2] at HF;clear b2 b0 b1;go_wp2_with fail;refine (Zl k.p C a.mc.length fc a.mc _ (by omega) (by omega) M1.out (by omega)).mono ?_;rintro e w2 ⟨rfl,rfl⟩
 cases b3:elemsB k.p a.mc
 ·rw [b3] at HF
  go_wp2_with fail;go_ret;exact ⟨retB (by rw [HF.out];rfl),G1.out⟩
 rw [b3] at HF;obtain ⟨kf,ke,kl1,kl5⟩:=YX b0h.out;have KE:=zH ke;have ME:=zH b3;have FE:=zH (YH kf k.al);obtain ⟨S1,hS1⟩:∃s,fsum k.p a.mc=s:=⟨_,rfl⟩;obtain ⟨S2,hS2⟩:∃s,fsum k.p k.al=s:=⟨_,rfl⟩;obtain ⟨S3,hS3⟩:∃s,(o*S2) % k.p=s:=⟨_,rfl⟩;have HS1:=zH hS1;have HS2:=zH hS2;have HS3:=zH hS3;rw [hS1,hS2,hS3] at HF;rw [hS2] at FE;have C0:=zH c0;have C1:=zH c1;have D1:=zH d1;clear ke kf b3 hS1 hS2 hS3 n2;go_wp2_with fail;clear c0 c1 d1;refine Zi [isV (.pointer (some ⟨w.heap.size,0,none⟩)),isV (.int .i64 k.p),isV (.pointer (some ⟨w.heap.size+1,1,none⟩)),isV (.slice C a.mc.length fc),isV (.int .i64 S1),isV (.pointer (some ⟨w.heap.size,0,none⟩)),isV (.int .i64 k.p),isV (.int .i64 o),isV (.pointer (some ⟨w.heap.size,0,none⟩)),isV (.int .i64 k.p),isV (.pointer (some ⟨w.heap.size,1,none⟩)),isV (.slice A k.al.length c),isV (.int .i64 S2),isV (.int .i64 S3),isV (.bool (S1 == S3)),isV (.bool (S1 == S3))] (by kernel_rfl) (by kernel_rfl) (by kernel_rfl) (by simp [ZB,Zb]) ?_ ?_
 ·simp only [hops,and_true]
  refine ⟨?_, ?_, ?_, ?_, ?_, ?_, ?_, ?_, ?_, ?_, ?_, ?_, ?_, ?_, ?_, ?_⟩
  all_goals
   intro f w1 hG hd;have k0:=gbk (gbT (gbD (gbR _ _)) hG) (C0.out);have k1:=gbk (gbT (gbD (gbR _ _)) hG) (C1.out);have k2:=gbk (gbT (gbD (gbR _ _)) hG) (D1.out);simp [deps,tAt,isV] at hd
   first | simp [puts,dsts,Act.put,hd] | simp [puts,dsts,Act.put]
   clear hd
   go_wp2_with (first | (go_at_call 121;refine (VO k.p o S2 _ b1h.out FE.out).mono ?_;rintro e w6 ⟨rfl,hw⟩;rw [HS3.out]) | (go_at_call 135;first | (with_reducible refine (VQ k.p C a.mc.length fc a.mc _ ME.out (M1.out.grow (gbT (gbD (gbR _ none)) hG)) (by omega)).mono ?_;rintro e w6 ⟨rfl,rfl⟩;rw [HS1.out]) | (refine (VQ k.p A k.al.length c k.al _ KE.out (I1.out.grow (gbT (gbD (gbR _ none)) hG)) (by omega)).mono ?_;rintro e w6 ⟨rfl,rfl⟩;rw [HS2.out])))
  all_goals exact ⟨_,rfl,by first | with_reducible exact gbR _ _ | exact hw,by first | (simp [tAt,isV];done) | (simp [tAt,isV];assumption)⟩
 intro f w5 hG hd;simp [knows,tAt,isV] at hd;simp only [puts,dsts,Act.put,hd,zB,zC,zA,zD,zE];clear hd;have g5:=gbT (gbD (gbR _ none)) hG;clear hG;have GZ:=zH (gbT G1.out g5);go_wp2_with fail;go_ret;exact ⟨retB (by rw [HF.out];rfl),GZ.out⟩
def Qd (k:KM) (P s a:Nat) (x:Int):AuM:=⟨shareL k.p x (tapeL s a P (k.al.length - 1)),shareL k.p ((x*fsum k.p k.al) % k.p) (tapeL s (a+(k.al.length - 1)) P (k.al.length - 1))⟩
attribute [local simp] depsC dstAt kAt bindE List.filter_cons Zy Zp Zq Zr Zz Yu
theorem ZH {lo:Nat} {m:AuM}:stable (autF lo m):=fun v w w' h hg=>h.grow hg
theorem autF.rd {lo:Nat} {m:AuM} {v:Value} {w:World} (h:autF lo m v w):AggR w (cauth m) v:=by
 obtain ⟨F,h1,_⟩:=h;exact AggO.rd h1
theorem Yq {w:World} {g:Nat} {T:TypeId} {x y:Value} (h:Blk w g T #[x,y]) (a b:Value):Blk (ZW w g 0 [a,b]) g T #[a,b]:=Zh h [a,b] rfl
def minusA (k:KM) (a b:AuM):AuM:=Zk k a (Ze k b (k.p - 1))
theorem add_len {xs ys:List Int} {p:Int}:(addS p xs ys).length≤xs.length:=by unfold addS;rw [List.length_zipWith];omega
theorem awf_no:awf noA:=⟨by simp [noA],by simp [noA]⟩
theorem XT {k:KM} {a:AuM} {x:Int} (h:awf a):awf (Ze k a x):=by
 unfold Ze
 split
 ·exact ⟨by rw [XJ];exact h.1,by rw [XJ];exact h.2⟩
 ·exact awf_no
theorem YY {k:KM} {a b:AuM} (h:awf a):awf (Zk k a b):=by
 unfold Zk
 split
 ·exact ⟨Nat.le_trans add_len h.1,Nat.le_trans add_len h.2⟩
 ·exact awf_no
theorem awf_const {k:KM} {a:AuM} {x:Int} (h:awf a):awf (ZM k a x):=by
 unfold ZM
 split
 ·exact ⟨by rw [cstS_len];exact h.1,Nat.le_trans add_len h.2⟩
 ·exact awf_no
set_option maxHeartbeats 2000000 in
set_option maxRecDepth 100000 in
theorem XG (k:KM) (a b:AuM) (kv av bv:Value) (w0:World) (h:AggR w0 (ckeys k) kv) (ha:AggR w0 (cauth a) av) (hb:AggR w0 (cauth b) bv) (wk:kwf k) (wa:awf a) (wb:awf b) (hp:1≤k.p) :
  Calls Tryz.prog 71 #[kv,av,bv] w0 fun e w'=>∃v,e=.returned v∧autF w0.heap.size (minusA k a b) v w'∧w0.grownBy w' none:=by
 obtain ⟨A,c,rfl,hc,hm,hI⟩:=ZK h;obtain ⟨Ba,da,Ca,fa,rfl,_,_,_,_,hSa,hMa⟩:=ZC ha;obtain ⟨Bb,db,Cb,fb,rfl,_,_,_,_,hSb,hMb⟩:=ZC hb;have hpw:=wk.1;obtain ⟨wp1,wp2⟩:=hpw;obtain ⟨w1,hw1⟩:∃x:World,(((w0.alloc (.cells #[.int .i64 k.p,.slice A k.al.length c] 34)).alloc (.cells #[.slice Ba a.sh.length da,.slice Ca a.mc.length fa] 80)).alloc (.cells #[.slice Bb b.sh.length db,.slice Cb b.mc.length fb] 80)).alloc (.cells #[.slice none 0 0,.slice none 0 0] 80)=x:=⟨_,rfl⟩;have G1:Hid (w0.grownBy w1 none):=by rw [← hw1];exact gbA (gbA (gbA (gbA (gbR _ _) _) _) _) _
 have z1:Hid (w1.heap.size=w0.heap.size+4):=by rw [← hw1];exact zH (by simp)
 have D0:Hid (Blk w1 w0.heap.size 34 #[.int .i64 k.p,.slice A k.al.length c]):=by rw [← hw1];exact (((Blk.new w0 _ _).grow (gbA (gbR _ _) _)).grow (gbA (gbR _ _) _)).grow (gbA (gbR _ _) _)
 have D1:Hid (Blk w1 (w0.heap.size+1) 80 #[.slice Ba a.sh.length da,.slice Ca a.mc.length fa]):=by rw [← hw1];exact ((Blk.new' _ _ _ _ (by simp)).grow (gbA (gbR _ _) _)).grow (gbA (gbR _ _) _)
 have D2:Hid (Blk w1 (w0.heap.size+1+1) 80 #[.slice Bb b.sh.length db,.slice Cb b.mc.length fb]):=by rw [← hw1];exact (Blk.new' _ _ _ _ (by simp)).grow (gbA (gbR _ _) _)
 have D3:Hid (Blk w1 (w0.heap.size+1+1+1) 80 #[.slice none 0 0,.slice none 0 0]):=by rw [← hw1];exact Blk.new' _ _ _ _ (by simp)
 have HK:=zH (AggR.grow h G1.out);have HAa:=zH (AggR.grow ha G1.out);have HAb:=zH (AggR.grow hb G1.out);have WK:=zH wk;have WA:=zH wa;have WB:=zH wb;clear h ha hb hI hSa hMa hSb hMb wk wa wb;have HFO:Hid (minusA k a b=Zk k a (Ze k b (k.p - 1))):=rfl
 go_enter Tryz.func71,Tryz.ntmps71
 go_wp2_with fail;clear hw1;obtain ⟨lo,hlo⟩:∃lo,w0.heap.size+4=lo:=⟨_,rfl⟩;obtain ⟨gR,hgR'⟩:∃g,w0.heap.size+1+1+1=g:=⟨_,rfl⟩;have hgR:gR<lo:=by omega
 have hwR:w0.heap.size≤gR:=by omega
 have hlz:lo≤w1.heap.size:=by have:=z1.out;omega
 rw [hgR'] at D3 ⊢
 refine Zg [.rd (.agg #[.int .i64 k.p,.slice A k.al.length c]),.rd (.agg #[.slice Ba a.sh.length da,.slice Ca a.mc.length fa]),.rd (.agg #[.int .i64 k.p,.slice A k.al.length c]),.rd (.agg #[.slice Bb b.sh.length db,.slice Cb b.mc.length fb]),.rd (.pointer (some ⟨w0.heap.size,0,none⟩)),.rd (.int .i64 k.p),.rd (.int .i64 (k.p - 1)),.fl (autF lo (Ze k b (k.p - 1))),.fl (autF lo (Zk k a (Ze k b (k.p - 1)))),.ch] (fun _=>False)
  [⟨[],fun _ w'=>w1.drew.grownBy w' none⟩,
   ⟨[],fun _ w'=>(∃A9 n9 c9 B9 k9 d9,autF lo (Zk k a (Ze k b (k.p - 1))) (.agg #[.slice A9 n9 c9,.slice B9 k9 d9]) w'∧Blk w' gR 80 #[.slice A9 n9 c9,.slice B9 k9 d9])∧Chg (fun y=>y=gR) w1.drew w'⟩]
  (by kernel_rfl) (by kernel_rfl) (by kernel_rfl) 1 (by kernel_rfl) ?_ (gbR _ _) rfl ?_ ?_
 ·have hst:Zn [⟨[],fun _ w'=>w1.drew.grownBy w' none⟩,
   ⟨[],fun _ w'=>(∃A9 n9 c9 B9 k9 d9,autF lo (Zk k a (Ze k b (k.p - 1))) (.agg #[.slice A9 n9 c9,.slice B9 k9 d9]) w'∧Blk w' gR 80 #[.slice A9 n9 c9,.slice B9 k9 d9])∧Chg (fun y=>y=gR) w1.drew w'⟩]:=by
   intro F hF;simp only [List.mem_cons,List.not_mem_nil,or_false] at hF
   rcases hF with rfl | rfl
   ·exact fun l w1 w2 h hg=>gbT h hg
   ·rintro l w1 w2 ⟨⟨A9,n9,c9,B9,k9,d9,h1,h2⟩,h3⟩ hg
    exact ⟨⟨A9,n9,c9,B9,k9,d9,h1.grow hg,h2.grow hg⟩,h3.trans (Chg.of hg (by simp))⟩
  simp only [flOk,true_and,and_true];exact ⟨⟨ZH,hst⟩,ZH,hst⟩
 ·simp only [hopsK,hopK,Kd.next,and_true]
  refine ⟨?_, ?_, ?_, ?_, ?_, ?_, ?_, ?_, ?_, ?_⟩;rotate_left 7
  ·intro f w4 hG hd
   have hg4:=gbT (gbD (gbR w1 none)) (chgF hG);have hz4:=hg4.size
   (try simp at hd)
   (first | simp [puts,dsts,Act.put,hd] | simp [puts,dsts,Act.put])
   clear hd;go_wp2_with fail;refine (XF k b (k.p - 1) _ _ w4 (AggR.grow HK.out hg4) (AggR.grow HAb.out hg4) WK.out WB.out).mono ?_;rintro e w6 ⟨v6,rfl,o6,g6⟩;have O6:=zH (autF.lo o6 (show lo≤w4.heap.size by omega));have G6:=zH g6;clear o6 g6;go_wp2_with fail;exact ⟨_,rfl,O6.out,G6.out⟩
  ·intro f w4 hG hd
   have hg4:=gbT (gbD (gbR w1 none)) (chgF hG);have hz4:=hg4.size
   (try simp at hd)
   obtain ⟨e1,e2,hA⟩:=hd;obtain ⟨A7,n7,c7,B7,k7,d7,e7⟩:=autF.form hA;rw [e7] at hA;have HA7:=zH (autF.rd hA);clear hA;simp [puts,dsts,Act.put,e1,e2,e7];clear e1 e2 e7;go_wp2_with fail;refine (Xq k a (Ze k b (k.p - 1)) _ _ _ w4 (AggR.grow HK.out hg4) (AggR.grow HAa.out hg4) HA7.out WK.out WA.out (XT WB.out)).mono ?_;rintro e w6 ⟨v6,rfl,o6,g6⟩;have O6:=zH (autF.lo o6 (show lo≤w4.heap.size by omega));have G6:=zH g6;clear o6 g6;go_wp2_with fail;exact ⟨_,rfl,O6.out,G6.out⟩
  ·intro f w4 hG hI hd
   have hI:w1.drew.grownBy w4 none:=hI;have hg4:=gbT (gbD (gbR w1 none)) hI
   (try simp at hd)
   have h1:=hd.1;obtain ⟨A9,n9,c9,B9,k9,d9,e9⟩:=autF.form h1;rw [e9] at h1;have R4:=(D3.out).grow hg4;have f0:=R4.frozen 0;have f1:=R4.frozen 1;have b0:=R4.cell 0;have b1:=R4.cell 1;simp at b0 b1;have RS:=zH (Yq R4 (.slice A9 n9 c9) (.slice B9 k9 d9));have CH:=Zc gR [.slice A9 n9 c9,.slice B9 k9 d9] 0 w4;have AS:=zH (h1.chg CH hgR);have CS:=zH ((Chg.of (S:=fun y=>y=gR) hI (by simp)).trans CH);clear R4 h1 hI CH hd;simp [puts,dsts,Act.put,e9];go_wp2_with fail;exact ⟨rfl,.bool false,⟨A9,n9,c9,B9,k9,d9,AS.out,RS.out⟩,CS.out⟩
  all_goals
   intro f w4 hG hd;have hg4:=gbT (gbD (gbR w1 none)) (chgF hG);have k0:=(D0.out.grow hg4).cell 0;have k1:=(D0.out.grow hg4).cell 1;have a0:=(D1.out.grow hg4).cell 0;have a1:=(D1.out.grow hg4).cell 1;have b0:=(D2.out.grow hg4).cell 0;have b1:=(D2.out.grow hg4).cell 1;simp at k0 k1 a0 a1 b0 b1
   (try simp at hd)
   (first | simp [puts,dsts,Act.put,hd] | simp [puts,dsts,Act.put])
   clear hd;go_wp2_with fail;exact ⟨rfl,rfl⟩
 intro f w9 hI hd;obtain ⟨⟨A9,n9,c9,B9,k9,d9,hAU,hBR⟩,hCZ⟩:=hI;have hCZ:=chgDr hCZ;simp only [puts,dsts,Act.put,zB,zC,zA,zD,zE];clear hd;have GZ:=zH (Zv G1.out hCZ hwR);go_wp2_with fail;refine Yo Tryz.results71 (by rfl) stAuth (cs:=#[.slice A9 n9 c9,.slice B9 k9 d9]) hBR (by rfl) (by rfl) ?_;exact ⟨_,rfl,by rw [HFO.out];exact autF.lo hAU (by omega),GZ.out⟩
end Go.Proofs.YthaadgdeadbhkaaGreat
