/-
 addAll of the program (printed by wip/gen_adds.py).
-/
import Derived.Test.YthaadgdeadbhkaaGreatMgFnExactCountOutcomes24
open Go.RowKit
set_option linter.unusedVariables false
set_option linter.unusedSimpArgs false
namespace Go.Proofs.YthaadgdeadbhkaaGreat
attribute [local simp] depsC dstAt kAt bindE List.filter_cons Zz Zq Zr Zs ZA ZW puts dsts Act.put
theorem addOk_eq {c:AM} {vs:List AuM} {i:Nat} {x y z:Int} (h:stAt c i=(x,y,z)):addOk c vs i=((x == 3)&&zeroA (getA vs i)&&!zeroA (getA vs y.toNat)&&!zeroA (getA vs z.toNat)):=by unfold addOk;rw [h]
set_option maxHeartbeats 4000000 in
set_option maxRecDepth 100000 in
theorem QC (m:EM) (g:Nat) (F:List Nat) (w:World) (h:SOF 58 (Zf m) g F w) (hok:AOk m.c) (hn:m.vs.length=m.c.st.length) (wk:kwf m.k) (wv:∀a∈m.vs,awf a) :
  Calls Tryz.prog 73 #[.pointer (some ⟨g,0,none⟩)] w fun e w'=>e=.returned (.tuple #[])∧∃F',SOF 58 (Zf { m with vs:=addsTo m.k m.c m.vs m.c.st.length }) g F' w'∧(∀x∈F',x∈F∨w.heap.size≤x)∧Chg (fun y=>y∈F) w w':=by
 obtain ⟨A,B,C,D,E,a',b,c,d,e,hB,hR⟩:=h.eng;have hgF:=h.out;have hgl:=h.ltg;have HS:=zH h;have HB:=zH hB;have OK:=zH hok;have WK:=zH wk;have WV:Hid (∀k,∀a∈addsTo m.k m.c m.vs k,awf a):=zH (fun k=>UL wv k);obtain ⟨n,hnn⟩:∃n,m.c.st.length=n:=⟨_,rfl⟩;have hn60:n≤60:=by have:=hok.few;omega
 have hvl:Hid (∀k,(addsTo m.k m.c m.vs k).length=n):=zH (fun k=>by rw [WS];omega);have LN:=zH hnn;have c3:=hB.cell 3;simp at c3;rw [hnn] at c3;clear h hB hok wk wv hn hnn hR
 go_enter Tryz.func73,Tryz.ntmps73
 go_wp2_with fail;clear c3
 go_loopw [10] (fun i wr=>∃(k:Nat) (F':List Nat),k≤n∧i=.int .i64 k∧Hid (SOF 58 (Zf { m with vs:=addsTo m.k m.c m.vs k }) g F' wr)∧Hid (∀x∈F',x∈F∨w.heap.size≤x)∧Hid (Chg (fun y=>y∈F) w wr)) (fun i _=>n - (intOf i).toNat)
 case atStart=>exact ⟨0,F,Nat.zero_le _,rfl,HS,zH (fun x hx=>.inl hx),zH (Chg.refl _ _)⟩
 case round =>
  obtain ⟨k,F',hk,rfl,SG,HL',HC'⟩:=hrel
  by_cases hlt:k<n
  ·have i1:(k:Int)<(n:Int):=by omega
   have hBr:=zH (HB.out.chg HC'.out hgF);have hAR:=(SG.out.is (us:=[_,_,_,_,_,_,_,_,_]) hBr.out).rd;obtain ⟨_,_,_,hvl',_,hR⟩:=EngR.of (m:={ m with vs:=addsTo m.k m.c m.vs k }) hAR;obtain ⟨D',d',F5,v5,f5,o5,m5,g5,lt5,_,up5⟩:=SG.out.val;have hlen:(addsTo m.k m.c m.vs k).length=n:=hvl.out k;rw [show (EM.vs { m with vs:=addsTo m.k m.c m.vs k })=addsTo m.k m.c m.vs k from rfl] at v5 o5 up5;rw [hlen] at v5 o5 up5;obtain ⟨gv,rfl,hgv⟩:=WU o5 (by omega);obtain ⟨b,o,x,y,z,rfl,hb,hx,q0,q1,q2⟩:=YI hR.stp (k:=k) (by rw [LN.out];exact hlt);have hst:stAt m.c k=(x,y,z):=by simp [stAt,zF,hx]
   obtain ⟨B0,d0,C0,f0,k0,k1,kf0,kf1,hk9⟩:=YK o5 (i:=k) (by omega);have HK:=zH hk9;have HST:=zH hst;have UP:=zH up5;have O5:=zH o5;have M5:=zH m5;have LT5:=zH lt5;have KY:=zH hR.ky;have kA:=hBr.out.cell 0;have kB:=hBr.out.cell 1;simp at kA kB;have HW:=zH (WV.out k);have HVS:=zH (addOk_eq (vs:=addsTo m.k m.c m.vs k) hst);have OPS:=zH (fun h3=>XB OK.out (k:=k) (by rw [LN.out];exact hlt) hst h3);obtain ⟨xk,hxk⟩:∃q,getA (addsTo m.k m.c m.vs k) k=q:=⟨_,rfl⟩;rw [hxk] at k0 k1 HK HVS;clear hx hk9 hst up5 o5 m5 lt5 hR hAR hvl' hBr;go_wp2_with fail;obtain ⟨wy,hwy⟩:∃q:World,wr.alloc (.cells #[.int .i64 x,.int .i64 y,.int .i64 z] 102)=q:=⟨_,rfl⟩;have GY:Hid (wr.grownBy wy none):=by rw [← hwy];exact gbA (gbR _ _) _
   have BS:Hid (Blk wy wr.heap.size 102 #[.int .i64 x,.int .i64 y,.int .i64 z]):=by rw [← hwy];exact Blk.new _ _ _
   rw [hwy];clear hwy q0 q1 q2;have s0:=BS.out.cell 0;have s1:=BS.out.cell 1;have s2:=BS.out.cell 2;simp at s0 s1 s2;have S0:=zH s0;have S1:=zH s1;have S2:=zH s2;have V5:=zH (gbk GY.out v5);have K0:=zH (gbk GY.out k0);have K1:=zH (gbk GY.out k1);have KA:=zH (gbk GY.out kA);have KB:=zH (gbk GY.out kB);clear s0 s1 s2 v5 k0 k1 kA kB
   cases h3:(x == 3)
   ·have hx3:¬x=3:=by simpa using h3
    rw [h3,Bool.false_and,Bool.false_and,Bool.false_and] at HVS;refine Zv [isV (.pointer (some ⟨wr.heap.size,0,none⟩)),isV (.int .i64 x),isV (.bool false),isV (.bool false),isV (undef),isV (undef),isV (undef),isV (undef),isV (undef),isV (undef),isV (undef),isV (undef),isV (.bool false),isV (.bool false),isV (undef),isV (undef),isV (undef),isV (undef),isV (undef),isV (undef),isV (undef),isV (undef),isV (undef),isV (undef),isV (.bool false),isV (.bool false),isV (undef),isV (undef),isV (undef),isV (undef),isV (undef),isV (undef),isV (undef),isV (undef),isV (undef),isV (undef),isV (.bool false)] (by kernel_rfl) (by kernel_rfl) (by kernel_rfl) (by simp [ZM,Zb]) ?_ ?_
    ·simp only [hops,and_true]
     refine ⟨?_, ?_, ?_, ?_, ?_, ?_, ?_, ?_, ?_, ?_, ?_, ?_, ?_, ?_, ?_, ?_, ?_, ?_, ?_, ?_, ?_, ?_, ?_, ?_, ?_, ?_, ?_, ?_, ?_, ?_, ?_, ?_, ?_, ?_, ?_, ?_, ?_⟩
     all_goals
      intro f w1 hG hd;have hg4:=gbT (gbD (gbR wy none)) hG;have k0:=gbk hg4 (S0.out);have k1:=gbk hg4 (S1.out);have k2:=gbk hg4 (S2.out);have k3:=gbk hg4 (V5.out);have k4:=gbk hg4 (K0.out);have k5:=gbk hg4 (K1.out);simp [deps,tAt,isV] at hd
      first | simp [hd] | simp
      clear hd;go_wp2_with fail;exact ⟨_,rfl,by with_reducible exact gbR _ _,by simp [tAt,isV]⟩
    intro f w5 hG hd;simp [knows,tAt,isV] at hd;simp only [puts,dsts,Act.put,hd,zB,zC,zA,zD,zE];clear hd;have g5:=gbT (gbD (gbR wy none)) hG;clear hG;have G5:=zH (gbT GY.out g5);have HN:Hid (addsTo m.k m.c m.vs (k+1)=addsTo m.k m.c m.vs k):=by unfold Hid;rw [addsTo,Yo,if_neg (by rw [HVS.out];decide)]
    clear g5;go_wp2_with fail
    go_roundw
    case rel=>exact ⟨k+1,F',by omega,by go_num,by rw [HN.out];exact zH (SG.out.grow G5.out),HL',zH (HC'.out.trans (Chg.of G5.out (by simp)))⟩
    case measure=>simp [intOf];omega
   have hx3:x=3:=by simpa using h3
   obtain ⟨a,b',hay,hbz,hak,hbk⟩:=OPS.out (.inl hx3);subst hay;subst hbz;subst hx3;rw [h3,Bool.true_and,Int.toNat_natCast,Int.toNat_natCast] at HVS;have i2:(a:Int)<(n:Int):=by omega
   have i3:(b':Int)<(n:Int):=by omega
   clear h3
   cases hzk:zeroA xk
   ·rw [hzk,Bool.false_and,Bool.false_and] at HVS
    refine Zv [isV (.pointer (some ⟨wr.heap.size,0,none⟩)),isV (.int .i64 3),isV (.bool true),isV (.bool true),isV (.pointer (some ⟨g,0,none⟩)),isV (.pointer (some ⟨g,0,none⟩)),isV (.pointer (some ⟨g,5,none⟩)),isV (.slice (some ⟨gv,0,none⟩) n d'),isV (.int .i64 k),isV (.pointer (some ⟨gv,k*2,none⟩)),isV (.agg #[.slice B0 xk.sh.length d0,.slice C0 xk.mc.length f0]),isV (.bool false),isV (.bool false),isV (.bool false),isV (undef),isV (undef),isV (undef),isV (undef),isV (undef),isV (undef),isV (undef),isV (undef),isV (undef),isV (undef),isV (.bool false),isV (.bool false),isV (undef),isV (undef),isV (undef),isV (undef),isV (undef),isV (undef),isV (undef),isV (undef),isV (undef),isV (undef),isV (.bool false)] (by kernel_rfl) (by kernel_rfl) (by kernel_rfl) (by simp [ZM,Zb]) ?_ ?_
    ·simp only [hops,and_true]
     refine ⟨?_, ?_, ?_, ?_, ?_, ?_, ?_, ?_, ?_, ?_, ?_, ?_, ?_, ?_, ?_, ?_, ?_, ?_, ?_, ?_, ?_, ?_, ?_, ?_, ?_, ?_, ?_, ?_, ?_, ?_, ?_, ?_, ?_, ?_, ?_, ?_, ?_⟩;rotate_left 11
     ·intro f w1 hG hd
      have hg4:=gbT (gbD (gbR wy none)) hG;simp [deps,tAt,isV] at hd
      first | simp [hd] | simp
      clear hd;go_wp2_with fail;refine (ZF xk _ w1 (AggR.grow HK.out (gbT GY.out hg4))).mono ?_;rintro e w6 ⟨rfl,hw⟩;rw [hzk];go_wp2_with fail;exact ⟨_,rfl,by first | with_reducible exact gbR _ _ | exact hw,by simp [tAt,isV]⟩
     all_goals
      intro f w1 hG hd;have hg4:=gbT (gbD (gbR wy none)) hG;have k0:=gbk hg4 (S0.out);have k1:=gbk hg4 (S1.out);have k2:=gbk hg4 (S2.out);have k3:=gbk hg4 (V5.out);have k4:=gbk hg4 (K0.out);have k5:=gbk hg4 (K1.out);simp [deps,tAt,isV] at hd
      first | simp [hd] | simp
      clear hd;go_wp2_with fail;exact ⟨_,rfl,by with_reducible exact gbR _ _,by simp [tAt,isV]⟩
    intro f w5 hG hd;simp [knows,tAt,isV] at hd;simp only [puts,dsts,Act.put,hd,zB,zC,zA,zD,zE];clear hd;have g5:=gbT (gbD (gbR wy none)) hG;clear hG;have G5:=zH (gbT GY.out g5);have HN:Hid (addsTo m.k m.c m.vs (k+1)=addsTo m.k m.c m.vs k):=by unfold Hid;rw [addsTo,Yo,if_neg (by rw [HVS.out];decide)]
    clear g5;go_wp2_with fail
    go_roundw
    case rel=>exact ⟨k+1,F',by omega,by go_num,by rw [HN.out];exact zH (SG.out.grow G5.out),HL',zH (HC'.out.trans (Chg.of G5.out (by simp)))⟩
    case measure=>simp [intOf];omega
   rw [hzk,Bool.true_and] at HVS;obtain ⟨B1,d1,C1,f1,a0,a1,_,_,ha9⟩:=YK O5.out (i:=a) (by omega);obtain ⟨xa,hxa⟩:∃q,getA (addsTo m.k m.c m.vs k) a=q:=⟨_,rfl⟩;rw [hxa] at a0 a1 ha9 HVS;have HA:=zH ha9;have A0:=zH (gbk GY.out a0);have A1:=zH (gbk GY.out a1);clear ha9 a0 a1
   cases hza:zeroA xa
   rotate_left
   ·rw [hza,Bool.not_true,Bool.false_and] at HVS
    refine Zv [isV (.pointer (some ⟨wr.heap.size,0,none⟩)),isV (.int .i64 3),isV (.bool true),isV (.bool true),isV (.pointer (some ⟨g,0,none⟩)),isV (.pointer (some ⟨g,0,none⟩)),isV (.pointer (some ⟨g,5,none⟩)),isV (.slice (some ⟨gv,0,none⟩) n d'),isV (.int .i64 k),isV (.pointer (some ⟨gv,k*2,none⟩)),isV (.agg #[.slice B0 xk.sh.length d0,.slice C0 xk.mc.length f0]),isV (.bool true),isV (.bool true),isV (.bool true),isV (.pointer (some ⟨g,0,none⟩)),isV (.pointer (some ⟨g,0,none⟩)),isV (.pointer (some ⟨g,5,none⟩)),isV (.slice (some ⟨gv,0,none⟩) n d'),isV (.pointer (some ⟨wr.heap.size,1,none⟩)),isV (.int .i64 a),isV (.pointer (some ⟨gv,a*2,none⟩)),isV (.agg #[.slice B1 xa.sh.length d1,.slice C1 xa.mc.length f1]),isV (.bool true),isV (.bool false),isV (.bool false),isV (.bool false),isV (undef),isV (undef),isV (undef),isV (undef),isV (undef),isV (undef),isV (undef),isV (undef),isV (undef),isV (undef),isV (.bool false)] (by kernel_rfl) (by kernel_rfl) (by kernel_rfl) (by simp [ZM,Zb]) ?_ ?_
    ·simp only [hops,and_true]
     refine ⟨?_, ?_, ?_, ?_, ?_, ?_, ?_, ?_, ?_, ?_, ?_, ?_, ?_, ?_, ?_, ?_, ?_, ?_, ?_, ?_, ?_, ?_, ?_, ?_, ?_, ?_, ?_, ?_, ?_, ?_, ?_, ?_, ?_, ?_, ?_, ?_, ?_⟩;rotate_left 11
     ·intro f w1 hG hd
      have hg4:=gbT (gbD (gbR wy none)) hG;simp [deps,tAt,isV] at hd
      first | simp [hd] | simp
      clear hd;go_wp2_with fail;refine (ZF xk _ w1 (AggR.grow HK.out (gbT GY.out hg4))).mono ?_;rintro e w6 ⟨rfl,hw⟩;rw [hzk];go_wp2_with fail;exact ⟨_,rfl,by first | with_reducible exact gbR _ _ | exact hw,by simp [tAt,isV]⟩
     rotate_left 10
     ·intro f w1 hG hd
      have hg4:=gbT (gbD (gbR wy none)) hG;simp [deps,tAt,isV] at hd
      first | simp [hd] | simp
      clear hd;go_wp2_with fail;refine (ZF xa _ w1 (AggR.grow HA.out (gbT GY.out hg4))).mono ?_;rintro e w6 ⟨rfl,hw⟩;rw [hza];go_wp2_with fail;exact ⟨_,rfl,by first | with_reducible exact gbR _ _ | exact hw,by simp [tAt,isV]⟩
     all_goals
      intro f w1 hG hd;have hg4:=gbT (gbD (gbR wy none)) hG;have k0:=gbk hg4 (S0.out);have k1:=gbk hg4 (S1.out);have k2:=gbk hg4 (S2.out);have k3:=gbk hg4 (V5.out);have k4:=gbk hg4 (K0.out);have k5:=gbk hg4 (K1.out);have k6:=gbk hg4 (A0.out);have k7:=gbk hg4 (A1.out);simp [deps,tAt,isV] at hd
      first | simp [hd] | simp
      clear hd;go_wp2_with fail;exact ⟨_,rfl,by with_reducible exact gbR _ _,by simp [tAt,isV]⟩
    intro f w5 hG hd;simp [knows,tAt,isV] at hd;simp only [puts,dsts,Act.put,hd,zB,zC,zA,zD,zE];clear hd;have g5:=gbT (gbD (gbR wy none)) hG;clear hG;have G5:=zH (gbT GY.out g5);have HN:Hid (addsTo m.k m.c m.vs (k+1)=addsTo m.k m.c m.vs k):=by unfold Hid;rw [addsTo,Yo,if_neg (by rw [HVS.out];decide)]
    clear g5;go_wp2_with fail
    go_roundw
    case rel=>exact ⟨k+1,F',by omega,by go_num,by rw [HN.out];exact zH (SG.out.grow G5.out),HL',zH (HC'.out.trans (Chg.of G5.out (by simp)))⟩
    case measure=>simp [intOf];omega
   rw [hza,Bool.not_false,Bool.true_and] at HVS;obtain ⟨B2,d2,C2,f2,b0,b1,_,_,hb9⟩:=YK O5.out (i:=b') (by omega);obtain ⟨xb,hxb⟩:∃q,getA (addsTo m.k m.c m.vs k) b'=q:=⟨_,rfl⟩;rw [hxb] at b0 b1 hb9 HVS;have HB2:=zH hb9;have B00:=zH (gbk GY.out b0);have B01:=zH (gbk GY.out b1);clear hb9 b0 b1
   cases hzb:zeroA xb
   rotate_left
   ·rw [hzb,Bool.not_true] at HVS
    refine Zv [isV (.pointer (some ⟨wr.heap.size,0,none⟩)),isV (.int .i64 3),isV (.bool true),isV (.bool true),isV (.pointer (some ⟨g,0,none⟩)),isV (.pointer (some ⟨g,0,none⟩)),isV (.pointer (some ⟨g,5,none⟩)),isV (.slice (some ⟨gv,0,none⟩) n d'),isV (.int .i64 k),isV (.pointer (some ⟨gv,k*2,none⟩)),isV (.agg #[.slice B0 xk.sh.length d0,.slice C0 xk.mc.length f0]),isV (.bool true),isV (.bool true),isV (.bool true),isV (.pointer (some ⟨g,0,none⟩)),isV (.pointer (some ⟨g,0,none⟩)),isV (.pointer (some ⟨g,5,none⟩)),isV (.slice (some ⟨gv,0,none⟩) n d'),isV (.pointer (some ⟨wr.heap.size,1,none⟩)),isV (.int .i64 a),isV (.pointer (some ⟨gv,a*2,none⟩)),isV (.agg #[.slice B1 xa.sh.length d1,.slice C1 xa.mc.length f1]),isV (.bool false),isV (.bool true),isV (.bool true),isV (.bool true),isV (.pointer (some ⟨g,0,none⟩)),isV (.pointer (some ⟨g,0,none⟩)),isV (.pointer (some ⟨g,5,none⟩)),isV (.slice (some ⟨gv,0,none⟩) n d'),isV (.pointer (some ⟨wr.heap.size,2,none⟩)),isV (.int .i64 b'),isV (.pointer (some ⟨gv,b'*2,none⟩)),isV (.agg #[.slice B2 xb.sh.length d2,.slice C2 xb.mc.length f2]),isV (.bool true),isV (.bool false),isV (.bool false)] (by kernel_rfl) (by kernel_rfl) (by kernel_rfl) (by simp [ZM,Zb]) ?_ ?_
    ·simp only [hops,and_true]
     refine ⟨?_, ?_, ?_, ?_, ?_, ?_, ?_, ?_, ?_, ?_, ?_, ?_, ?_, ?_, ?_, ?_, ?_, ?_, ?_, ?_, ?_, ?_, ?_, ?_, ?_, ?_, ?_, ?_, ?_, ?_, ?_, ?_, ?_, ?_, ?_, ?_, ?_⟩;rotate_left 11
     ·intro f w1 hG hd
      have hg4:=gbT (gbD (gbR wy none)) hG;simp [deps,tAt,isV] at hd
      first | simp [hd] | simp
      clear hd;go_wp2_with fail;refine (ZF xk _ w1 (AggR.grow HK.out (gbT GY.out hg4))).mono ?_;rintro e w6 ⟨rfl,hw⟩;rw [hzk];go_wp2_with fail;exact ⟨_,rfl,by first | with_reducible exact gbR _ _ | exact hw,by simp [tAt,isV]⟩
     rotate_left 10
     ·intro f w1 hG hd
      have hg4:=gbT (gbD (gbR wy none)) hG;simp [deps,tAt,isV] at hd
      first | simp [hd] | simp
      clear hd;go_wp2_with fail;refine (ZF xa _ w1 (AggR.grow HA.out (gbT GY.out hg4))).mono ?_;rintro e w6 ⟨rfl,hw⟩;rw [hza];go_wp2_with fail;exact ⟨_,rfl,by first | with_reducible exact gbR _ _ | exact hw,by simp [tAt,isV]⟩
     rotate_left 11
     ·intro f w1 hG hd
      have hg4:=gbT (gbD (gbR wy none)) hG;simp [deps,tAt,isV] at hd
      first | simp [hd] | simp
      clear hd;go_wp2_with fail;refine (ZF xb _ w1 (AggR.grow HB2.out (gbT GY.out hg4))).mono ?_;rintro e w6 ⟨rfl,hw⟩;rw [hzb];go_wp2_with fail;exact ⟨_,rfl,by first | with_reducible exact gbR _ _ | exact hw,by simp [tAt,isV]⟩
     all_goals
      intro f w1 hG hd;have hg4:=gbT (gbD (gbR wy none)) hG;have k0:=gbk hg4 (S0.out);have k1:=gbk hg4 (S1.out);have k2:=gbk hg4 (S2.out);have k3:=gbk hg4 (V5.out);have k4:=gbk hg4 (K0.out);have k5:=gbk hg4 (K1.out);have k6:=gbk hg4 (A0.out);have k7:=gbk hg4 (A1.out);have k8:=gbk hg4 (B00.out);have k9:=gbk hg4 (B01.out);simp [deps,tAt,isV] at hd
      first | simp [hd] | simp
      clear hd;go_wp2_with fail;exact ⟨_,rfl,by with_reducible exact gbR _ _,by simp [tAt,isV]⟩
    intro f w5 hG hd;simp [knows,tAt,isV] at hd;simp only [puts,dsts,Act.put,hd,zB,zC,zA,zD,zE];clear hd;have g5:=gbT (gbD (gbR wy none)) hG;clear hG;have G5:=zH (gbT GY.out g5);have HN:Hid (addsTo m.k m.c m.vs (k+1)=addsTo m.k m.c m.vs k):=by unfold Hid;rw [addsTo,Yo,if_neg (by rw [HVS.out];decide)]
    clear g5;go_wp2_with fail
    go_roundw
    case rel=>exact ⟨k+1,F',by omega,by go_num,by rw [HN.out];exact zH (SG.out.grow G5.out),HL',zH (HC'.out.trans (Chg.of G5.out (by simp)))⟩
    case measure=>simp [intOf];omega
   rw [hzb,Bool.not_false] at HVS
   have HYES:Hid (addsTo m.k m.c m.vs (k+1)=(addsTo m.k m.c m.vs k).set k (ZD m.k xa xb)):=by
    unfold Hid;rw [addsTo,Yo,if_pos HVS.out,HST.out]
    show _=_
    simp only [Int.toNat_natCast];rw [hxa,hxb]
   have WA:Hid (awf xa):=by rw [← hxa];exact zH (KU HW.out a)
   have WB:Hid (awf xb):=by rw [← hxb];exact zH (KU HW.out b')
   refine Zv [isV (.pointer (some ⟨wr.heap.size,0,none⟩)),isV (.int .i64 3),isV (.bool true),isV (.bool true),isV (.pointer (some ⟨g,0,none⟩)),isV (.pointer (some ⟨g,0,none⟩)),isV (.pointer (some ⟨g,5,none⟩)),isV (.slice (some ⟨gv,0,none⟩) n d'),isV (.int .i64 k),isV (.pointer (some ⟨gv,k*2,none⟩)),isV (.agg #[.slice B0 xk.sh.length d0,.slice C0 xk.mc.length f0]),isV (.bool true),isV (.bool true),isV (.bool true),isV (.pointer (some ⟨g,0,none⟩)),isV (.pointer (some ⟨g,0,none⟩)),isV (.pointer (some ⟨g,5,none⟩)),isV (.slice (some ⟨gv,0,none⟩) n d'),isV (.pointer (some ⟨wr.heap.size,1,none⟩)),isV (.int .i64 a),isV (.pointer (some ⟨gv,a*2,none⟩)),isV (.agg #[.slice B1 xa.sh.length d1,.slice C1 xa.mc.length f1]),isV (.bool false),isV (.bool true),isV (.bool true),isV (.bool true),isV (.pointer (some ⟨g,0,none⟩)),isV (.pointer (some ⟨g,0,none⟩)),isV (.pointer (some ⟨g,5,none⟩)),isV (.slice (some ⟨gv,0,none⟩) n d'),isV (.pointer (some ⟨wr.heap.size,2,none⟩)),isV (.int .i64 b'),isV (.pointer (some ⟨gv,b'*2,none⟩)),isV (.agg #[.slice B2 xb.sh.length d2,.slice C2 xb.mc.length f2]),isV (.bool false),isV (.bool true),isV (.bool true)] (by kernel_rfl) (by kernel_rfl) (by kernel_rfl) (by simp [ZM,Zb]) ?_ ?_
   ·simp only [hops,and_true]
    refine ⟨?_, ?_, ?_, ?_, ?_, ?_, ?_, ?_, ?_, ?_, ?_, ?_, ?_, ?_, ?_, ?_, ?_, ?_, ?_, ?_, ?_, ?_, ?_, ?_, ?_, ?_, ?_, ?_, ?_, ?_, ?_, ?_, ?_, ?_, ?_, ?_, ?_⟩;rotate_left 11
    ·intro f w1 hG hd
     have hg4:=gbT (gbD (gbR wy none)) hG;simp [deps,tAt,isV] at hd
     first | simp [hd] | simp
     clear hd;go_wp2_with fail;refine (ZF xk _ w1 (AggR.grow HK.out (gbT GY.out hg4))).mono ?_;rintro e w6 ⟨rfl,hw⟩;rw [hzk];go_wp2_with fail;exact ⟨_,rfl,by first | with_reducible exact gbR _ _ | exact hw,by simp [tAt,isV]⟩
    rotate_left 10
    ·intro f w1 hG hd
     have hg4:=gbT (gbD (gbR wy none)) hG;simp [deps,tAt,isV] at hd
     first | simp [hd] | simp
     clear hd;go_wp2_with fail;refine (ZF xa _ w1 (AggR.grow HA.out (gbT GY.out hg4))).mono ?_;rintro e w6 ⟨rfl,hw⟩;rw [hza];go_wp2_with fail;exact ⟨_,rfl,by first | with_reducible exact gbR _ _ | exact hw,by simp [tAt,isV]⟩
    rotate_left 11
    ·intro f w1 hG hd
     have hg4:=gbT (gbD (gbR wy none)) hG;simp [deps,tAt,isV] at hd
     first | simp [hd] | simp
     clear hd;go_wp2_with fail;refine (ZF xb _ w1 (AggR.grow HB2.out (gbT GY.out hg4))).mono ?_;rintro e w6 ⟨rfl,hw⟩;rw [hzb];go_wp2_with fail;exact ⟨_,rfl,by first | with_reducible exact gbR _ _ | exact hw,by simp [tAt,isV]⟩
    all_goals
     intro f w1 hG hd;have hg4:=gbT (gbD (gbR wy none)) hG;have k0:=gbk hg4 (S0.out);have k1:=gbk hg4 (S1.out);have k2:=gbk hg4 (S2.out);have k3:=gbk hg4 (V5.out);have k4:=gbk hg4 (K0.out);have k5:=gbk hg4 (K1.out);have k6:=gbk hg4 (A0.out);have k7:=gbk hg4 (A1.out);have k8:=gbk hg4 (B00.out);have k9:=gbk hg4 (B01.out);simp [deps,tAt,isV] at hd
     first | simp [hd] | simp
     clear hd;go_wp2_with fail;exact ⟨_,rfl,by with_reducible exact gbR _ _,by simp [tAt,isV]⟩
   intro f w5 hG hd;simp [knows,tAt,isV] at hd;simp only [puts,dsts,Act.put,hd,zB,zC,zA,zD,zE];clear hd;have g5:=gbT (gbD (gbR wy none)) hG;clear hG;have GZ:=zH (gbT GY.out g5);have S1':=zH (gbk g5 S1.out);have S2':=zH (gbk g5 S2.out);have V5':=zH (gbk g5 V5.out);have A0':=zH (gbk g5 A0.out);have A1':=zH (gbk g5 A1.out);have B00':=zH (gbk g5 B00.out);have B01':=zH (gbk g5 B01.out);have KA':=zH (gbk g5 KA.out);have KB':=zH (gbk g5 KB.out);clear g5 S0 S1 S2 V5 K0 K1 A0 A1 B00 B01 KA KB;go_wp2_with fail
   refine Zg [.rd (.pointer (some ⟨g,0,none⟩)),.rd (.pointer (some ⟨g,0,none⟩)),.rd (.pointer (some ⟨g,5,none⟩)),.rd (.slice (some ⟨gv,0,none⟩) n d'),.rd (.int .i64 k),.rd (.pointer (some ⟨g,0,none⟩)),.rd (.pointer (some ⟨g,0,none⟩)),.rd (.pointer (some ⟨g,0,none⟩)),.rd (.agg #[.int .i64 m.k.p,.slice A m.k.al.length a']),.rd (.pointer (some ⟨g,0,none⟩)),.rd (.pointer (some ⟨g,0,none⟩)),.rd (.pointer (some ⟨g,5,none⟩)),.rd (.slice (some ⟨gv,0,none⟩) n d'),.rd (.pointer (some ⟨wr.heap.size,1,none⟩)),.rd (.int .i64 a),.rd (.pointer (some ⟨gv,a*2,none⟩)),.rd (.agg #[.slice B1 xa.sh.length d1,.slice C1 xa.mc.length f1]),.rd (.pointer (some ⟨g,0,none⟩)),.rd (.pointer (some ⟨g,0,none⟩)),.rd (.pointer (some ⟨g,5,none⟩)),.rd (.slice (some ⟨gv,0,none⟩) n d'),.rd (.pointer (some ⟨wr.heap.size,2,none⟩)),.rd (.int .i64 b'),.rd (.pointer (some ⟨gv,b'*2,none⟩)),.rd (.agg #[.slice B2 xb.sh.length d2,.slice C2 xb.mc.length f2]),.fl (autF wr.heap.size (ZD m.k xa xb)),.rd (.pointer (some ⟨gv,k*2,none⟩)),.ch] (fun _=>False)
    [⟨[],fun _ w'=>w5.drew.grownBy w' none⟩,
     ⟨[],fun _ w'=>∃F'',SOF 58 (Zf { m with vs:=(addsTo m.k m.c m.vs k).set k (ZD m.k xa xb) }) g F'' w'∧(∀x∈F'',x∈F'∨wr.heap.size≤x)∧Chg (fun y=>y∈F5) wr w'⟩]
    (by kernel_rfl) (by kernel_rfl) (by kernel_rfl) 1 (by kernel_rfl) ?_ (gbR _ _) rfl ?_ ?_
   ·have hst:Zw [⟨[],fun _ w'=>w5.drew.grownBy w' none⟩,⟨[],fun _ w'=>∃F'',SOF 58 (Zf { m with vs:=(addsTo m.k m.c m.vs k).set k (ZD m.k xa xb) }) g F'' w'∧(∀x∈F'',x∈F'∨wr.heap.size≤x)∧Chg (fun y=>y∈F5) wr w'⟩]:=by
     refine Zc (fun l w1 w2 h hg=>gbT h hg) ?_;exact Zc (Zo fun l w1 w2 ⟨F'',h1,h2,h3⟩ hg=>⟨F'',h1.grow hg,h2,h3.trans (Chg.of hg (by simp))⟩) ZX
    simp only [flOk,true_and,and_true];exact ⟨ZR,hst⟩
   ·simp only [hopsK,hopK,Kd.next,and_true]
    refine ⟨?_, ?_, ?_, ?_, ?_, ?_, ?_, ?_, ?_, ?_, ?_, ?_, ?_, ?_, ?_, ?_, ?_, ?_, ?_, ?_, ?_, ?_, ?_, ?_, ?_, ?_, ?_, ?_⟩;rotate_left 25
    ·intro f w4 hG hd
     have hg4:=gbT (gbD (gbR w5 none)) (chgF hG);have hz4:=hg4.size
     (try simp at hd)
     (first | simp [hd] | simp)
     clear hd;go_wp2_with fail;have gz:=gbT GZ.out hg4;refine (XO m.k xa xb _ _ _ w4 (KY.out.grow gz) (HA.out.grow gz) (HB2.out.grow gz) WK.out WA.out WB.out).mono ?_;rintro e w6 ⟨v6,rfl,o6,g6⟩;have O6:=zH (autF.lo o6 gz.size);have G6:=zH g6;clear o6 g6 gz;go_wp2_with fail;exact ⟨_,rfl,O6.out,G6.out⟩
    rotate_left 1
    ·intro f w4 hG hI hd
     have hg4:=gbT (gbD (gbR w5 none)) (chgF hG);have hz4:=hg4.size;have hI:w5.drew.grownBy w4 none:=hI
     (try simp at hd)
     obtain ⟨e78,h77,_⟩:=hd;obtain ⟨A9,n9,c9,B9,q9,d9,Fx,e77,hx,lx⟩:=autF.own h77;have gz:=gbT GZ.out hg4;have O4:=Zi _ O5.out gz;obtain ⟨X0,x0,X1,x1,y0,y1,z0,z1,_⟩:=YK O4 (i:=k) (by omega);obtain ⟨F5',r1,r2⟩:=XZ O4 (i:=k) (by omega) hx (fun y hy hy'=>by have:=lx y hy;have:=LT5.out y hy';omega);have hch:Chg (fun y=>y∈F5) wr ((w4.setCell ⟨gv,k*2,none⟩ (.slice A9 n9 c9)).setCell ⟨gv,k*2+1,none⟩ (.slice B9 q9 d9)):=(Chg.of gz (by simp)).trans (((chgS w4 gv (k*2) _).trans (chgS _ gv (k*2+1) _)).mono (fun y hy=>by rw [hy];exact hgv));obtain ⟨F'',t1,t2⟩:=UP.out _ _ F5' hch r1 (fun y hy=>(r2 y hy).imp id (lx y));simp [puts,dsts,Act.put,e77,e78];go_wp2_with fail;exact ⟨rfl,.bool false,F'',t1,t2,hch⟩
    all_goals
     intro f w4 hG hd;have hg4:=gbT (gbD (gbR w5 none)) (chgF hG);have k0:=gbk hg4 (S1'.out);have k1:=gbk hg4 (S2'.out);have k2:=gbk hg4 (V5'.out);have k3:=gbk hg4 (A0'.out);have k4:=gbk hg4 (A1'.out);have k5:=gbk hg4 (B00'.out);have k6:=gbk hg4 (B01'.out);have k7:=gbk hg4 (KA'.out);have k8:=gbk hg4 (KB'.out)
     (try simp at hd)
     (first | simp [hd] | simp)
     clear hd;go_wp2_with fail;exact ⟨rfl,rfl⟩
   intro f w8 hI hd;simp only [puts,dsts,Act.put,zB,zC,zA,zD,zE];obtain ⟨F'',h1,h2,h3⟩:=hI;have J1:=zH h1;have J2:=zH h2;have J3:=zH h3;clear hd h1 h2 h3 S1' S2' V5' A0' A1' B00' B01' KA' KB';go_wp2_with fail
   go_roundw
   case rel =>
    refine ⟨k+1,F'',by omega,by go_num,by rw [HYES.out];exact J1,zH (fun x hx => ?_),zH (HC'.out.join J3.out (fun y hy=>HL'.out y (M5.out y hy)))⟩
    rcases J2.out x hx with h6 | h6
    ·exact HL'.out x h6
    ·exact .inr (Nat.le_trans HC'.out.size h6)
   case measure=>simp [intOf];omega
  ·have hkn:k=n:=by omega
   subst hkn;go_wp2_with fail;refine bodyPost_end (results_none rfl _ _ _) rfl ?_;exact ⟨rfl,F',by rw [LN.out];exact SG.out,HL'.out,HC'.out⟩
end Go.Proofs.YthaadgdeadbhkaaGreat
namespace Go.Proofs.YthaadgdeadbhkaaGreat
attribute [local simp] puts dsts Act.put
def agC (i:Nat):Value→Value
 | .agg cs=>cs.getD i undef
 | _=>undef
def s3A:Value→Option Addr
 | .slice A _ _=>A
 | _=>none
def s3N:Value→Nat
 | .slice _ n _=>n
 | _=>0
def s3C:Value→Nat
 | .slice _ _ c=>c
 | _=>0
theorem autF.eq {lo:Nat} {m:AuM} {v:Value} {w:World} (h:autF lo m v w):v=.agg #[.slice (s3A (agC 0 v)) (s3N (agC 0 v)) (s3C (agC 0 v)),.slice (s3A (agC 1 v)) (s3N (agC 1 v)) (s3C (agC 1 v))]:=by
 obtain ⟨A,n,c,B,k,d,rfl⟩:=h.form;rfl
def rb17 (k:KM) (xa xb:AuM) (tx:TrM) (D1 E1:Int):Bool:=!Ye k D1 (minusA k xa tx.a)||!Ye k E1 (minusA k xb tx.b)
set_option maxHeartbeats 20000000 in
set_option maxRecDepth 1000000 in
theorem reg17_c (k:KM) (xa xb:AuM) (tx:TrM) (D1 E1:Int) (A Ba Ca Bb Cb T0 T1 T2 T3 T4 T5:Option Addr) (na ca da fa db fb d0 d1 d2 d3 d4 d5 g9 g13 g14 g15 gO:Nat) (wx:World)
  (K9:Blk wx g9 34 #[.int .i64 k.p,.slice A na ca]) (B13:Blk wx g13 82 #[.slice T0 tx.a.sh.length d0,.slice T1 tx.a.mc.length d1,.slice T2 tx.b.sh.length d2,.slice T3 tx.b.mc.length d3,.slice T4 tx.c.sh.length d4,.slice T5 tx.c.mc.length d5])
  (B14:Blk wx g14 80 #[.slice Ba xa.sh.length da,.slice Ca xa.mc.length fa]) (B15:Blk wx g15 80 #[.slice Bb xb.sh.length db,.slice Cb xb.mc.length fb]) (BO:Blk wx gO 104 #[.int .i64 D1,.int .i64 E1])
  (hk:AggR wx (ckeys k) (.agg #[.int .i64 k.p,.slice A na ca])) (hxa:AggR wx (cauth xa) (.agg #[.slice Ba xa.sh.length da,.slice Ca xa.mc.length fa])) (hxb:AggR wx (cauth xb) (.agg #[.slice Bb xb.sh.length db,.slice Cb xb.mc.length fb])) (ht:TrC wx tx T0 T1 T2 T3 T4 T5 d0 d1 d2 d3 d4 d5)
  (wk:kwf k) (wxa:awf xa) (wxb:awf xb) (wx_:twf tx) (hp1:1≤k.p)
  (Q:Exit→Act→World→Prop) (s0 s1 s2 s3 s4 s5 s6 s7 s8 s10 s11 s12 s17 s18 s19 s20 s21 s22 s23 s24 s25 s26 s27 s28 s29 s30 s31 s32 s33 s34 s35 s36 s37 s38 s39 s40 s41 s42 s43 s44 s45 s46 s47 s48 s49 s50 s51 s52 s53 s54 s55 s56 s57 s58 s59 s60 s61 s62 s63 s64 s65 s66 s67 s68 s69 s70 s71 s72 s73 s74 s75 s76 s77 s78 s79 s80 s81 s82 s83 s84 s85 s86 s87 s88 s89 s90 s91 s92 s93 s94 s95 s96 s97 s98 s99 s100 s101 s102 s103 s104 s105 s106 s107 s108 s109 s110 s111 s112 s113 s114 s115 s116 s117 s118 s119 s120 s121 s122 s123 s124 s125 s126 s127 s128 s129 s130 s131 s132 s133 s134 s135 s136 s137 s138 s139:Value)
  (hQ:∀(v102 v103 v104 v105 v106 v107 v108 v109 v110 v111 v112 v113 v114 v115 v116 v117 v118 v119 v120 v121 v122:Value) (w':World),wx.grownBy w' none→Q .normal (⟨List.toArray (s0 :: s1 :: s2 :: s3 :: s4 :: s5 :: s6 :: s7 :: s8 :: (.pointer (some ⟨g9,0,none⟩)) :: s10 :: s11 :: s12 :: (.pointer (some ⟨g13,0,none⟩)) :: (.pointer (some ⟨g14,0,none⟩)) :: (.pointer (some ⟨g15,0,none⟩)) :: (.pointer (some ⟨gO,0,none⟩)) :: s17 :: s18 :: s19 :: s20 :: s21 :: s22 :: s23 :: s24 :: s25 :: s26 :: s27 :: s28 :: s29 :: s30 :: s31 :: s32 :: s33 :: s34 :: s35 :: s36 :: s37 :: s38 :: s39 :: s40 :: s41 :: s42 :: s43 :: s44 :: s45 :: s46 :: s47 :: s48 :: s49 :: s50 :: s51 :: s52 :: s53 :: s54 :: s55 :: s56 :: s57 :: s58 :: s59 :: s60 :: s61 :: s62 :: s63 :: s64 :: s65 :: s66 :: s67 :: s68 :: s69 :: s70 :: s71 :: s72 :: s73 :: s74 :: s75 :: s76 :: s77 :: s78 :: s79 :: s80 :: s81 :: s82 :: s83 :: s84 :: s85 :: s86 :: s87 :: s88 :: s89 :: s90 :: s91 :: s92 :: s93 :: s94 :: s95 :: s96 :: s97 :: s98 :: s99 :: s100 :: s101 :: v102 :: v103 :: v104 :: v105 :: v106 :: v107 :: v108 :: v109 :: v110 :: v111 :: v112 :: v113 :: v114 :: v115 :: v116 :: v117 :: v118 :: v119 :: v120 :: v121 :: v122 :: (.bool (rb17 k xa xb tx D1 E1)) :: s124 :: s125 :: s126 :: s127 :: s128 :: s129 :: s130 :: s131 :: s132 :: s133 :: s134 :: s135 :: s136 :: s137 :: s138 :: s139 :: []),[]⟩:Act) w') :
  Code.wp Tryz.prog (regNo Tryz.f27 17) Q (⟨List.toArray (s0 :: s1 :: s2 :: s3 :: s4 :: s5 :: s6 :: s7 :: s8 :: (.pointer (some ⟨g9,0,none⟩)) :: s10 :: s11 :: s12 :: (.pointer (some ⟨g13,0,none⟩)) :: (.pointer (some ⟨g14,0,none⟩)) :: (.pointer (some ⟨g15,0,none⟩)) :: (.pointer (some ⟨gO,0,none⟩)) :: s17 :: s18 :: s19 :: s20 :: s21 :: s22 :: s23 :: s24 :: s25 :: s26 :: s27 :: s28 :: s29 :: s30 :: s31 :: s32 :: s33 :: s34 :: s35 :: s36 :: s37 :: s38 :: s39 :: s40 :: s41 :: s42 :: s43 :: s44 :: s45 :: s46 :: s47 :: s48 :: s49 :: s50 :: s51 :: s52 :: s53 :: s54 :: s55 :: s56 :: s57 :: s58 :: s59 :: s60 :: s61 :: s62 :: s63 :: s64 :: s65 :: s66 :: s67 :: s68 :: s69 :: s70 :: s71 :: s72 :: s73 :: s74 :: s75 :: s76 :: s77 :: s78 :: s79 :: s80 :: s81 :: s82 :: s83 :: s84 :: s85 :: s86 :: s87 :: s88 :: s89 :: s90 :: s91 :: s92 :: s93 :: s94 :: s95 :: s96 :: s97 :: s98 :: s99 :: s100 :: s101 :: s102 :: s103 :: s104 :: s105 :: s106 :: s107 :: s108 :: s109 :: s110 :: s111 :: s112 :: s113 :: s114 :: s115 :: s116 :: s117 :: s118 :: s119 :: s120 :: s121 :: s122 :: s123 :: s124 :: s125 :: s126 :: s127 :: s128 :: s129 :: s130 :: s131 :: s132 :: s133 :: s134 :: s135 :: s136 :: s137 :: s138 :: s139 :: []),[]⟩:Act) wx:=by
 conv=>arg 2;whnf
 have HQ:=zH hQ;have HK:=zH hk;have HXA:=zH hxa;have HXB:=zH hxb;have HT:=zH ht;have WK:=zH wk;have WXA:=zH wxa;have WXB:=zH wxb;have WX:=zH wx_;have kx0:=zH (K9.cell 0);have kx1:=zH (K9.cell 1);have dx0:=zH (BO.cell 0);have ex0:=zH (BO.cell 1);have ax0:=zH (B14.cell 0);have ax1:=zH (B14.cell 1);have bx0:=zH (B15.cell 0);have bx1:=zH (B15.cell 1);have tx0:=zH (B13.cell 0);have tx1:=zH (B13.cell 1);have tx2:=zH (B13.cell 2);have tx3:=zH (B13.cell 3);simp only [List.getElem?_toArray,List.getElem?_cons_succ,List.getElem?_cons_zero] at kx0 kx1 dx0 ex0 ax0 ax1 bx0 bx1 tx0 tx1 tx2 tx3;have QQA:Hid (awf (minusA k xa tx.a)):=zH (Xn wxa);have QQB:Hid (awf (minusA k xb tx.b)):=zH (Xn wxb);have HB:Hid (rb17 k xa xb tx D1 E1=(!Ye k D1 (minusA k xa tx.a)||!Ye k E1 (minusA k xb tx.b))):=rfl;clear hQ hk hxa hxb ht wk wxa wxb wx_ K9 BO B13 B14 B15
 cases hm1:Ye k D1 (minusA k xa tx.a)
 ·have M1:=zH hm1
  rw [hm1,Bool.not_false,Bool.true_or] at HB;rw [HB.out] at HQ;clear hm1;refine Zv [isV (.agg #[.int .i64 k.p,.slice A na ca]),isV (.pointer (some ⟨gO,0,none⟩)),isV (.int .i64 D1),isV (.agg #[.int .i64 k.p,.slice A na ca]),isV (.agg #[.slice Ba xa.sh.length da,.slice Ca xa.mc.length fa]),isV (.pointer (some ⟨g13,0,none⟩)),isV (.agg #[.slice T0 tx.a.sh.length d0,.slice T1 tx.a.mc.length d1]),autF wx.heap.size (minusA k xa tx.a),isV (.bool false),isV (.bool true),isV (.bool true),isV (undef),isV (undef),isV (undef),isV (undef),isV (undef),isV (undef),isV (undef),isV (undef),isV (undef),isV (undef),isV (.bool true)] (by kernel_rfl) (by kernel_rfl) (by kernel_rfl) (Ze (Zb _) (Ze (Zb _) (Ze (Zb _) (Ze (Zb _) (Ze (Zb _) (Ze (Zb _) (Ze (Zb _) (Ze (ZR) (Ze (Zb _) (Ze (Zb _) (Ze (Zb _) (Ze (Zb _) (Ze (Zb _) (Ze (Zb _) (Ze (Zb _) (Ze (Zb _) (Ze (Zb _) (Ze (Zb _) (Ze (Zb _) (Ze (Zb _) (Ze (Zb _) (Ze (Zb _) Js)))))))))))))))))))))) ?_ ?_
  ·simp only [hops,and_true]
   refine ⟨?_, ?_, ?_, ?_, ?_, ?_, ?_, ?_, ?_, ?_, ?_, ?_, ?_, ?_, ?_, ?_, ?_, ?_, ?_, ?_, ?_, ?_⟩;rotate_left 7
   ·intro f w1 hG hd
    have hg4:=gbT (gbD (gbR wx none)) hG;simp [deps,tAt,isV] at hd
    first | simp [hd] | simp
    clear hd;go_wp2_with fail;refine (Wk k xa tx.a _ _ _ w1 (HK.out.grow hg4) (HXA.out.grow hg4) (HT.out.xa.grow hg4) WK.out WXA.out WX.out.1 hp1).mono ?_;rintro e' w6 ⟨v6,rfl,o6,g6⟩;have O6:=zH (autF.lo o6 hg4.size);have G6':=zH g6;clear o6 g6;go_wp2_with fail;exact ⟨_,rfl,G6'.out,O6.out⟩
   ·intro f w1 hG hd
    have hg4:=gbT (gbD (gbR wx none)) hG;simp [deps,tAt,isV] at hd;obtain ⟨e102,e104,h109⟩:=hd
    have h109:autF wx.heap.size (minusA k xa tx.a) (f 109) w1:=by first | exact h109 | exact h109.1
    obtain ⟨P1,n1,c1,P2,n2,c2,e109⟩:=h109.form;rw [e109] at h109;have H109:=zH (autF.rd h109);clear h109;simp [puts,dsts,Act.put,e102,e104,e109];clear e102 e104 e109;go_wp2_with fail;refine (Yz k D1 (minusA k xa tx.a) _ _ w1 (HK.out.grow hg4) H109.out WK.out QQA.out).mono ?_;rintro e' w6 ⟨rfl,hw⟩;rw [M1.out];go_wp2_with fail;exact ⟨_,rfl,hw,rfl⟩
   all_goals
    intro f w1 hG hd;have hg4:=gbT (gbD (gbR wx none)) hG;have k0:=gbk hg4 (kx0.out);have k1:=gbk hg4 (kx1.out);have k2:=gbk hg4 (dx0.out);have k3:=gbk hg4 (ex0.out);have k4:=gbk hg4 (ax0.out);have k5:=gbk hg4 (ax1.out);have k6:=gbk hg4 (bx0.out);have k7:=gbk hg4 (bx1.out);have k8:=gbk hg4 (tx0.out);have k9:=gbk hg4 (tx1.out);have k10:=gbk hg4 (tx2.out);have k11:=gbk hg4 (tx3.out);simp [deps,tAt,isV] at hd
    first | simp [hd] | simp
    clear hd;go_wp2_with fail;exact ⟨_,rfl,by with_reducible exact gbR _ _,by simp [tAt,isV]⟩
  intro f w5 hG hd;simp [knows,tAt,isV] at hd;simp only [puts,dsts,Act.put,hd,zB,zC,zA,zD,zE];clear hd;have g5:=gbT (gbD (gbR wx none)) hG;clear hG;have HQ2:=HQ.out;apply HQ2;exact g5
 have M1:=zH hm1;rw [hm1,Bool.not_true,Bool.false_or] at HB;clear hm1
 cases hm2:Ye k E1 (minusA k xb tx.b)
 ·have M2:=zH hm2
  rw [hm2,Bool.not_false] at HB;rw [HB.out] at HQ;clear hm2;refine Zv [isV (.agg #[.int .i64 k.p,.slice A na ca]),isV (.pointer (some ⟨gO,0,none⟩)),isV (.int .i64 D1),isV (.agg #[.int .i64 k.p,.slice A na ca]),isV (.agg #[.slice Ba xa.sh.length da,.slice Ca xa.mc.length fa]),isV (.pointer (some ⟨g13,0,none⟩)),isV (.agg #[.slice T0 tx.a.sh.length d0,.slice T1 tx.a.mc.length d1]),autF wx.heap.size (minusA k xa tx.a),isV (.bool true),isV (.bool false),isV (.bool false),isV (.agg #[.int .i64 k.p,.slice A na ca]),isV (.pointer (some ⟨gO,1,none⟩)),isV (.int .i64 E1),isV (.agg #[.int .i64 k.p,.slice A na ca]),isV (.agg #[.slice Bb xb.sh.length db,.slice Cb xb.mc.length fb]),isV (.pointer (some ⟨g13,2,none⟩)),isV (.agg #[.slice T2 tx.b.sh.length d2,.slice T3 tx.b.mc.length d3]),autF wx.heap.size (minusA k xb tx.b),isV (.bool false),isV (.bool true),isV (.bool true)] (by kernel_rfl) (by kernel_rfl) (by kernel_rfl) (Ze (Zb _) (Ze (Zb _) (Ze (Zb _) (Ze (Zb _) (Ze (Zb _) (Ze (Zb _) (Ze (Zb _) (Ze (ZR) (Ze (Zb _) (Ze (Zb _) (Ze (Zb _) (Ze (Zb _) (Ze (Zb _) (Ze (Zb _) (Ze (Zb _) (Ze (Zb _) (Ze (Zb _) (Ze (Zb _) (Ze (ZR) (Ze (Zb _) (Ze (Zb _) (Ze (Zb _) Js)))))))))))))))))))))) ?_ ?_
  ·simp only [hops,and_true]
   refine ⟨?_, ?_, ?_, ?_, ?_, ?_, ?_, ?_, ?_, ?_, ?_, ?_, ?_, ?_, ?_, ?_, ?_, ?_, ?_, ?_, ?_, ?_⟩;rotate_left 7
   ·intro f w1 hG hd
    have hg4:=gbT (gbD (gbR wx none)) hG;simp [deps,tAt,isV] at hd
    first | simp [hd] | simp
    clear hd;go_wp2_with fail;refine (Wk k xa tx.a _ _ _ w1 (HK.out.grow hg4) (HXA.out.grow hg4) (HT.out.xa.grow hg4) WK.out WXA.out WX.out.1 hp1).mono ?_;rintro e' w6 ⟨v6,rfl,o6,g6⟩;have O6:=zH (autF.lo o6 hg4.size);have G6':=zH g6;clear o6 g6;go_wp2_with fail;exact ⟨_,rfl,G6'.out,O6.out⟩
   ·intro f w1 hG hd
    have hg4:=gbT (gbD (gbR wx none)) hG;simp [deps,tAt,isV] at hd;obtain ⟨e102,e104,h109⟩:=hd
    have h109:autF wx.heap.size (minusA k xa tx.a) (f 109) w1:=by first | exact h109 | exact h109.1
    obtain ⟨P1,n1,c1,P2,n2,c2,e109⟩:=h109.form;rw [e109] at h109;have H109:=zH (autF.rd h109);clear h109;simp [puts,dsts,Act.put,e102,e104,e109];clear e102 e104 e109;go_wp2_with fail;refine (Yz k D1 (minusA k xa tx.a) _ _ w1 (HK.out.grow hg4) H109.out WK.out QQA.out).mono ?_;rintro e' w6 ⟨rfl,hw⟩;rw [M1.out];go_wp2_with fail;exact ⟨_,rfl,hw,rfl⟩
   rotate_left 9
   ·intro f w1 hG hd
    have hg4:=gbT (gbD (gbR wx none)) hG;simp [deps,tAt,isV] at hd
    first | simp [hd] | simp
    clear hd;go_wp2_with fail;refine (Wk k xb tx.b _ _ _ w1 (HK.out.grow hg4) (HXB.out.grow hg4) (HT.out.xb.grow hg4) WK.out WXB.out WX.out.2.1 hp1).mono ?_;rintro e' w6 ⟨v6,rfl,o6,g6⟩;have O6:=zH (autF.lo o6 hg4.size);have G6':=zH g6;clear o6 g6;go_wp2_with fail;exact ⟨_,rfl,G6'.out,O6.out⟩
   ·intro f w1 hG hd
    have hg4:=gbT (gbD (gbR wx none)) hG;simp [deps,tAt,isV] at hd;have e113:=hd.1;have e115:=hd.2.1;have h120:=hd.2.2.1;have e112:=hd.2.2.2;clear hd;have e120:=autF.eq h120;generalize s3A (agC 0 (f 120))=P1 at e120;generalize s3N (agC 0 (f 120))=n1 at e120;generalize s3C (agC 0 (f 120))=c1 at e120;generalize s3A (agC 1 (f 120))=P2 at e120;generalize s3N (agC 1 (f 120))=n2 at e120;generalize s3C (agC 1 (f 120))=c2 at e120;rw [e120] at h120;have H120:=zH (autF.rd h120);clear h120;simp [puts,dsts,Act.put,e112,e113,e115,e120];clear e112 e113 e115 e120;go_wp2_with fail;refine (Yz k E1 (minusA k xb tx.b) _ _ w1 (HK.out.grow hg4) H120.out WK.out QQB.out).mono ?_;rintro e' w6 ⟨rfl,hw⟩;rw [M2.out];go_wp2_with fail;exact ⟨_,rfl,hw,rfl⟩
   all_goals
    intro f w1 hG hd;have hg4:=gbT (gbD (gbR wx none)) hG;have k0:=gbk hg4 (kx0.out);have k1:=gbk hg4 (kx1.out);have k2:=gbk hg4 (dx0.out);have k3:=gbk hg4 (ex0.out);have k4:=gbk hg4 (ax0.out);have k5:=gbk hg4 (ax1.out);have k6:=gbk hg4 (bx0.out);have k7:=gbk hg4 (bx1.out);have k8:=gbk hg4 (tx0.out);have k9:=gbk hg4 (tx1.out);have k10:=gbk hg4 (tx2.out);have k11:=gbk hg4 (tx3.out);simp [deps,tAt,isV] at hd
    first | simp [hd] | simp
    clear hd;go_wp2_with fail;exact ⟨_,rfl,by with_reducible exact gbR _ _,by simp [tAt,isV]⟩
  intro f w5 hG hd;simp [knows,tAt,isV] at hd;simp only [puts,dsts,Act.put,hd,zB,zC,zA,zD,zE];clear hd;have g5:=gbT (gbD (gbR wx none)) hG;clear hG;have HQ2:=HQ.out;apply HQ2;exact g5
 have M2:=zH hm2;rw [hm2,Bool.not_true] at HB;rw [HB.out] at HQ;clear hm2;refine Zv [isV (.agg #[.int .i64 k.p,.slice A na ca]),isV (.pointer (some ⟨gO,0,none⟩)),isV (.int .i64 D1),isV (.agg #[.int .i64 k.p,.slice A na ca]),isV (.agg #[.slice Ba xa.sh.length da,.slice Ca xa.mc.length fa]),isV (.pointer (some ⟨g13,0,none⟩)),isV (.agg #[.slice T0 tx.a.sh.length d0,.slice T1 tx.a.mc.length d1]),autF wx.heap.size (minusA k xa tx.a),isV (.bool true),isV (.bool false),isV (.bool false),isV (.agg #[.int .i64 k.p,.slice A na ca]),isV (.pointer (some ⟨gO,1,none⟩)),isV (.int .i64 E1),isV (.agg #[.int .i64 k.p,.slice A na ca]),isV (.agg #[.slice Bb xb.sh.length db,.slice Cb xb.mc.length fb]),isV (.pointer (some ⟨g13,2,none⟩)),isV (.agg #[.slice T2 tx.b.sh.length d2,.slice T3 tx.b.mc.length d3]),autF wx.heap.size (minusA k xb tx.b),isV (.bool true),isV (.bool false),isV (.bool false)] (by kernel_rfl) (by kernel_rfl) (by kernel_rfl) (Ze (Zb _) (Ze (Zb _) (Ze (Zb _) (Ze (Zb _) (Ze (Zb _) (Ze (Zb _) (Ze (Zb _) (Ze (ZR) (Ze (Zb _) (Ze (Zb _) (Ze (Zb _) (Ze (Zb _) (Ze (Zb _) (Ze (Zb _) (Ze (Zb _) (Ze (Zb _) (Ze (Zb _) (Ze (Zb _) (Ze (ZR) (Ze (Zb _) (Ze (Zb _) (Ze (Zb _) Js)))))))))))))))))))))) ?_ ?_
 ·simp only [hops,and_true]
  refine ⟨?_, ?_, ?_, ?_, ?_, ?_, ?_, ?_, ?_, ?_, ?_, ?_, ?_, ?_, ?_, ?_, ?_, ?_, ?_, ?_, ?_, ?_⟩;rotate_left 7
  ·intro f w1 hG hd
   have hg4:=gbT (gbD (gbR wx none)) hG;simp [deps,tAt,isV] at hd
   first | simp [hd] | simp
   clear hd;go_wp2_with fail;refine (Wk k xa tx.a _ _ _ w1 (HK.out.grow hg4) (HXA.out.grow hg4) (HT.out.xa.grow hg4) WK.out WXA.out WX.out.1 hp1).mono ?_;rintro e' w6 ⟨v6,rfl,o6,g6⟩;have O6:=zH (autF.lo o6 hg4.size);have G6':=zH g6;clear o6 g6;go_wp2_with fail;exact ⟨_,rfl,G6'.out,O6.out⟩
  ·intro f w1 hG hd
   have hg4:=gbT (gbD (gbR wx none)) hG;simp [deps,tAt,isV] at hd;obtain ⟨e102,e104,h109⟩:=hd
   have h109:autF wx.heap.size (minusA k xa tx.a) (f 109) w1:=by first | exact h109 | exact h109.1
   obtain ⟨P1,n1,c1,P2,n2,c2,e109⟩:=h109.form;rw [e109] at h109;have H109:=zH (autF.rd h109);clear h109;simp [puts,dsts,Act.put,e102,e104,e109];clear e102 e104 e109;go_wp2_with fail;refine (Yz k D1 (minusA k xa tx.a) _ _ w1 (HK.out.grow hg4) H109.out WK.out QQA.out).mono ?_;rintro e' w6 ⟨rfl,hw⟩;rw [M1.out];go_wp2_with fail;exact ⟨_,rfl,hw,rfl⟩
  rotate_left 9
  ·intro f w1 hG hd
   have hg4:=gbT (gbD (gbR wx none)) hG;simp [deps,tAt,isV] at hd
   first | simp [hd] | simp
   clear hd;go_wp2_with fail;refine (Wk k xb tx.b _ _ _ w1 (HK.out.grow hg4) (HXB.out.grow hg4) (HT.out.xb.grow hg4) WK.out WXB.out WX.out.2.1 hp1).mono ?_;rintro e' w6 ⟨v6,rfl,o6,g6⟩;have O6:=zH (autF.lo o6 hg4.size);have G6':=zH g6;clear o6 g6;go_wp2_with fail;exact ⟨_,rfl,G6'.out,O6.out⟩
  ·intro f w1 hG hd
   have hg4:=gbT (gbD (gbR wx none)) hG;simp [deps,tAt,isV] at hd;have e113:=hd.1;have e115:=hd.2.1;have h120:=hd.2.2.1;have e112:=hd.2.2.2;clear hd;have e120:=autF.eq h120;generalize s3A (agC 0 (f 120))=P1 at e120;generalize s3N (agC 0 (f 120))=n1 at e120;generalize s3C (agC 0 (f 120))=c1 at e120;generalize s3A (agC 1 (f 120))=P2 at e120;generalize s3N (agC 1 (f 120))=n2 at e120;generalize s3C (agC 1 (f 120))=c2 at e120;rw [e120] at h120;have H120:=zH (autF.rd h120);clear h120;simp [puts,dsts,Act.put,e112,e113,e115,e120];clear e112 e113 e115 e120;go_wp2_with fail;refine (Yz k E1 (minusA k xb tx.b) _ _ w1 (HK.out.grow hg4) H120.out WK.out QQB.out).mono ?_;rintro e' w6 ⟨rfl,hw⟩;rw [M2.out];go_wp2_with fail;exact ⟨_,rfl,hw,rfl⟩
  all_goals
   intro f w1 hG hd;have hg4:=gbT (gbD (gbR wx none)) hG;have k0:=gbk hg4 (kx0.out);have k1:=gbk hg4 (kx1.out);have k2:=gbk hg4 (dx0.out);have k3:=gbk hg4 (ex0.out);have k4:=gbk hg4 (ax0.out);have k5:=gbk hg4 (ax1.out);have k6:=gbk hg4 (bx0.out);have k7:=gbk hg4 (bx1.out);have k8:=gbk hg4 (tx0.out);have k9:=gbk hg4 (tx1.out);have k10:=gbk hg4 (tx2.out);have k11:=gbk hg4 (tx3.out);simp [deps,tAt,isV] at hd
   first | simp [hd] | simp
   clear hd;go_wp2_with fail;exact ⟨_,rfl,by with_reducible exact gbR _ _,by simp [tAt,isV]⟩
 intro f w5 hG hd;simp [knows,tAt,isV] at hd;simp only [puts,dsts,Act.put,hd,zB,zC,zA,zD,zE];clear hd;have g5:=gbT (gbD (gbR wx none)) hG;clear hG;have HQ2:=HQ.out;apply HQ2;exact g5
end Go.Proofs.YthaadgdeadbhkaaGreat
