/-
 l28Adds of the reference (printed by wip/gen_sadds.py).
-/
import Derived.Test.YthaadgdeadbhkaaGreatMgFnExactEngineRound33
open Go.RowKit
set_option linter.unusedVariables false
set_option linter.unusedSimpArgs false
namespace Go.Proofs.YthaadgdeadbhkaaGreat
attribute [local simp] depsC dstAt kAt bindE List.filter_cons Zy Zp Zq Zr Zz Yu puts dsts Act.put
theorem okV_nz {k:KM} {v:AuM} (h:okV k v=true) (hz:zeroA v=false):0<v.sh.length:=by
 have:=okV_sh h;rw [hz] at this;simp at this
 cases hl:v.sh
 ·exact absurd hl this
 ·simp
theorem okV_z {k:KM} {v:AuM} (h:okV k v=true) (hz:zeroA v=true):v.sh.length=0:=by
 have:=okV_sh h;rw [hz] at this
 simpa using this
theorem okV_nzF {k:KM} {v:AuM} (h:okV k v=true) (hz:zeroA v=false):formB k v=true:=by
 unfold okV at h
 rwa [hz,Bool.false_or] at h
theorem okV_at {k:KM} {vs:List AuM} (h:∀a∈vs,okV k a=true) (i:Nat):okV k (getA vs i)=true:=by
 rcases Nat.lt_or_ge i vs.length with h7 | h7
 ·have:getA vs i=vs[i]:=by unfold getA;rw [zF,List.getElem?_eq_getElem h7];rfl
  rw [this];exact h _ (List.getElem_mem h7)
 ·rw [getA_out h7]
  unfold okV;rw [zero_no];rfl
theorem adds_okV {k:KM} {c:AM} {vs:List AuM} (h:∀a∈vs,okV k a=true):∀i,∀a∈addsTo k c vs i,okV k a=true
 | 0=>h
 | i+1=>by
  have hi:=adds_okV (c:=c) h i;intro a ha;rw [addsTo,Yc] at ha
  split at ha
  ·rename_i hc
   unfold addOk at hc;simp only [Bool.and_eq_true,Bool.not_eq_true'] at hc
   rcases List.mem_or_eq_of_mem_set ha with h1 | h1
   ·exact hi a h1
   ·rw [h1]
    unfold okV;rw [(Uz (okV_nzF (okV_at hi _) hc.1.2) (okV_nzF (okV_at hi _) hc.2)).2,Bool.or_true]
  ·exact hi a ha
set_option maxHeartbeats 4000000 in
set_option maxRecDepth 100000 in
theorem specl28Adds_c (m:EM) (g:Nat) (F:List Nat) (w:World) (h:SOF 58 (Zd m) g F w) (hok:AOk m.c) (hn:m.vs.length=m.c.st.length) (wk:kwf m.k) (wv:∀a∈m.vs,awf a) (wo:∀a∈m.vs,okV m.k a=true) :
  Calls Tryz.prog 92 #[.pointer (some ⟨g,0,none⟩)] w fun e w'=>e=.returned (.tuple #[])∧∃F',SOF 58 (Zd { m with vs:=addsTo m.k m.c m.vs m.c.st.length }) g F' w'∧(∀x∈F',x∈F∨w.heap.size≤x)∧Chg (fun y=>y∈F) w w':=by
 obtain ⟨A,B,C,D,E,a',b,c,d,e,hB,hR⟩:=h.eng;have hgF:=h.out;have hgl:=h.ltg;have HS:=zH h;have HB:=zH hB;have OK:=zH hok;have WK:=zH wk;have WV:Hid (∀k,∀a∈addsTo m.k m.c m.vs k,awf a):=zH (fun k=>UB wv k);obtain ⟨n,hnn⟩:∃n,m.c.st.length=n:=⟨_,rfl⟩;have hn60:n≤60:=by have:=hok.few;omega
 have hvl:Hid (∀k,(addsTo m.k m.c m.vs k).length=n):=zH (fun k=>by rw [XW];omega);have LN:=zH hnn;have WO:Hid (∀k,∀a∈addsTo m.k m.c m.vs k,okV m.k a=true):=zH (fun k=>adds_okV wo k);have l60:=zH hn60;clear h hB hok wk wv wo hn hnn hR
 go_enter Tryz.func92,Tryz.ntmps92
 go_wp2_with fail
 go_loopw [2] (fun i wr=>∃(k:Nat) (F':List Nat),k≤n∧i=.int .i64 k∧Hid (SOF 58 (Zd { m with vs:=addsTo m.k m.c m.vs k }) g F' wr)∧Hid (∀x∈F',x∈F∨w.heap.size≤x)∧Hid (Chg (fun y=>y∈F) w wr)) (fun i _=>n - (intOf i).toNat)
 case atStart=>exact ⟨0,F,Nat.zero_le _,rfl,HS,zH (fun x hx=>.inl hx),zH (Chg.refl _ _)⟩
 case round =>
  obtain ⟨k,F',hk,rfl,SG,HL',HC'⟩:=hrel;have hBr:=zH (HB.out.chg HC'.out hgF);have hAR:=(SG.out.is (us:=[_,_,_,_,_,_,_,_,_]) hBr.out).rd;obtain ⟨_,_,_,hvl',_,hR⟩:=EngR.of (m:={ m with vs:=addsTo m.k m.c m.vs k }) hAR;obtain ⟨D',d',F5,v5,f5,o5,m5,g5,lt5,_,up5⟩:=SG.out.val;have hlen:(addsTo m.k m.c m.vs k).length=n:=hvl.out k;rw [show (EM.vs { m with vs:=addsTo m.k m.c m.vs k })=addsTo m.k m.c m.vs k from rfl] at v5 o5 up5;rw [hlen] at v5 o5 up5
  by_cases hlt:k<n
  ·have i1:(k:Int)<(n:Int):=by omega
   obtain ⟨gv,rfl,hgv⟩:=XX o5 (by omega);obtain ⟨b,o,x,y,z,rfl,hb,hx,q0,q1,q2⟩:=YM hR.stp (k:=k) (by rw [LN.out];exact hlt);have hst:stAt m.c k=(x,y,z):=by simp [stAt,zF,hx]
   obtain ⟨B0,d0,C0,f0,k0,k1,kf0,kf1,hk9⟩:=YB o5 (i:=k) (by omega);have HK:=zH hk9;have HST:=zH hst;have UP:=zH up5;have O5:=zH o5;have M5:=zH m5;have LT5:=zH lt5;have KY:=zH hR.ky;have kA:=hBr.out.cell 0;have kB:=hBr.out.cell 1;have c3:=hBr.out.cell 3;simp at kA kB c3;rw [LN.out] at c3;have HOK:=zH (okV_at (WO.out k));have HW:=zH (WV.out k);have HVS:=zH (addOk_eq (vs:=addsTo m.k m.c m.vs k) hst);have OPS:=zH (fun h3=>Wf OK.out (k:=k) (by rw [LN.out];exact hlt) hst h3);obtain ⟨xk,hxk⟩:∃q,getA (addsTo m.k m.c m.vs k) k=q:=⟨_,rfl⟩;rw [hxk] at k0 k1 HK HVS;have OKK:Hid (okV m.k xk=true):=by rw [← hxk];exact zH (HOK.out k)
   clear hx hk9 hst up5 o5 m5 lt5 hR hAR hvl' hBr;go_wp2_with fail;obtain ⟨wy,hwy⟩:∃q:World,wr.alloc (.cells #[.int .i64 x,.int .i64 y,.int .i64 z] 102)=q:=⟨_,rfl⟩;have GY:Hid (wr.grownBy wy none):=by rw [← hwy];exact gbA (gbR _ _) _
   have BS:Hid (Blk wy wr.heap.size 102 #[.int .i64 x,.int .i64 y,.int .i64 z]):=by rw [← hwy];exact Blk.new _ _ _
   rw [hwy];clear hwy q0 q1 q2 c3;have s0:=BS.out.cell 0;have s1:=BS.out.cell 1;have s2:=BS.out.cell 2;simp at s0 s1 s2;have S0:=zH s0;have S1:=zH s1;have S2:=zH s2;have V5:=zH (gbk GY.out v5);have K0:=zH (gbk GY.out k0);have K1:=zH (gbk GY.out k1);have KA:=zH (gbk GY.out kA);have KB:=zH (gbk GY.out kB);clear s0 s1 s2 v5 k0 k1 kA kB
   cases h3:(x == 3)
   ·have hx3:¬x=3:=by simpa using h3
    rw [h3,Bool.false_and,Bool.false_and,Bool.false_and] at HVS;refine Zi [isV (.pointer (some ⟨wr.heap.size,0,none⟩)),isV (.int .i64 x),isV (.bool false),isV (.bool false),isV (undef),isV (undef),isV (undef),isV (undef),isV (undef),isV (undef),isV (undef),isV (undef),isV (undef),isV (undef),isV (.bool false),isV (.bool false),isV (undef),isV (undef),isV (undef),isV (undef),isV (undef),isV (undef),isV (undef),isV (undef),isV (undef),isV (undef),isV (undef),isV (.bool false),isV (.bool false),isV (undef),isV (undef),isV (undef),isV (undef),isV (undef),isV (undef),isV (undef),isV (undef),isV (undef),isV (undef),isV (undef),isV (.bool false)] (by kernel_rfl) (by kernel_rfl) (by kernel_rfl) (by simp [ZB,Zb]) ?_ ?_
    ·simp only [hops,and_true]
     refine ⟨?_, ?_, ?_, ?_, ?_, ?_, ?_, ?_, ?_, ?_, ?_, ?_, ?_, ?_, ?_, ?_, ?_, ?_, ?_, ?_, ?_, ?_, ?_, ?_, ?_, ?_, ?_, ?_, ?_, ?_, ?_, ?_, ?_, ?_, ?_, ?_, ?_, ?_, ?_, ?_, ?_⟩
     all_goals
      intro f w1 hG hd;have hg4:=gbT (gbD (gbR wy none)) hG;have k0:=gbk hg4 (S0.out);have k1:=gbk hg4 (S1.out);have k2:=gbk hg4 (S2.out);have k3:=gbk hg4 (V5.out);have k4:=gbk hg4 (K0.out);have k5:=gbk hg4 (K1.out);simp [deps,tAt,isV] at hd
      first | simp [hd] | simp
      clear hd;go_wp2_with fail;exact ⟨_,rfl,by with_reducible exact gbR _ _,by simp [tAt,isV]⟩
    intro f w5 hG hd;simp [knows,tAt,isV] at hd;simp only [puts,dsts,Act.put,hd,zB,zC,zA,zD,zE];clear hd;have g5:=gbT (gbD (gbR wy none)) hG;clear hG;have G5:=zH (gbT GY.out g5);have HN:Hid (addsTo m.k m.c m.vs (k+1)=addsTo m.k m.c m.vs k):=by unfold Hid;rw [addsTo,Yc,if_neg (by rw [HVS.out];decide)]
    clear g5;go_wp2_with fail
    go_roundw
    case rel=>exact ⟨k+1,F',by omega,by go_num,by rw [HN.out];exact zH (SG.out.grow G5.out),HL',zH (HC'.out.trans (Chg.of G5.out (by simp)))⟩
    case measure=>simp [intOf];omega
   have hx3:x=3:=by simpa using h3
   obtain ⟨a,b',hay,hbz,hak,hbk⟩:=OPS.out (.inl hx3);subst hay;subst hbz;subst hx3;rw [h3,Bool.true_and,Int.toNat_natCast,Int.toNat_natCast] at HVS;have i2:(a:Int)<(n:Int):=by omega
   have i3:(b':Int)<(n:Int):=by omega
   clear h3
   cases hzk:zeroA xk
   ·have tk:((xk.sh.length:Int) == 0)=false:=by have:=okV_nz OKK.out hzk;simp;intro h;rw [h] at this;exact absurd this (by decide)
    rw [hzk,Bool.false_and,Bool.false_and] at HVS;refine Zi [isV (.pointer (some ⟨wr.heap.size,0,none⟩)),isV (.int .i64 3),isV (.bool true),isV (.bool true),isV (.pointer (some ⟨g,0,none⟩)),isV (.pointer (some ⟨g,0,none⟩)),isV (.pointer (some ⟨g,5,none⟩)),isV (.slice (some ⟨gv,0,none⟩) n d'),isV (.int .i64 k),isV (.pointer (some ⟨gv,k*2,none⟩)),isV (.pointer (some ⟨gv,k*2,none⟩)),isV (.slice B0 xk.sh.length d0),isV (.int .i64 xk.sh.length),isV (.bool false),isV (.bool false),isV (.bool false),isV (undef),isV (undef),isV (undef),isV (undef),isV (undef),isV (undef),isV (undef),isV (undef),isV (undef),isV (undef),isV (undef),isV (.bool false),isV (.bool false),isV (undef),isV (undef),isV (undef),isV (undef),isV (undef),isV (undef),isV (undef),isV (undef),isV (undef),isV (undef),isV (undef),isV (.bool false)] (by kernel_rfl) (by kernel_rfl) (by kernel_rfl) (by simp [ZB,Zb]) ?_ ?_
    ·simp only [hops,and_true]
     refine ⟨?_, ?_, ?_, ?_, ?_, ?_, ?_, ?_, ?_, ?_, ?_, ?_, ?_, ?_, ?_, ?_, ?_, ?_, ?_, ?_, ?_, ?_, ?_, ?_, ?_, ?_, ?_, ?_, ?_, ?_, ?_, ?_, ?_, ?_, ?_, ?_, ?_, ?_, ?_, ?_, ?_⟩
     all_goals
      intro f w1 hG hd;have hg4:=gbT (gbD (gbR wy none)) hG;have k0:=gbk hg4 (S0.out);have k1:=gbk hg4 (S1.out);have k2:=gbk hg4 (S2.out);have k3:=gbk hg4 (V5.out);have k4:=gbk hg4 (K0.out);have k5:=gbk hg4 (K1.out);simp [deps,tAt,isV] at hd
      first | simp [hd] | simp
      clear hd;go_wp2_with fail;exact ⟨_,rfl,by with_reducible exact gbR _ _,by simp [tAt,isV]⟩
    intro f w5 hG hd;simp [knows,tAt,isV] at hd;simp only [puts,dsts,Act.put,hd,zB,zC,zA,zD,zE];clear hd;have g5:=gbT (gbD (gbR wy none)) hG;clear hG;have G5:=zH (gbT GY.out g5);have HN:Hid (addsTo m.k m.c m.vs (k+1)=addsTo m.k m.c m.vs k):=by unfold Hid;rw [addsTo,Yc,if_neg (by rw [HVS.out];decide)]
    clear g5;go_wp2_with fail
    go_roundw
    case rel=>exact ⟨k+1,F',by omega,by go_num,by rw [HN.out];exact zH (SG.out.grow G5.out),HL',zH (HC'.out.trans (Chg.of G5.out (by simp)))⟩
    case measure=>simp [intOf];omega
   have tk:((xk.sh.length:Int) == 0)=true:=by rw [okV_z OKK.out hzk];rfl
   rw [hzk,Bool.true_and] at HVS;obtain ⟨B1,d1,C1,f1,a0,a1,_,_,ha9⟩:=YB O5.out (i:=a) (by omega);obtain ⟨xa,hxa⟩:∃q,getA (addsTo m.k m.c m.vs k) a=q:=⟨_,rfl⟩;rw [hxa] at a0 a1 ha9 HVS;have OKA:Hid (okV m.k xa=true):=by rw [← hxa];exact zH (HOK.out a)
   have HA:=zH ha9;have A0:=zH (gbk GY.out a0);have A1:=zH (gbk GY.out a1);clear ha9 a0 a1
   cases hza:zeroA xa
   rotate_left
   ·have TA:Hid (xa.sh=[]):=List.eq_nil_of_length_eq_zero (okV_z OKA.out hza)
    rw [hza,Bool.not_true,Bool.false_and] at HVS;refine Zi [isV (.pointer (some ⟨wr.heap.size,0,none⟩)),isV (.int .i64 3),isV (.bool true),isV (.bool true),isV (.pointer (some ⟨g,0,none⟩)),isV (.pointer (some ⟨g,0,none⟩)),isV (.pointer (some ⟨g,5,none⟩)),isV (.slice (some ⟨gv,0,none⟩) n d'),isV (.int .i64 k),isV (.pointer (some ⟨gv,k*2,none⟩)),isV (.pointer (some ⟨gv,k*2,none⟩)),isV (.slice B0 xk.sh.length d0),isV (.int .i64 xk.sh.length),isV (.bool true),isV (.bool true),isV (.bool true),isV (.pointer (some ⟨g,0,none⟩)),isV (.pointer (some ⟨g,0,none⟩)),isV (.pointer (some ⟨g,5,none⟩)),isV (.slice (some ⟨gv,0,none⟩) n d'),isV (.pointer (some ⟨wr.heap.size,1,none⟩)),isV (.int .i64 a),isV (.pointer (some ⟨gv,a*2,none⟩)),isV (.pointer (some ⟨gv,a*2,none⟩)),isV (.slice B1 xa.sh.length d1),isV (.int .i64 xa.sh.length),isV (.bool false),isV (.bool false),isV (.bool false),isV (undef),isV (undef),isV (undef),isV (undef),isV (undef),isV (undef),isV (undef),isV (undef),isV (undef),isV (undef),isV (undef),isV (.bool false)] (by kernel_rfl) (by kernel_rfl) (by kernel_rfl) (by simp [ZB,Zb]) ?_ ?_
    ·simp only [hops,and_true]
     refine ⟨?_, ?_, ?_, ?_, ?_, ?_, ?_, ?_, ?_, ?_, ?_, ?_, ?_, ?_, ?_, ?_, ?_, ?_, ?_, ?_, ?_, ?_, ?_, ?_, ?_, ?_, ?_, ?_, ?_, ?_, ?_, ?_, ?_, ?_, ?_, ?_, ?_, ?_, ?_, ?_, ?_⟩;rotate_left 26
     ·intro f w1 hG hd
      have hg4:=gbT (gbD (gbR wy none)) hG;simp [deps,tAt,isV] at hd
      first | simp [hd] | simp
      clear hd;go_wp2_with fail;exact ⟨_,rfl,by with_reducible exact gbR _ _,by simp [tAt,isV];exact TA.out⟩
     all_goals
      intro f w1 hG hd;have hg4:=gbT (gbD (gbR wy none)) hG;have k0:=gbk hg4 (S0.out);have k1:=gbk hg4 (S1.out);have k2:=gbk hg4 (S2.out);have k3:=gbk hg4 (V5.out);have k4:=gbk hg4 (K0.out);have k5:=gbk hg4 (K1.out);have k6:=gbk hg4 (A0.out);have k7:=gbk hg4 (A1.out);simp [deps,tAt,isV] at hd
      first | simp [hd] | simp
      clear hd;go_wp2_with fail;exact ⟨_,rfl,by with_reducible exact gbR _ _,by simp [tAt,isV]⟩
    intro f w5 hG hd;simp [knows,tAt,isV] at hd;simp only [puts,dsts,Act.put,hd,zB,zC,zA,zD,zE];clear hd;have g5:=gbT (gbD (gbR wy none)) hG;clear hG;have G5:=zH (gbT GY.out g5);have HN:Hid (addsTo m.k m.c m.vs (k+1)=addsTo m.k m.c m.vs k):=by unfold Hid;rw [addsTo,Yc,if_neg (by rw [HVS.out];decide)]
    clear g5;go_wp2_with fail
    go_roundw
    case rel=>exact ⟨k+1,F',by omega,by go_num,by rw [HN.out];exact zH (SG.out.grow G5.out),HL',zH (HC'.out.trans (Chg.of G5.out (by simp)))⟩
    case measure=>simp [intOf];omega
   have TA:Hid (0<xa.sh.length):=okV_nz OKA.out hza;rw [hza,Bool.not_false,Bool.true_and] at HVS;obtain ⟨B2,d2,C2,f2,b0,b1,_,_,hb9⟩:=YB O5.out (i:=b') (by omega);obtain ⟨xb,hxb⟩:∃q,getA (addsTo m.k m.c m.vs k) b'=q:=⟨_,rfl⟩;rw [hxb] at b0 b1 hb9 HVS;have OKB:Hid (okV m.k xb=true):=by rw [← hxb];exact zH (HOK.out b')
   have HB2:=zH hb9;have B00:=zH (gbk GY.out b0);have B01:=zH (gbk GY.out b1);clear hb9 b0 b1
   cases hzb:zeroA xb
   rotate_left
   ·have TB:Hid (xb.sh=[]):=List.eq_nil_of_length_eq_zero (okV_z OKB.out hzb)
    rw [hzb,Bool.not_true] at HVS;refine Zi [isV (.pointer (some ⟨wr.heap.size,0,none⟩)),isV (.int .i64 3),isV (.bool true),isV (.bool true),isV (.pointer (some ⟨g,0,none⟩)),isV (.pointer (some ⟨g,0,none⟩)),isV (.pointer (some ⟨g,5,none⟩)),isV (.slice (some ⟨gv,0,none⟩) n d'),isV (.int .i64 k),isV (.pointer (some ⟨gv,k*2,none⟩)),isV (.pointer (some ⟨gv,k*2,none⟩)),isV (.slice B0 xk.sh.length d0),isV (.int .i64 xk.sh.length),isV (.bool true),isV (.bool true),isV (.bool true),isV (.pointer (some ⟨g,0,none⟩)),isV (.pointer (some ⟨g,0,none⟩)),isV (.pointer (some ⟨g,5,none⟩)),isV (.slice (some ⟨gv,0,none⟩) n d'),isV (.pointer (some ⟨wr.heap.size,1,none⟩)),isV (.int .i64 a),isV (.pointer (some ⟨gv,a*2,none⟩)),isV (.pointer (some ⟨gv,a*2,none⟩)),isV (.slice B1 xa.sh.length d1),isV (.int .i64 xa.sh.length),isV (.bool true),isV (.bool true),isV (.bool true),isV (.pointer (some ⟨g,0,none⟩)),isV (.pointer (some ⟨g,0,none⟩)),isV (.pointer (some ⟨g,5,none⟩)),isV (.slice (some ⟨gv,0,none⟩) n d'),isV (.pointer (some ⟨wr.heap.size,2,none⟩)),isV (.int .i64 b'),isV (.pointer (some ⟨gv,b'*2,none⟩)),isV (.pointer (some ⟨gv,b'*2,none⟩)),isV (.slice B2 xb.sh.length d2),isV (.int .i64 xb.sh.length),isV (.bool false),isV (.bool false)] (by kernel_rfl) (by kernel_rfl) (by kernel_rfl) (by simp [ZB,Zb]) ?_ ?_
    ·simp only [hops,and_true]
     refine ⟨?_, ?_, ?_, ?_, ?_, ?_, ?_, ?_, ?_, ?_, ?_, ?_, ?_, ?_, ?_, ?_, ?_, ?_, ?_, ?_, ?_, ?_, ?_, ?_, ?_, ?_, ?_, ?_, ?_, ?_, ?_, ?_, ?_, ?_, ?_, ?_, ?_, ?_, ?_, ?_, ?_⟩;rotate_left 26
     ·intro f w1 hG hd
      have hg4:=gbT (gbD (gbR wy none)) hG;simp [deps,tAt,isV] at hd
      first | simp [hd] | simp
      clear hd;go_wp2_with fail;exact ⟨_,rfl,by with_reducible exact gbR _ _,by simp [tAt,isV];exact TA.out⟩
     rotate_left 12
     ·intro f w1 hG hd
      have hg4:=gbT (gbD (gbR wy none)) hG;simp [deps,tAt,isV] at hd
      first | simp [hd] | simp
      clear hd;go_wp2_with fail;exact ⟨_,rfl,by with_reducible exact gbR _ _,by simp [tAt,isV];exact TB.out⟩
     all_goals
      intro f w1 hG hd;have hg4:=gbT (gbD (gbR wy none)) hG;have k0:=gbk hg4 (S0.out);have k1:=gbk hg4 (S1.out);have k2:=gbk hg4 (S2.out);have k3:=gbk hg4 (V5.out);have k4:=gbk hg4 (K0.out);have k5:=gbk hg4 (K1.out);have k6:=gbk hg4 (A0.out);have k7:=gbk hg4 (A1.out);have k8:=gbk hg4 (B00.out);have k9:=gbk hg4 (B01.out);simp [deps,tAt,isV] at hd
      first | simp [hd] | simp
      clear hd;go_wp2_with fail;exact ⟨_,rfl,by with_reducible exact gbR _ _,by simp [tAt,isV]⟩
    intro f w5 hG hd;simp [knows,tAt,isV] at hd;simp only [puts,dsts,Act.put,hd,zB,zC,zA,zD,zE];clear hd;have g5:=gbT (gbD (gbR wy none)) hG;clear hG;have G5:=zH (gbT GY.out g5);have HN:Hid (addsTo m.k m.c m.vs (k+1)=addsTo m.k m.c m.vs k):=by unfold Hid;rw [addsTo,Yc,if_neg (by rw [HVS.out];decide)]
    clear g5;go_wp2_with fail
    go_roundw
    case rel=>exact ⟨k+1,F',by omega,by go_num,by rw [HN.out];exact zH (SG.out.grow G5.out),HL',zH (HC'.out.trans (Chg.of G5.out (by simp)))⟩
    case measure=>simp [intOf];omega
   have TB:Hid (0<xb.sh.length):=okV_nz OKB.out hzb;rw [hzb,Bool.not_false] at HVS
   have HYES:Hid (addsTo m.k m.c m.vs (k+1)=(addsTo m.k m.c m.vs k).set k (Zk m.k xa xb)):=by
    unfold Hid;rw [addsTo,Yc,if_pos HVS.out,HST.out]
    show _=_
    simp only [Int.toNat_natCast];rw [hxa,hxb]
   have WA:Hid (awf xa):=by rw [← hxa];exact zH (Qj HW.out a)
   have WB:Hid (awf xb):=by rw [← hxb];exact zH (Qj HW.out b')
   refine Zi [isV (.pointer (some ⟨wr.heap.size,0,none⟩)),isV (.int .i64 3),isV (.bool true),isV (.bool true),isV (.pointer (some ⟨g,0,none⟩)),isV (.pointer (some ⟨g,0,none⟩)),isV (.pointer (some ⟨g,5,none⟩)),isV (.slice (some ⟨gv,0,none⟩) n d'),isV (.int .i64 k),isV (.pointer (some ⟨gv,k*2,none⟩)),isV (.pointer (some ⟨gv,k*2,none⟩)),isV (.slice B0 xk.sh.length d0),isV (.int .i64 xk.sh.length),isV (.bool true),isV (.bool true),isV (.bool true),isV (.pointer (some ⟨g,0,none⟩)),isV (.pointer (some ⟨g,0,none⟩)),isV (.pointer (some ⟨g,5,none⟩)),isV (.slice (some ⟨gv,0,none⟩) n d'),isV (.pointer (some ⟨wr.heap.size,1,none⟩)),isV (.int .i64 a),isV (.pointer (some ⟨gv,a*2,none⟩)),isV (.pointer (some ⟨gv,a*2,none⟩)),isV (.slice B1 xa.sh.length d1),isV (.int .i64 xa.sh.length),isV (.bool true),isV (.bool true),isV (.bool true),isV (.pointer (some ⟨g,0,none⟩)),isV (.pointer (some ⟨g,0,none⟩)),isV (.pointer (some ⟨g,5,none⟩)),isV (.slice (some ⟨gv,0,none⟩) n d'),isV (.pointer (some ⟨wr.heap.size,2,none⟩)),isV (.int .i64 b'),isV (.pointer (some ⟨gv,b'*2,none⟩)),isV (.pointer (some ⟨gv,b'*2,none⟩)),isV (.slice B2 xb.sh.length d2),isV (.int .i64 xb.sh.length),isV (.bool true),isV (.bool true)] (by kernel_rfl) (by kernel_rfl) (by kernel_rfl) (by simp [ZB,Zb]) ?_ ?_
   ·simp only [hops,and_true]
    refine ⟨?_, ?_, ?_, ?_, ?_, ?_, ?_, ?_, ?_, ?_, ?_, ?_, ?_, ?_, ?_, ?_, ?_, ?_, ?_, ?_, ?_, ?_, ?_, ?_, ?_, ?_, ?_, ?_, ?_, ?_, ?_, ?_, ?_, ?_, ?_, ?_, ?_, ?_, ?_, ?_, ?_⟩;rotate_left 26
    ·intro f w1 hG hd
     have hg4:=gbT (gbD (gbR wy none)) hG;simp [deps,tAt,isV] at hd
     first | simp [hd] | simp
     clear hd;go_wp2_with fail;exact ⟨_,rfl,by with_reducible exact gbR _ _,by simp [tAt,isV];exact TA.out⟩
    rotate_left 12
    ·intro f w1 hG hd
     have hg4:=gbT (gbD (gbR wy none)) hG;simp [deps,tAt,isV] at hd
     first | simp [hd] | simp
     clear hd;go_wp2_with fail;exact ⟨_,rfl,by with_reducible exact gbR _ _,by simp [tAt,isV];exact TB.out⟩
    all_goals
     intro f w1 hG hd;have hg4:=gbT (gbD (gbR wy none)) hG;have k0:=gbk hg4 (S0.out);have k1:=gbk hg4 (S1.out);have k2:=gbk hg4 (S2.out);have k3:=gbk hg4 (V5.out);have k4:=gbk hg4 (K0.out);have k5:=gbk hg4 (K1.out);have k6:=gbk hg4 (A0.out);have k7:=gbk hg4 (A1.out);have k8:=gbk hg4 (B00.out);have k9:=gbk hg4 (B01.out);simp [deps,tAt,isV] at hd
     first | simp [hd] | simp
     clear hd;go_wp2_with fail;exact ⟨_,rfl,by with_reducible exact gbR _ _,by simp [tAt,isV]⟩
   intro f w5 hG hd;simp [knows,tAt,isV] at hd;simp only [puts,dsts,Act.put,hd,zB,zC,zA,zD,zE];clear hd;have g5:=gbT (gbD (gbR wy none)) hG;clear hG;have GZ:=zH (gbT GY.out g5);have S1':=zH (gbk g5 S1.out);have S2':=zH (gbk g5 S2.out);have V5':=zH (gbk g5 V5.out);have A0':=zH (gbk g5 A0.out);have A1':=zH (gbk g5 A1.out);have B00':=zH (gbk g5 B00.out);have B01':=zH (gbk g5 B01.out);have KA':=zH (gbk g5 KA.out);have KB':=zH (gbk g5 KB.out);clear g5 S0 S1 S2 V5 K0 K1 A0 A1 B00 B01 KA KB;go_wp2_with fail
   refine Zg [.rd (.pointer (some ⟨g,0,none⟩)),.rd (.pointer (some ⟨g,0,none⟩)),.rd (.pointer (some ⟨g,5,none⟩)),.rd (.slice (some ⟨gv,0,none⟩) n d'),.rd (.int .i64 k),.rd (.pointer (some ⟨g,0,none⟩)),.rd (.pointer (some ⟨g,0,none⟩)),.rd (.pointer (some ⟨g,0,none⟩)),.rd (.agg #[.int .i64 m.k.p,.slice A m.k.al.length a']),.rd (.pointer (some ⟨g,0,none⟩)),.rd (.pointer (some ⟨g,0,none⟩)),.rd (.pointer (some ⟨g,5,none⟩)),.rd (.slice (some ⟨gv,0,none⟩) n d'),.rd (.pointer (some ⟨wr.heap.size,1,none⟩)),.rd (.int .i64 a),.rd (.pointer (some ⟨gv,a*2,none⟩)),.rd (.agg #[.slice B1 xa.sh.length d1,.slice C1 xa.mc.length f1]),.rd (.pointer (some ⟨g,0,none⟩)),.rd (.pointer (some ⟨g,0,none⟩)),.rd (.pointer (some ⟨g,5,none⟩)),.rd (.slice (some ⟨gv,0,none⟩) n d'),.rd (.pointer (some ⟨wr.heap.size,2,none⟩)),.rd (.int .i64 b'),.rd (.pointer (some ⟨gv,b'*2,none⟩)),.rd (.agg #[.slice B2 xb.sh.length d2,.slice C2 xb.mc.length f2]),.fl (autF wr.heap.size (Zk m.k xa xb)),.rd (.pointer (some ⟨gv,k*2,none⟩)),.ch] (fun _=>False)
    [⟨[],fun _ w'=>w5.drew.grownBy w' none⟩,
     ⟨[],fun _ w'=>∃F'',SOF 58 (Zd { m with vs:=(addsTo m.k m.c m.vs k).set k (Zk m.k xa xb) }) g F'' w'∧(∀x∈F'',x∈F'∨wr.heap.size≤x)∧Chg (fun y=>y∈F5) wr w'⟩]
    (by kernel_rfl) (by kernel_rfl) (by kernel_rfl) 1 (by kernel_rfl) ?_ (gbR _ _) rfl ?_ ?_
   ·have hst:Zn [⟨[],fun _ w'=>w5.drew.grownBy w' none⟩,⟨[],fun _ w'=>∃F'',SOF 58 (Zd { m with vs:=(addsTo m.k m.c m.vs k).set k (Zk m.k xa xb) }) g F'' w'∧(∀x∈F'',x∈F'∨wr.heap.size≤x)∧Chg (fun y=>y∈F5) wr w'⟩]:=by
     refine Zm (fun l w1 w2 h hg=>gbT h hg) ?_;exact Zm (ZE fun l w1 w2 ⟨F'',h1,h2,h3⟩ hg=>⟨F'',h1.grow hg,h2,h3.trans (Chg.of hg (by simp))⟩) YO
    simp only [flOk,true_and,and_true];exact ⟨ZH,hst⟩
   ·simp only [hopsK,hopK,Kd.next,and_true]
    refine ⟨?_, ?_, ?_, ?_, ?_, ?_, ?_, ?_, ?_, ?_, ?_, ?_, ?_, ?_, ?_, ?_, ?_, ?_, ?_, ?_, ?_, ?_, ?_, ?_, ?_, ?_, ?_, ?_⟩;rotate_left 25
    ·intro f w4 hG hd
     have hg4:=gbT (gbD (gbR w5 none)) (chgF hG);have hz4:=hg4.size
     (try simp at hd)
     (first | simp [hd] | simp)
     clear hd;go_wp2_with fail;have gz:=gbT GZ.out hg4;refine (Xp m.k xa xb _ _ _ w4 (KY.out.grow gz) (HA.out.grow gz) (HB2.out.grow gz) WK.out WA.out WB.out).mono ?_;rintro e w6 ⟨v6,rfl,o6,g6⟩;have O6:=zH (autF.lo o6 gz.size);have G6:=zH g6;clear o6 g6 gz;go_wp2_with fail;exact ⟨_,rfl,O6.out,G6.out⟩
    rotate_left 1
    ·intro f w4 hG hI hd
     have hg4:=gbT (gbD (gbR w5 none)) (chgF hG);have hz4:=hg4.size;have hI:w5.drew.grownBy w4 none:=hI
     (try simp at hd)
     obtain ⟨e78,h77,_⟩:=hd;obtain ⟨A9,n9,c9,B9,q9,d9,Fx,e77,hx,lx⟩:=autF.own h77;have gz:=gbT GZ.out hg4;have O4:=Zj _ O5.out gz;obtain ⟨X0,x0,X1,x1,y0,y1,z0,z1,_⟩:=YB O4 (i:=k) (by omega);obtain ⟨F5',r1,r2⟩:=XU O4 (i:=k) (by omega) hx (fun y hy hy'=>by have:=lx y hy;have:=LT5.out y hy';omega);have hch:Chg (fun y=>y∈F5) wr ((w4.setCell ⟨gv,k*2,none⟩ (.slice A9 n9 c9)).setCell ⟨gv,k*2+1,none⟩ (.slice B9 q9 d9)):=(Chg.of gz (by simp)).trans (((chgS w4 gv (k*2) _).trans (chgS _ gv (k*2+1) _)).mono (fun y hy=>by rw [hy];exact hgv));obtain ⟨F'',t1,t2⟩:=UP.out _ _ F5' hch r1 (fun y hy=>(r2 y hy).imp id (lx y));simp [puts,dsts,Act.put,e77,e78];go_wp2_with fail;exact ⟨rfl,.bool false,F'',t1,t2,hch⟩
    all_goals
     intro f w4 hG hd;have hg4:=gbT (gbD (gbR w5 none)) (chgF hG);have k0:=gbk hg4 (S1'.out);have k1:=gbk hg4 (S2'.out);have k2:=gbk hg4 (V5'.out);have k3:=gbk hg4 (A0'.out);have k4:=gbk hg4 (A1'.out);have k5:=gbk hg4 (B00'.out);have k6:=gbk hg4 (B01'.out);have k7:=gbk hg4 (KA'.out);have k8:=gbk hg4 (KB'.out)
     (try simp at hd)
     (first | simp [hd] | simp)
     clear hd;go_wp2_with fail;exact ⟨rfl,rfl⟩
   intro f w8 hI hd;simp only [puts,dsts,Act.put,zB,zC,zA,zD,zE];obtain ⟨F'',h1,h2,h3⟩:=hI;have J1:=zH h1;have J2:=zH h2;have J3:=zH h3;clear hd h1 h2 h3 S1' S2' V5' A0' A1' B00' B01' KA' KB';go_wp2_with fail
   go_roundw
   case rel =>
    refine ⟨k+1,F'',by omega,by go_num,by rw [HYES.out];exact J1,zH (fun x hx => ?_),zH (HC'.out.join J3.out (fun y hy=>HL'.out y (M5.out y hy)))⟩
    rcases J2.out x hx with h6 | h6
    ·exact HL'.out x h6
    ·exact .inr (Nat.le_trans HC'.out.size h6)
   case measure=>simp [intOf];omega
  ·have hkn:k=n:=by omega
   subst hkn;go_wp2_with fail;refine bodyPost_end (results_none rfl _ _ _) rfl ?_;exact ⟨rfl,F',by rw [LN.out];exact SG.out,HL'.out,HC'.out⟩
end Go.Proofs.YthaadgdeadbhkaaGreat
namespace Go.Proofs.YthaadgdeadbhkaaGreat
def autX (lo g:Nat) (m:AuM) (w:World):Prop:=∃A n c B k d,autF lo m (.agg #[.slice A n c,.slice B k d]) w∧Blk w g 80 #[.slice A n c,.slice B k d]
theorem autX.grow {lo g:Nat} {m:AuM} {w w':World} (h:autX lo g m w) (hg:w.grownBy w' none):autX lo g m w':=by
 obtain ⟨A,n,c,B,k,d,h1,h2⟩:=h;exact ⟨A,n,c,B,k,d,h1.grow hg,h2.grow hg⟩
end Go.Proofs.YthaadgdeadbhkaaGreat
