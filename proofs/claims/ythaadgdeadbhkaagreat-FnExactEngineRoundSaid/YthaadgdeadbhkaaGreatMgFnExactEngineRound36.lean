/-
 EngineRound of the program: the region that checks what was opened.
-/
import Derived.Test.YthaadgdeadbhkaaGreatMgFnExactEngineRound31
open Go.RowKit
set_option linter.unusedVariables false
set_option linter.unusedSimpArgs false
namespace Go.Proofs.YthaadgdeadbhkaaGreat
attribute [local simp] puts dsts Act.put
def agC (i:Nat):Value→Value
 | .agg cs=>cs.getD i undef
 | _=>undef
def s3A:Value→Option Addr
 | .slice A _ _=>A
 | _=>none
def s3N:Value→Nat
 | .slice _ n _=>n
 | _=>0
def s3C:Value→Nat
 | .slice _ _ c=>c
 | _=>0
theorem autF.eq {lo:Nat} {m:AuM} {v:Value} {w:World} (h:autF lo m v w):v=.agg #[.slice (s3A (agC 0 v)) (s3N (agC 0 v)) (s3C (agC 0 v)),.slice (s3A (agC 1 v)) (s3N (agC 1 v)) (s3C (agC 1 v))]:=by
 obtain ⟨A,n,c,B,k,d,rfl⟩:=h.form;rfl
def rb17 (k:KM) (xa xb:AuM) (tx:TrM) (D1 E1:Int):Bool:=!Yb k D1 (minusA k xa tx.a)||!Yb k E1 (minusA k xb tx.b)
set_option maxHeartbeats 20000000 in
set_option maxRecDepth 1000000 in
theorem reg17_c (k:KM) (xa xb:AuM) (tx:TrM) (D1 E1:Int) (A Ba Ca Bb Cb T0 T1 T2 T3 T4 T5:Option Addr) (na ca da fa db fb d0 d1 d2 d3 d4 d5 g9 g13 g14 g15 gO:Nat) (wx:World)
  (K9:Blk wx g9 34 #[.int .i64 k.p,.slice A na ca]) (B13:Blk wx g13 82 #[.slice T0 tx.a.sh.length d0,.slice T1 tx.a.mc.length d1,.slice T2 tx.b.sh.length d2,.slice T3 tx.b.mc.length d3,.slice T4 tx.c.sh.length d4,.slice T5 tx.c.mc.length d5])
  (B14:Blk wx g14 80 #[.slice Ba xa.sh.length da,.slice Ca xa.mc.length fa]) (B15:Blk wx g15 80 #[.slice Bb xb.sh.length db,.slice Cb xb.mc.length fb]) (BO:Blk wx gO 104 #[.int .i64 D1,.int .i64 E1])
  (hk:AggR wx (ckeys k) (.agg #[.int .i64 k.p,.slice A na ca])) (hxa:AggR wx (cauth xa) (.agg #[.slice Ba xa.sh.length da,.slice Ca xa.mc.length fa])) (hxb:AggR wx (cauth xb) (.agg #[.slice Bb xb.sh.length db,.slice Cb xb.mc.length fb])) (ht:TrC wx tx T0 T1 T2 T3 T4 T5 d0 d1 d2 d3 d4 d5)
  (wk:kwf k) (wxa:awf xa) (wxb:awf xb) (wx_:twf tx) (hp1:1≤k.p)
  (Q:Exit→Act→World→Prop) (s0 s1 s2 s3 s4 s5 s6 s7 s8 s10 s11 s12 s17 s18 s19 s20 s21 s22 s23 s24 s25 s26 s27 s28 s29 s30 s31 s32 s33 s34 s35 s36 s37 s38 s39 s40 s41 s42 s43 s44 s45 s46 s47 s48 s49 s50 s51 s52 s53 s54 s55 s56 s57 s58 s59 s60 s61 s62 s63 s64 s65 s66 s67 s68 s69 s70 s71 s72 s73 s74 s75 s76 s77 s78 s79 s80 s81 s82 s83 s84 s85 s86 s87 s88 s89 s90 s91 s92 s93 s94 s95 s96 s97 s98 s99 s100 s101 s102 s103 s104 s105 s106 s107 s108 s109 s110 s111 s112 s113 s114 s115 s116 s117 s118 s119 s120 s121 s122 s123 s124 s125 s126 s127 s128 s129 s130 s131 s132 s133 s134 s135 s136 s137 s138 s139:Value)
  (hQ:∀(v102 v103 v104 v105 v106 v107 v108 v109 v110 v111 v112 v113 v114 v115 v116 v117 v118 v119 v120 v121 v122:Value) (w':World),wx.grownBy w' none→Q .normal (⟨List.toArray (s0 :: s1 :: s2 :: s3 :: s4 :: s5 :: s6 :: s7 :: s8 :: (.pointer (some ⟨g9,0,none⟩)) :: s10 :: s11 :: s12 :: (.pointer (some ⟨g13,0,none⟩)) :: (.pointer (some ⟨g14,0,none⟩)) :: (.pointer (some ⟨g15,0,none⟩)) :: (.pointer (some ⟨gO,0,none⟩)) :: s17 :: s18 :: s19 :: s20 :: s21 :: s22 :: s23 :: s24 :: s25 :: s26 :: s27 :: s28 :: s29 :: s30 :: s31 :: s32 :: s33 :: s34 :: s35 :: s36 :: s37 :: s38 :: s39 :: s40 :: s41 :: s42 :: s43 :: s44 :: s45 :: s46 :: s47 :: s48 :: s49 :: s50 :: s51 :: s52 :: s53 :: s54 :: s55 :: s56 :: s57 :: s58 :: s59 :: s60 :: s61 :: s62 :: s63 :: s64 :: s65 :: s66 :: s67 :: s68 :: s69 :: s70 :: s71 :: s72 :: s73 :: s74 :: s75 :: s76 :: s77 :: s78 :: s79 :: s80 :: s81 :: s82 :: s83 :: s84 :: s85 :: s86 :: s87 :: s88 :: s89 :: s90 :: s91 :: s92 :: s93 :: s94 :: s95 :: s96 :: s97 :: s98 :: s99 :: s100 :: s101 :: v102 :: v103 :: v104 :: v105 :: v106 :: v107 :: v108 :: v109 :: v110 :: v111 :: v112 :: v113 :: v114 :: v115 :: v116 :: v117 :: v118 :: v119 :: v120 :: v121 :: v122 :: (.bool (rb17 k xa xb tx D1 E1)) :: s124 :: s125 :: s126 :: s127 :: s128 :: s129 :: s130 :: s131 :: s132 :: s133 :: s134 :: s135 :: s136 :: s137 :: s138 :: s139 :: []),[]⟩:Act) w') :
  Code.wp Tryz.prog (regNo Tryz.f27 17) Q (⟨List.toArray (s0 :: s1 :: s2 :: s3 :: s4 :: s5 :: s6 :: s7 :: s8 :: (.pointer (some ⟨g9,0,none⟩)) :: s10 :: s11 :: s12 :: (.pointer (some ⟨g13,0,none⟩)) :: (.pointer (some ⟨g14,0,none⟩)) :: (.pointer (some ⟨g15,0,none⟩)) :: (.pointer (some ⟨gO,0,none⟩)) :: s17 :: s18 :: s19 :: s20 :: s21 :: s22 :: s23 :: s24 :: s25 :: s26 :: s27 :: s28 :: s29 :: s30 :: s31 :: s32 :: s33 :: s34 :: s35 :: s36 :: s37 :: s38 :: s39 :: s40 :: s41 :: s42 :: s43 :: s44 :: s45 :: s46 :: s47 :: s48 :: s49 :: s50 :: s51 :: s52 :: s53 :: s54 :: s55 :: s56 :: s57 :: s58 :: s59 :: s60 :: s61 :: s62 :: s63 :: s64 :: s65 :: s66 :: s67 :: s68 :: s69 :: s70 :: s71 :: s72 :: s73 :: s74 :: s75 :: s76 :: s77 :: s78 :: s79 :: s80 :: s81 :: s82 :: s83 :: s84 :: s85 :: s86 :: s87 :: s88 :: s89 :: s90 :: s91 :: s92 :: s93 :: s94 :: s95 :: s96 :: s97 :: s98 :: s99 :: s100 :: s101 :: s102 :: s103 :: s104 :: s105 :: s106 :: s107 :: s108 :: s109 :: s110 :: s111 :: s112 :: s113 :: s114 :: s115 :: s116 :: s117 :: s118 :: s119 :: s120 :: s121 :: s122 :: s123 :: s124 :: s125 :: s126 :: s127 :: s128 :: s129 :: s130 :: s131 :: s132 :: s133 :: s134 :: s135 :: s136 :: s137 :: s138 :: s139 :: []),[]⟩:Act) wx:=by
 conv=>arg 2;whnf
 have HQ:=zH hQ;have HK:=zH hk;have HXA:=zH hxa;have HXB:=zH hxb;have HT:=zH ht;have WK:=zH wk;have WXA:=zH wxa;have WXB:=zH wxb;have WX:=zH wx_;have kx0:=zH (K9.cell 0);have kx1:=zH (K9.cell 1);have dx0:=zH (BO.cell 0);have ex0:=zH (BO.cell 1);have ax0:=zH (B14.cell 0);have ax1:=zH (B14.cell 1);have bx0:=zH (B15.cell 0);have bx1:=zH (B15.cell 1);have tx0:=zH (B13.cell 0);have tx1:=zH (B13.cell 1);have tx2:=zH (B13.cell 2);have tx3:=zH (B13.cell 3);simp only [List.getElem?_toArray,List.getElem?_cons_succ,List.getElem?_cons_zero] at kx0 kx1 dx0 ex0 ax0 ax1 bx0 bx1 tx0 tx1 tx2 tx3;have QQA:Hid (awf (minusA k xa tx.a)):=zH (YY wxa);have QQB:Hid (awf (minusA k xb tx.b)):=zH (YY wxb);have HB:Hid (rb17 k xa xb tx D1 E1=(!Yb k D1 (minusA k xa tx.a)||!Yb k E1 (minusA k xb tx.b))):=rfl;clear hQ hk hxa hxb ht wk wxa wxb wx_ K9 BO B13 B14 B15
 cases hm1:Yb k D1 (minusA k xa tx.a)
 ·have M1:=zH hm1
  rw [hm1,Bool.not_false,Bool.true_or] at HB;rw [HB.out] at HQ;clear hm1;refine Zi [isV (.agg #[.int .i64 k.p,.slice A na ca]),isV (.pointer (some ⟨gO,0,none⟩)),isV (.int .i64 D1),isV (.agg #[.int .i64 k.p,.slice A na ca]),isV (.agg #[.slice Ba xa.sh.length da,.slice Ca xa.mc.length fa]),isV (.pointer (some ⟨g13,0,none⟩)),isV (.agg #[.slice T0 tx.a.sh.length d0,.slice T1 tx.a.mc.length d1]),autF wx.heap.size (minusA k xa tx.a),isV (.bool false),isV (.bool true),isV (.bool true),isV (undef),isV (undef),isV (undef),isV (undef),isV (undef),isV (undef),isV (undef),isV (undef),isV (undef),isV (undef),isV (.bool true)] (by kernel_rfl) (by kernel_rfl) (by kernel_rfl) (Za (Zb _) (Za (Zb _) (Za (Zb _) (Za (Zb _) (Za (Zb _) (Za (Zb _) (Za (Zb _) (Za (ZH) (Za (Zb _) (Za (Zb _) (Za (Zb _) (Za (Zb _) (Za (Zb _) (Za (Zb _) (Za (Zb _) (Za (Zb _) (Za (Zb _) (Za (Zb _) (Za (Zb _) (Za (Zb _) (Za (Zb _) (Za (Zb _) Qy)))))))))))))))))))))) ?_ ?_
  ·simp only [hops,and_true]
   refine ⟨?_, ?_, ?_, ?_, ?_, ?_, ?_, ?_, ?_, ?_, ?_, ?_, ?_, ?_, ?_, ?_, ?_, ?_, ?_, ?_, ?_, ?_⟩;rotate_left 7
   ·intro f w1 hG hd
    have hg4:=gbT (gbD (gbR wx none)) hG;simp [deps,tAt,isV] at hd
    first | simp [hd] | simp
    clear hd;go_wp2_with fail;refine (XG k xa tx.a _ _ _ w1 (HK.out.grow hg4) (HXA.out.grow hg4) (HT.out.xa.grow hg4) WK.out WXA.out WX.out.1 hp1).mono ?_;rintro e' w6 ⟨v6,rfl,o6,g6⟩;have O6:=zH (autF.lo o6 hg4.size);have G6':=zH g6;clear o6 g6;go_wp2_with fail;exact ⟨_,rfl,G6'.out,O6.out⟩
   ·intro f w1 hG hd
    have hg4:=gbT (gbD (gbR wx none)) hG;simp [deps,tAt,isV] at hd;obtain ⟨e102,e104,h109⟩:=hd
    have h109:autF wx.heap.size (minusA k xa tx.a) (f 109) w1:=by first | exact h109 | exact h109.1
    obtain ⟨P1,n1,c1,P2,n2,c2,e109⟩:=h109.form;rw [e109] at h109;have H109:=zH (autF.rd h109);clear h109;simp [puts,dsts,Act.put,e102,e104,e109];clear e102 e104 e109;go_wp2_with fail;refine (YJ k D1 (minusA k xa tx.a) _ _ w1 (HK.out.grow hg4) H109.out WK.out QQA.out).mono ?_;rintro e' w6 ⟨rfl,hw⟩;rw [M1.out];go_wp2_with fail;exact ⟨_,rfl,hw,rfl⟩
   all_goals
    intro f w1 hG hd;have hg4:=gbT (gbD (gbR wx none)) hG;have k0:=gbk hg4 (kx0.out);have k1:=gbk hg4 (kx1.out);have k2:=gbk hg4 (dx0.out);have k3:=gbk hg4 (ex0.out);have k4:=gbk hg4 (ax0.out);have k5:=gbk hg4 (ax1.out);have k6:=gbk hg4 (bx0.out);have k7:=gbk hg4 (bx1.out);have k8:=gbk hg4 (tx0.out);have k9:=gbk hg4 (tx1.out);have k10:=gbk hg4 (tx2.out);have k11:=gbk hg4 (tx3.out);simp [deps,tAt,isV] at hd
    first | simp [hd] | simp
    clear hd;go_wp2_with fail;exact ⟨_,rfl,by with_reducible exact gbR _ _,by simp [tAt,isV]⟩
  intro f w5 hG hd;simp [knows,tAt,isV] at hd;simp only [puts,dsts,Act.put,hd,zB,zC,zA,zD,zE];clear hd;have g5:=gbT (gbD (gbR wx none)) hG;clear hG;have HQ2:=HQ.out;apply HQ2;exact g5
 have M1:=zH hm1;rw [hm1,Bool.not_true,Bool.false_or] at HB;clear hm1
 cases hm2:Yb k E1 (minusA k xb tx.b)
 ·have M2:=zH hm2
  rw [hm2,Bool.not_false] at HB;rw [HB.out] at HQ;clear hm2;refine Zi [isV (.agg #[.int .i64 k.p,.slice A na ca]),isV (.pointer (some ⟨gO,0,none⟩)),isV (.int .i64 D1),isV (.agg #[.int .i64 k.p,.slice A na ca]),isV (.agg #[.slice Ba xa.sh.length da,.slice Ca xa.mc.length fa]),isV (.pointer (some ⟨g13,0,none⟩)),isV (.agg #[.slice T0 tx.a.sh.length d0,.slice T1 tx.a.mc.length d1]),autF wx.heap.size (minusA k xa tx.a),isV (.bool true),isV (.bool false),isV (.bool false),isV (.agg #[.int .i64 k.p,.slice A na ca]),isV (.pointer (some ⟨gO,1,none⟩)),isV (.int .i64 E1),isV (.agg #[.int .i64 k.p,.slice A na ca]),isV (.agg #[.slice Bb xb.sh.length db,.slice Cb xb.mc.length fb]),isV (.pointer (some ⟨g13,2,none⟩)),isV (.agg #[.slice T2 tx.b.sh.length d2,.slice T3 tx.b.mc.length d3]),autF wx.heap.size (minusA k xb tx.b),isV (.bool false),isV (.bool true),isV (.bool true)] (by kernel_rfl) (by kernel_rfl) (by kernel_rfl) (Za (Zb _) (Za (Zb _) (Za (Zb _) (Za (Zb _) (Za (Zb _) (Za (Zb _) (Za (Zb _) (Za (ZH) (Za (Zb _) (Za (Zb _) (Za (Zb _) (Za (Zb _) (Za (Zb _) (Za (Zb _) (Za (Zb _) (Za (Zb _) (Za (Zb _) (Za (Zb _) (Za (ZH) (Za (Zb _) (Za (Zb _) (Za (Zb _) Qy)))))))))))))))))))))) ?_ ?_
  ·simp only [hops,and_true]
   refine ⟨?_, ?_, ?_, ?_, ?_, ?_, ?_, ?_, ?_, ?_, ?_, ?_, ?_, ?_, ?_, ?_, ?_, ?_, ?_, ?_, ?_, ?_⟩;rotate_left 7
   ·intro f w1 hG hd
    have hg4:=gbT (gbD (gbR wx none)) hG;simp [deps,tAt,isV] at hd
    first | simp [hd] | simp
    clear hd;go_wp2_with fail;refine (XG k xa tx.a _ _ _ w1 (HK.out.grow hg4) (HXA.out.grow hg4) (HT.out.xa.grow hg4) WK.out WXA.out WX.out.1 hp1).mono ?_;rintro e' w6 ⟨v6,rfl,o6,g6⟩;have O6:=zH (autF.lo o6 hg4.size);have G6':=zH g6;clear o6 g6;go_wp2_with fail;exact ⟨_,rfl,G6'.out,O6.out⟩
   ·intro f w1 hG hd
    have hg4:=gbT (gbD (gbR wx none)) hG;simp [deps,tAt,isV] at hd;obtain ⟨e102,e104,h109⟩:=hd
    have h109:autF wx.heap.size (minusA k xa tx.a) (f 109) w1:=by first | exact h109 | exact h109.1
    obtain ⟨P1,n1,c1,P2,n2,c2,e109⟩:=h109.form;rw [e109] at h109;have H109:=zH (autF.rd h109);clear h109;simp [puts,dsts,Act.put,e102,e104,e109];clear e102 e104 e109;go_wp2_with fail;refine (YJ k D1 (minusA k xa tx.a) _ _ w1 (HK.out.grow hg4) H109.out WK.out QQA.out).mono ?_;rintro e' w6 ⟨rfl,hw⟩;rw [M1.out];go_wp2_with fail;exact ⟨_,rfl,hw,rfl⟩
   rotate_left 9
   ·intro f w1 hG hd
    have hg4:=gbT (gbD (gbR wx none)) hG;simp [deps,tAt,isV] at hd
    first | simp [hd] | simp
    clear hd;go_wp2_with fail;refine (XG k xb tx.b _ _ _ w1 (HK.out.grow hg4) (HXB.out.grow hg4) (HT.out.xb.grow hg4) WK.out WXB.out WX.out.2.1 hp1).mono ?_;rintro e' w6 ⟨v6,rfl,o6,g6⟩;have O6:=zH (autF.lo o6 hg4.size);have G6':=zH g6;clear o6 g6;go_wp2_with fail;exact ⟨_,rfl,G6'.out,O6.out⟩
   ·intro f w1 hG hd
    have hg4:=gbT (gbD (gbR wx none)) hG;simp [deps,tAt,isV] at hd;have e113:=hd.1;have e115:=hd.2.1;have h120:=hd.2.2.1;have e112:=hd.2.2.2;clear hd;have e120:=autF.eq h120;generalize s3A (agC 0 (f 120))=P1 at e120;generalize s3N (agC 0 (f 120))=n1 at e120;generalize s3C (agC 0 (f 120))=c1 at e120;generalize s3A (agC 1 (f 120))=P2 at e120;generalize s3N (agC 1 (f 120))=n2 at e120;generalize s3C (agC 1 (f 120))=c2 at e120;rw [e120] at h120;have H120:=zH (autF.rd h120);clear h120;simp [puts,dsts,Act.put,e112,e113,e115,e120];clear e112 e113 e115 e120;go_wp2_with fail;refine (YJ k E1 (minusA k xb tx.b) _ _ w1 (HK.out.grow hg4) H120.out WK.out QQB.out).mono ?_;rintro e' w6 ⟨rfl,hw⟩;rw [M2.out];go_wp2_with fail;exact ⟨_,rfl,hw,rfl⟩
   all_goals
    intro f w1 hG hd;have hg4:=gbT (gbD (gbR wx none)) hG;have k0:=gbk hg4 (kx0.out);have k1:=gbk hg4 (kx1.out);have k2:=gbk hg4 (dx0.out);have k3:=gbk hg4 (ex0.out);have k4:=gbk hg4 (ax0.out);have k5:=gbk hg4 (ax1.out);have k6:=gbk hg4 (bx0.out);have k7:=gbk hg4 (bx1.out);have k8:=gbk hg4 (tx0.out);have k9:=gbk hg4 (tx1.out);have k10:=gbk hg4 (tx2.out);have k11:=gbk hg4 (tx3.out);simp [deps,tAt,isV] at hd
    first | simp [hd] | simp
    clear hd;go_wp2_with fail;exact ⟨_,rfl,by with_reducible exact gbR _ _,by simp [tAt,isV]⟩
  intro f w5 hG hd;simp [knows,tAt,isV] at hd;simp only [puts,dsts,Act.put,hd,zB,zC,zA,zD,zE];clear hd;have g5:=gbT (gbD (gbR wx none)) hG;clear hG;have HQ2:=HQ.out;apply HQ2;exact g5
 have M2:=zH hm2;rw [hm2,Bool.not_true] at HB;rw [HB.out] at HQ;clear hm2;refine Zi [isV (.agg #[.int .i64 k.p,.slice A na ca]),isV (.pointer (some ⟨gO,0,none⟩)),isV (.int .i64 D1),isV (.agg #[.int .i64 k.p,.slice A na ca]),isV (.agg #[.slice Ba xa.sh.length da,.slice Ca xa.mc.length fa]),isV (.pointer (some ⟨g13,0,none⟩)),isV (.agg #[.slice T0 tx.a.sh.length d0,.slice T1 tx.a.mc.length d1]),autF wx.heap.size (minusA k xa tx.a),isV (.bool true),isV (.bool false),isV (.bool false),isV (.agg #[.int .i64 k.p,.slice A na ca]),isV (.pointer (some ⟨gO,1,none⟩)),isV (.int .i64 E1),isV (.agg #[.int .i64 k.p,.slice A na ca]),isV (.agg #[.slice Bb xb.sh.length db,.slice Cb xb.mc.length fb]),isV (.pointer (some ⟨g13,2,none⟩)),isV (.agg #[.slice T2 tx.b.sh.length d2,.slice T3 tx.b.mc.length d3]),autF wx.heap.size (minusA k xb tx.b),isV (.bool true),isV (.bool false),isV (.bool false)] (by kernel_rfl) (by kernel_rfl) (by kernel_rfl) (Za (Zb _) (Za (Zb _) (Za (Zb _) (Za (Zb _) (Za (Zb _) (Za (Zb _) (Za (Zb _) (Za (ZH) (Za (Zb _) (Za (Zb _) (Za (Zb _) (Za (Zb _) (Za (Zb _) (Za (Zb _) (Za (Zb _) (Za (Zb _) (Za (Zb _) (Za (Zb _) (Za (ZH) (Za (Zb _) (Za (Zb _) (Za (Zb _) Qy)))))))))))))))))))))) ?_ ?_
 ·simp only [hops,and_true]
  refine ⟨?_, ?_, ?_, ?_, ?_, ?_, ?_, ?_, ?_, ?_, ?_, ?_, ?_, ?_, ?_, ?_, ?_, ?_, ?_, ?_, ?_, ?_⟩;rotate_left 7
  ·intro f w1 hG hd
   have hg4:=gbT (gbD (gbR wx none)) hG;simp [deps,tAt,isV] at hd
   first | simp [hd] | simp
   clear hd;go_wp2_with fail;refine (XG k xa tx.a _ _ _ w1 (HK.out.grow hg4) (HXA.out.grow hg4) (HT.out.xa.grow hg4) WK.out WXA.out WX.out.1 hp1).mono ?_;rintro e' w6 ⟨v6,rfl,o6,g6⟩;have O6:=zH (autF.lo o6 hg4.size);have G6':=zH g6;clear o6 g6;go_wp2_with fail;exact ⟨_,rfl,G6'.out,O6.out⟩
  ·intro f w1 hG hd
   have hg4:=gbT (gbD (gbR wx none)) hG;simp [deps,tAt,isV] at hd;obtain ⟨e102,e104,h109⟩:=hd
   have h109:autF wx.heap.size (minusA k xa tx.a) (f 109) w1:=by first | exact h109 | exact h109.1
   obtain ⟨P1,n1,c1,P2,n2,c2,e109⟩:=h109.form;rw [e109] at h109;have H109:=zH (autF.rd h109);clear h109;simp [puts,dsts,Act.put,e102,e104,e109];clear e102 e104 e109;go_wp2_with fail;refine (YJ k D1 (minusA k xa tx.a) _ _ w1 (HK.out.grow hg4) H109.out WK.out QQA.out).mono ?_;rintro e' w6 ⟨rfl,hw⟩;rw [M1.out];go_wp2_with fail;exact ⟨_,rfl,hw,rfl⟩
  rotate_left 9
  ·intro f w1 hG hd
   have hg4:=gbT (gbD (gbR wx none)) hG;simp [deps,tAt,isV] at hd
   first | simp [hd] | simp
   clear hd;go_wp2_with fail;refine (XG k xb tx.b _ _ _ w1 (HK.out.grow hg4) (HXB.out.grow hg4) (HT.out.xb.grow hg4) WK.out WXB.out WX.out.2.1 hp1).mono ?_;rintro e' w6 ⟨v6,rfl,o6,g6⟩;have O6:=zH (autF.lo o6 hg4.size);have G6':=zH g6;clear o6 g6;go_wp2_with fail;exact ⟨_,rfl,G6'.out,O6.out⟩
  ·intro f w1 hG hd
   have hg4:=gbT (gbD (gbR wx none)) hG;simp [deps,tAt,isV] at hd;have e113:=hd.1;have e115:=hd.2.1;have h120:=hd.2.2.1;have e112:=hd.2.2.2;clear hd;have e120:=autF.eq h120;generalize s3A (agC 0 (f 120))=P1 at e120;generalize s3N (agC 0 (f 120))=n1 at e120;generalize s3C (agC 0 (f 120))=c1 at e120;generalize s3A (agC 1 (f 120))=P2 at e120;generalize s3N (agC 1 (f 120))=n2 at e120;generalize s3C (agC 1 (f 120))=c2 at e120;rw [e120] at h120;have H120:=zH (autF.rd h120);clear h120;simp [puts,dsts,Act.put,e112,e113,e115,e120];clear e112 e113 e115 e120;go_wp2_with fail;refine (YJ k E1 (minusA k xb tx.b) _ _ w1 (HK.out.grow hg4) H120.out WK.out QQB.out).mono ?_;rintro e' w6 ⟨rfl,hw⟩;rw [M2.out];go_wp2_with fail;exact ⟨_,rfl,hw,rfl⟩
  all_goals
   intro f w1 hG hd;have hg4:=gbT (gbD (gbR wx none)) hG;have k0:=gbk hg4 (kx0.out);have k1:=gbk hg4 (kx1.out);have k2:=gbk hg4 (dx0.out);have k3:=gbk hg4 (ex0.out);have k4:=gbk hg4 (ax0.out);have k5:=gbk hg4 (ax1.out);have k6:=gbk hg4 (bx0.out);have k7:=gbk hg4 (bx1.out);have k8:=gbk hg4 (tx0.out);have k9:=gbk hg4 (tx1.out);have k10:=gbk hg4 (tx2.out);have k11:=gbk hg4 (tx3.out);simp [deps,tAt,isV] at hd
   first | simp [hd] | simp
   clear hd;go_wp2_with fail;exact ⟨_,rfl,by with_reducible exact gbR _ _,by simp [tAt,isV]⟩
 intro f w5 hG hd;simp [knows,tAt,isV] at hd;simp only [puts,dsts,Act.put,hd,zB,zC,zA,zD,zE];clear hd;have g5:=gbT (gbD (gbR wx none)) hG;clear hG;have HQ2:=HQ.out;apply HQ2;exact g5
end Go.Proofs.YthaadgdeadbhkaaGreat
