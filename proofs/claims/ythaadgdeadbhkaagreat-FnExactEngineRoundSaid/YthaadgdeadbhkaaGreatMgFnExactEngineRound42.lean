/-
 l28May of the reference (printed by wip/gen_smay.py).
-/
import Derived.Test.YthaadgdeadbhkaaGreatMgFnExactEngineRound41
import Derived.Test.YthaadgdeadbhkaaGreatMgFnExactEngineRound34
open Go.RowKit
set_option linter.unusedVariables false
set_option linter.unusedSimpArgs false
namespace Go.Proofs.YthaadgdeadbhkaaGreat
attribute [local simp] puts dsts Act.put
set_option maxHeartbeats 40000000 in
set_option maxRecDepth 100000 in
theorem specl28May_c (m:EM) (ts:List TrM) (es ss:List Int) (v:Value) (S T R:Option Addr) (ns cs nt ct nr cr:Nat) (w0:World) (h:AggR w0 (Zd m) v) (hs:Ints w0 S ns ss) (ht:(Zs ts).rd w0 (.slice T nt ct)) (he:Ints w0 R nr es) (wm:ewf m) (wt:∀x∈ts,twf x) (hss:engOkB m=true→ss=mulsOf m) (hns:ns≤60) (hnt:nt≤1048576) (hnr:nr≤1048576) :
  Calls Tryz.prog 62 #[v,.slice S ns cs,.slice T nt ct,.slice R nr cr] w0 fun e w'=>e=.returned (.bool (mayB m ts es))∧w0.grownBy w' none:=by
 obtain ⟨A,B,C,D,E,a,b,c,d,e,rfl,hR⟩:=Zo h;obtain ⟨wb,hw1⟩:∃x:World,w0.alloc (.cells #[.int .i64 m.k.p,.slice A m.k.al.length a,.int .i64 m.c.p,.slice B m.c.st.length b,.slice C m.c.outs.length c,.slice D m.vs.length d,.slice E m.op.length e,.int .i64 m.rd,.bool m.bad] 58)=x:=⟨_,rfl⟩;have GW:Hid (w0.grownBy wb none):=by rw [← hw1];exact gbA (gbR _ _) _
 have D1:Hid (Blk wb w0.heap.size 58 #[.int .i64 m.k.p,.slice A m.k.al.length a,.int .i64 m.c.p,.slice B m.c.st.length b,.slice C m.c.outs.length c,.slice D m.vs.length d,.slice E m.op.length e,.int .i64 m.rd,.bool m.bad]):=by rw [← hw1];exact Blk.new w0 _ _
 have R1:=zH (hR.grow GW.out);have AL:=zH R1.out.al9;have WM:=zH wm;have WT:=zH wt;have SS:=zH hss;have SR:=zH (hs.grow GW.out);have TR:=zH (CS.grow _ ht GW.out);have ER:=zH (he.grow GW.out);have LT:=zH (YQ ht);have LS:=zH hs.len;obtain ⟨hp1,hp2⟩:=wm.k.1;obtain ⟨c0,c1,c2,c3,c4,c5,c6,c7,c8⟩:=D1.out.c9;have C0:=zH c0;have C1:=zH c1;have C2:=zH c2;have C3:=zH c3;have C4:=zH c4;have C5:=zH c5;have C6:=zH c6;have C7:=zH c7;have C8:=zH c8;clear h hR wm wt hss hs ht he c0 c1 c2 c3 c4 c5 c6 c7 c8
 go_enter Tryz.func62,Tryz.ntmps62
 go_wp2_with fail
 try rw [hw1]
 clear hw1
 cases h1:engOkB m
 ·have HOK:=zH h1
  have HM:Hid (mayB m ts es=false):=zH (mayB_no1 h1);clear h1;refine Zi [isV (.agg #[.int .i64 m.k.p,.slice A m.k.al.length a,.int .i64 m.c.p,.slice B m.c.st.length b,.slice C m.c.outs.length c,.slice D m.vs.length d,.slice E m.op.length e,.int .i64 m.rd,.bool m.bad]),isV (.bool false),isV (.bool true),isV (.bool true),isV (undef),isV (undef),isV (.bool true),isV (.bool true),isV (undef),isV (undef),isV (undef),isV (undef),isV (undef),isV (undef),isV (.bool true),isV (.bool true),isV (undef),isV (undef),isV (undef),isV (undef),isV (undef),isV (.bool true),isV (.bool true),isV (undef),isV (undef),isV (undef),isV (undef),isV (undef),isV (undef),isV (.bool true)] (by kernel_rfl) (by kernel_rfl) (by kernel_rfl) (by simp [ZB,Zb]) ?_ ?_
  ·simp only [hops,and_true]
   refine ⟨?_, ?_, ?_, ?_, ?_, ?_, ?_, ?_, ?_, ?_, ?_, ?_, ?_, ?_, ?_, ?_, ?_, ?_, ?_, ?_, ?_, ?_, ?_, ?_, ?_, ?_, ?_, ?_, ?_, ?_⟩;rotate_left 1
   ·intro f w1 hG hd
    have hg4:=gbT (gbD (gbR wb none)) hG;simp [deps,tAt,isV] at hd
    first | simp [hd] | simp
    clear hd;go_wp2_with fail;refine (Yt m _ w1 (AL.out.grow hg4) WM.out).mono ?_;rintro e w6 ⟨rfl,hw⟩;rw [HOK.out];go_wp2_with fail;exact ⟨_,rfl,by first | with_reducible exact gbR _ _ | exact hw,by simp [tAt,isV]⟩
   all_goals
    intro f w1 hG hd;have hg4:=gbT (gbD (gbR wb none)) hG;have k0:=gbk hg4 (C0.out);have k1:=gbk hg4 (C1.out);have k2:=gbk hg4 (C2.out);have k3:=gbk hg4 (C3.out);have k4:=gbk hg4 (C4.out);have k5:=gbk hg4 (C5.out);have k6:=gbk hg4 (C6.out);have k7:=gbk hg4 (C7.out);have k8:=gbk hg4 (C8.out);simp [deps,tAt,isV] at hd
    first | simp [hd] | simp
    clear hd;go_wp2_with fail;exact ⟨_,rfl,by with_reducible exact gbR _ _,by simp [tAt,isV]⟩
  intro f w5 hG hd;simp [knows,tAt,isV] at hd;simp only [puts,dsts,Act.put,hd,zB,zC,zA,zD,zE];clear hd;have g5:=gbT (gbD (gbR wb none)) hG;clear hG;have G5:=zH (gbT GW.out g5);clear g5;go_wp2_with fail;go_ret;exact ⟨retB HM.out.symm,G5.out⟩
 have HOK:=zH h1;clear h1
 cases h2:m.bad
 rotate_left
 ·have HM:Hid (mayB m ts es=false):=zH (mayB_no2 h2)
  rw [h2] at C8 AL;refine Zi [isV (.agg #[.int .i64 m.k.p,.slice A m.k.al.length a,.int .i64 m.c.p,.slice B m.c.st.length b,.slice C m.c.outs.length c,.slice D m.vs.length d,.slice E m.op.length e,.int .i64 m.rd,.bool true]),isV (.bool true),isV (.bool false),isV (.bool false),isV (.pointer (some ⟨w0.heap.size,8,none⟩)),isV (.bool true),isV (.bool true),isV (.bool true),isV (undef),isV (undef),isV (undef),isV (undef),isV (undef),isV (undef),isV (.bool true),isV (.bool true),isV (undef),isV (undef),isV (undef),isV (undef),isV (undef),isV (.bool true),isV (.bool true),isV (undef),isV (undef),isV (undef),isV (undef),isV (undef),isV (undef),isV (.bool true)] (by kernel_rfl) (by kernel_rfl) (by kernel_rfl) (by simp [ZB,Zb]) ?_ ?_
  ·simp only [hops,and_true]
   refine ⟨?_, ?_, ?_, ?_, ?_, ?_, ?_, ?_, ?_, ?_, ?_, ?_, ?_, ?_, ?_, ?_, ?_, ?_, ?_, ?_, ?_, ?_, ?_, ?_, ?_, ?_, ?_, ?_, ?_, ?_⟩;rotate_left 1
   ·intro f w1 hG hd
    have hg4:=gbT (gbD (gbR wb none)) hG;simp [deps,tAt,isV] at hd
    first | simp [hd] | simp
    clear hd;go_wp2_with fail;refine (Yt m _ w1 (AL.out.grow hg4) WM.out).mono ?_;rintro e w6 ⟨rfl,hw⟩;rw [HOK.out];go_wp2_with fail;exact ⟨_,rfl,by first | with_reducible exact gbR _ _ | exact hw,by simp [tAt,isV]⟩
   all_goals
    intro f w1 hG hd;have hg4:=gbT (gbD (gbR wb none)) hG;have k0:=gbk hg4 (C0.out);have k1:=gbk hg4 (C1.out);have k2:=gbk hg4 (C2.out);have k3:=gbk hg4 (C3.out);have k4:=gbk hg4 (C4.out);have k5:=gbk hg4 (C5.out);have k6:=gbk hg4 (C6.out);have k7:=gbk hg4 (C7.out);have k8:=gbk hg4 (C8.out);simp [deps,tAt,isV] at hd
    first | simp [hd] | simp
    clear hd;go_wp2_with fail;exact ⟨_,rfl,by with_reducible exact gbR _ _,by simp [tAt,isV]⟩
  intro f w5 hG hd;simp [knows,tAt,isV] at hd;simp only [puts,dsts,Act.put,hd,zB,zC,zA,zD,zE];clear hd;have g5:=gbT (gbD (gbR wb none)) hG;clear hG;have G5:=zH (gbT GW.out g5);clear g5;go_wp2_with fail;go_ret;exact ⟨retB HM.out.symm,G5.out⟩
 by_cases h3:m.rd<rounds m.c
 rotate_left
 ·have HM:Hid (mayB m ts es=false):=zH (mayB_no3 h3)
  rw [h2] at C8 AL;have h3':rounds m.c≤m.rd:=by omega
  refine Zi [isV (.agg #[.int .i64 m.k.p,.slice A m.k.al.length a,.int .i64 m.c.p,.slice B m.c.st.length b,.slice C m.c.outs.length c,.slice D m.vs.length d,.slice E m.op.length e,.int .i64 m.rd,.bool false]),isV (.bool true),isV (.bool false),isV (.bool false),isV (.pointer (some ⟨w0.heap.size,8,none⟩)),isV (.bool false),isV (.bool false),isV (.bool false),isV (.pointer (some ⟨w0.heap.size,7,none⟩)),isV (.int .i64 m.rd),isV (.pointer (some ⟨w0.heap.size,2,none⟩)),isV (.agg #[.int .i64 m.c.p,.slice B m.c.st.length b,.slice C m.c.outs.length c]),isV (.int .i64 (rounds m.c)),isV (.bool true),isV (.bool true),isV (.bool true),isV (undef),isV (undef),isV (undef),isV (undef),isV (undef),isV (.bool true),isV (.bool true),isV (undef),isV (undef),isV (undef),isV (undef),isV (undef),isV (undef),isV (.bool true)] (by kernel_rfl) (by kernel_rfl) (by kernel_rfl) (by simp [ZB,Zb]) ?_ ?_
  ·simp only [hops,and_true]
   refine ⟨?_, ?_, ?_, ?_, ?_, ?_, ?_, ?_, ?_, ?_, ?_, ?_, ?_, ?_, ?_, ?_, ?_, ?_, ?_, ?_, ?_, ?_, ?_, ?_, ?_, ?_, ?_, ?_, ?_, ?_⟩;rotate_left 1
   ·intro f w1 hG hd
    have hg4:=gbT (gbD (gbR wb none)) hG;simp [deps,tAt,isV] at hd
    first | simp [hd] | simp
    clear hd;go_wp2_with fail;refine (Yt m _ w1 (AL.out.grow hg4) WM.out).mono ?_;rintro e w6 ⟨rfl,hw⟩;rw [HOK.out];go_wp2_with fail;exact ⟨_,rfl,by first | with_reducible exact gbR _ _ | exact hw,by simp [tAt,isV]⟩
   rotate_left 10
   ·intro f w1 hG hd
    have hg4:=gbT (gbD (gbR wb none)) hG;simp [deps,tAt,isV] at hd
    first | simp [hd] | simp
    clear hd;go_wp2_with fail;refine (Xg m.c _ w1 (R1.out.ar.grow hg4) WM.out.c.wf).mono ?_;rintro e w6 ⟨rfl,hw⟩;go_wp2_with fail;exact ⟨_,rfl,by first | with_reducible exact gbR _ _ | exact hw,by simp [tAt,isV]⟩
   all_goals
    intro f w1 hG hd;have hg4:=gbT (gbD (gbR wb none)) hG;have k0:=gbk hg4 (C0.out);have k1:=gbk hg4 (C1.out);have k2:=gbk hg4 (C2.out);have k3:=gbk hg4 (C3.out);have k4:=gbk hg4 (C4.out);have k5:=gbk hg4 (C5.out);have k6:=gbk hg4 (C6.out);have k7:=gbk hg4 (C7.out);have k8:=gbk hg4 (C8.out);simp [deps,tAt,isV] at hd
    first | simp [hd] | simp
    clear hd;go_wp2_with fail;exact ⟨_,rfl,by with_reducible exact gbR _ _,by simp [tAt,isV]⟩
  intro f w5 hG hd;simp [knows,tAt,isV] at hd;simp only [puts,dsts,Act.put,hd,zB,zC,zA,zD,zE];clear hd;have g5:=gbT (gbD (gbR wb none)) hG;clear hG;have G5:=zH (gbT GW.out g5);clear g5;go_wp2_with fail;go_ret;exact ⟨retB HM.out.symm,G5.out⟩
 have hmo:=SS.out HOK.out;have h3':¬rounds m.c≤m.rd:=by omega
 by_cases h4:ns≤nt
 rotate_left
 ·have HM:Hid (mayB m ts es=false):=zH (mayB_no4 (by rw [← hmo,LS.out,LT.out];exact h4))
  rw [h2] at C8 AL;have h4':(nt:Int)<(ns:Int):=by omega
  clear hmo;refine Zi [isV (.agg #[.int .i64 m.k.p,.slice A m.k.al.length a,.int .i64 m.c.p,.slice B m.c.st.length b,.slice C m.c.outs.length c,.slice D m.vs.length d,.slice E m.op.length e,.int .i64 m.rd,.bool false]),isV (.bool true),isV (.bool false),isV (.bool false),isV (.pointer (some ⟨w0.heap.size,8,none⟩)),isV (.bool false),isV (.bool false),isV (.bool false),isV (.pointer (some ⟨w0.heap.size,7,none⟩)),isV (.int .i64 m.rd),isV (.pointer (some ⟨w0.heap.size,2,none⟩)),isV (.agg #[.int .i64 m.c.p,.slice B m.c.st.length b,.slice C m.c.outs.length c]),isV (.int .i64 (rounds m.c)),isV (.bool false),isV (.bool false),isV (.bool false),isV (.slice T nt ct),isV (.int .i64 nt),isV (.slice S ns cs),isV (.int .i64 ns),isV (.bool true),isV (.bool true),isV (.bool true),isV (undef),isV (undef),isV (undef),isV (undef),isV (undef),isV (undef),isV (.bool true)] (by kernel_rfl) (by kernel_rfl) (by kernel_rfl) (by simp [ZB,Zb]) ?_ ?_
  ·simp only [hops,and_true]
   refine ⟨?_, ?_, ?_, ?_, ?_, ?_, ?_, ?_, ?_, ?_, ?_, ?_, ?_, ?_, ?_, ?_, ?_, ?_, ?_, ?_, ?_, ?_, ?_, ?_, ?_, ?_, ?_, ?_, ?_, ?_⟩;rotate_left 1
   ·intro f w1 hG hd
    have hg4:=gbT (gbD (gbR wb none)) hG;simp [deps,tAt,isV] at hd
    first | simp [hd] | simp
    clear hd;go_wp2_with fail;refine (Yt m _ w1 (AL.out.grow hg4) WM.out).mono ?_;rintro e w6 ⟨rfl,hw⟩;rw [HOK.out];go_wp2_with fail;exact ⟨_,rfl,by first | with_reducible exact gbR _ _ | exact hw,by simp [tAt,isV]⟩
   rotate_left 10
   ·intro f w1 hG hd
    have hg4:=gbT (gbD (gbR wb none)) hG;simp [deps,tAt,isV] at hd
    first | simp [hd] | simp
    clear hd;go_wp2_with fail;refine (Xg m.c _ w1 (R1.out.ar.grow hg4) WM.out.c.wf).mono ?_;rintro e w6 ⟨rfl,hw⟩;go_wp2_with fail;exact ⟨_,rfl,by first | with_reducible exact gbR _ _ | exact hw,by simp [tAt,isV]⟩
   all_goals
    intro f w1 hG hd;have hg4:=gbT (gbD (gbR wb none)) hG;have k0:=gbk hg4 (C0.out);have k1:=gbk hg4 (C1.out);have k2:=gbk hg4 (C2.out);have k3:=gbk hg4 (C3.out);have k4:=gbk hg4 (C4.out);have k5:=gbk hg4 (C5.out);have k6:=gbk hg4 (C6.out);have k7:=gbk hg4 (C7.out);have k8:=gbk hg4 (C8.out);simp [deps,tAt,isV] at hd
    first | simp [hd] | simp
    clear hd;go_wp2_with fail;exact ⟨_,rfl,by with_reducible exact gbR _ _,by simp [tAt,isV]⟩
  intro f w5 hG hd;simp [knows,tAt,isV] at hd;simp only [puts,dsts,Act.put,hd,zB,zC,zA,zD,zE];clear hd;have g5:=gbT (gbD (gbR wb none)) hG;clear hG;have G5:=zH (gbT GW.out g5);clear g5;go_wp2_with fail;go_ret;exact ⟨retB HM.out.symm,G5.out⟩
 have h4':¬(nt:Int)<(ns:Int):=by omega
 cases h5:elemsB m.k.p es
 ·have HEL:=zH h5
  have HM:Hid (mayB m ts es=false):=zH (mayB_no5 h5);rw [h2] at C8 AL;clear hmo h5;refine Zi [isV (.agg #[.int .i64 m.k.p,.slice A m.k.al.length a,.int .i64 m.c.p,.slice B m.c.st.length b,.slice C m.c.outs.length c,.slice D m.vs.length d,.slice E m.op.length e,.int .i64 m.rd,.bool false]),isV (.bool true),isV (.bool false),isV (.bool false),isV (.pointer (some ⟨w0.heap.size,8,none⟩)),isV (.bool false),isV (.bool false),isV (.bool false),isV (.pointer (some ⟨w0.heap.size,7,none⟩)),isV (.int .i64 m.rd),isV (.pointer (some ⟨w0.heap.size,2,none⟩)),isV (.agg #[.int .i64 m.c.p,.slice B m.c.st.length b,.slice C m.c.outs.length c]),isV (.int .i64 (rounds m.c)),isV (.bool false),isV (.bool false),isV (.bool false),isV (.slice T nt ct),isV (.int .i64 nt),isV (.slice S ns cs),isV (.int .i64 ns),isV (.bool false),isV (.bool false),isV (.bool false),isV (.pointer (some ⟨w0.heap.size,0,none⟩)),isV (.pointer (some ⟨w0.heap.size,0,none⟩)),isV (.int .i64 m.k.p),isV (.slice R nr cr),isV (.bool false),isV (.bool true),isV (.bool true)] (by kernel_rfl) (by kernel_rfl) (by kernel_rfl) (by simp [ZB,Zb]) ?_ ?_
  ·simp only [hops,and_true]
   refine ⟨?_, ?_, ?_, ?_, ?_, ?_, ?_, ?_, ?_, ?_, ?_, ?_, ?_, ?_, ?_, ?_, ?_, ?_, ?_, ?_, ?_, ?_, ?_, ?_, ?_, ?_, ?_, ?_, ?_, ?_⟩;rotate_left 1
   ·intro f w1 hG hd
    have hg4:=gbT (gbD (gbR wb none)) hG;simp [deps,tAt,isV] at hd
    first | simp [hd] | simp
    clear hd;go_wp2_with fail;refine (Yt m _ w1 (AL.out.grow hg4) WM.out).mono ?_;rintro e w6 ⟨rfl,hw⟩;rw [HOK.out];go_wp2_with fail;exact ⟨_,rfl,by first | with_reducible exact gbR _ _ | exact hw,by simp [tAt,isV]⟩
   rotate_left 10
   ·intro f w1 hG hd
    have hg4:=gbT (gbD (gbR wb none)) hG;simp [deps,tAt,isV] at hd
    first | simp [hd] | simp
    clear hd;go_wp2_with fail;refine (Xg m.c _ w1 (R1.out.ar.grow hg4) WM.out.c.wf).mono ?_;rintro e w6 ⟨rfl,hw⟩;go_wp2_with fail;exact ⟨_,rfl,by first | with_reducible exact gbR _ _ | exact hw,by simp [tAt,isV]⟩
   rotate_left 14
   ·intro f w1 hG hd
    have hg4:=gbT (gbD (gbR wb none)) hG;simp [deps,tAt,isV] at hd
    first | simp [hd] | simp
    clear hd;go_wp2_with fail;refine (ZU m.k.p R nr cr es w1 (by omega) (ER.out.grow hg4) (by omega)).mono ?_;rintro e w6 ⟨rfl,rfl⟩;rw [HEL.out];go_wp2_with fail;exact ⟨_,rfl,by first | with_reducible exact gbR _ _ | exact hw,by simp [tAt,isV]⟩
   all_goals
    intro f w1 hG hd;have hg4:=gbT (gbD (gbR wb none)) hG;have k0:=gbk hg4 (C0.out);have k1:=gbk hg4 (C1.out);have k2:=gbk hg4 (C2.out);have k3:=gbk hg4 (C3.out);have k4:=gbk hg4 (C4.out);have k5:=gbk hg4 (C5.out);have k6:=gbk hg4 (C6.out);have k7:=gbk hg4 (C7.out);have k8:=gbk hg4 (C8.out);simp [deps,tAt,isV] at hd
    first | simp [hd] | simp
    clear hd;go_wp2_with fail;exact ⟨_,rfl,by with_reducible exact gbR _ _,by simp [tAt,isV]⟩
  intro f w5 hG hd;simp [knows,tAt,isV] at hd;simp only [puts,dsts,Act.put,hd,zB,zC,zA,zD,zE];clear hd;have g5:=gbT (gbD (gbR wb none)) hG;clear hG;have G5:=zH (gbT GW.out g5);clear g5;go_wp2_with fail;go_ret;exact ⟨retB HM.out.symm,G5.out⟩
 have HEL:=zH h5;have HM:Hid (mayB m ts es=(List.range (mulsOf m).length).all fun j=>tripOk m (trAt ts j) ((mulsOf m).getD j 0).toNat):=zH (mayB_at HOK.out h2 h3 (by rw [← hmo,LS.out,LT.out];exact h4) h5);rw [h2] at C8 AL;rw [← hmo,LS.out] at HM;have HMO:=zH hmo;clear hmo h5;refine Zi [isV (.agg #[.int .i64 m.k.p,.slice A m.k.al.length a,.int .i64 m.c.p,.slice B m.c.st.length b,.slice C m.c.outs.length c,.slice D m.vs.length d,.slice E m.op.length e,.int .i64 m.rd,.bool false]),isV (.bool true),isV (.bool false),isV (.bool false),isV (.pointer (some ⟨w0.heap.size,8,none⟩)),isV (.bool false),isV (.bool false),isV (.bool false),isV (.pointer (some ⟨w0.heap.size,7,none⟩)),isV (.int .i64 m.rd),isV (.pointer (some ⟨w0.heap.size,2,none⟩)),isV (.agg #[.int .i64 m.c.p,.slice B m.c.st.length b,.slice C m.c.outs.length c]),isV (.int .i64 (rounds m.c)),isV (.bool false),isV (.bool false),isV (.bool false),isV (.slice T nt ct),isV (.int .i64 nt),isV (.slice S ns cs),isV (.int .i64 ns),isV (.bool false),isV (.bool false),isV (.bool false),isV (.pointer (some ⟨w0.heap.size,0,none⟩)),isV (.pointer (some ⟨w0.heap.size,0,none⟩)),isV (.int .i64 m.k.p),isV (.slice R nr cr),isV (.bool true),isV (.bool false),isV (.bool false)] (by kernel_rfl) (by kernel_rfl) (by kernel_rfl) (by simp [ZB,Zb]) ?_ ?_
 ·simp only [hops,and_true]
  refine ⟨?_, ?_, ?_, ?_, ?_, ?_, ?_, ?_, ?_, ?_, ?_, ?_, ?_, ?_, ?_, ?_, ?_, ?_, ?_, ?_, ?_, ?_, ?_, ?_, ?_, ?_, ?_, ?_, ?_, ?_⟩;rotate_left 1
  ·intro f w1 hG hd
   have hg4:=gbT (gbD (gbR wb none)) hG;simp [deps,tAt,isV] at hd
   first | simp [hd] | simp
   clear hd;go_wp2_with fail;refine (Yt m _ w1 (AL.out.grow hg4) WM.out).mono ?_;rintro e w6 ⟨rfl,hw⟩;rw [HOK.out];go_wp2_with fail;exact ⟨_,rfl,by first | with_reducible exact gbR _ _ | exact hw,by simp [tAt,isV]⟩
  rotate_left 10
  ·intro f w1 hG hd
   have hg4:=gbT (gbD (gbR wb none)) hG;simp [deps,tAt,isV] at hd
   first | simp [hd] | simp
   clear hd;go_wp2_with fail;refine (Xg m.c _ w1 (R1.out.ar.grow hg4) WM.out.c.wf).mono ?_;rintro e w6 ⟨rfl,hw⟩;go_wp2_with fail;exact ⟨_,rfl,by first | with_reducible exact gbR _ _ | exact hw,by simp [tAt,isV]⟩
  rotate_left 14
  ·intro f w1 hG hd
   have hg4:=gbT (gbD (gbR wb none)) hG;simp [deps,tAt,isV] at hd
   first | simp [hd] | simp
   clear hd;go_wp2_with fail;refine (ZU m.k.p R nr cr es w1 (by omega) (ER.out.grow hg4) (by omega)).mono ?_;rintro e w6 ⟨rfl,rfl⟩;rw [HEL.out];go_wp2_with fail;exact ⟨_,rfl,by first | with_reducible exact gbR _ _ | exact hw,by simp [tAt,isV]⟩
  all_goals
   intro f w1 hG hd;have hg4:=gbT (gbD (gbR wb none)) hG;have k0:=gbk hg4 (C0.out);have k1:=gbk hg4 (C1.out);have k2:=gbk hg4 (C2.out);have k3:=gbk hg4 (C3.out);have k4:=gbk hg4 (C4.out);have k5:=gbk hg4 (C5.out);have k6:=gbk hg4 (C6.out);have k7:=gbk hg4 (C7.out);have k8:=gbk hg4 (C8.out);simp [deps,tAt,isV] at hd
   first | simp [hd] | simp
   clear hd;go_wp2_with fail;exact ⟨_,rfl,by with_reducible exact gbR _ _,by simp [tAt,isV]⟩
 intro f w5 hG hd;simp [knows,tAt,isV] at hd;simp only [puts,dsts,Act.put,hd,zB,zC,zA,zD,zE];clear hd;have g5:=gbT (gbD (gbR wb none)) hG;clear hG;have G5:=zH g5;have B5:=zH (D1.out.grow g5);clear g5 C0 C1 C2 C3 C4 C5 C6 C7 C8 AL;have OKB:=zH (YZ HOK.out);have hrd:=(OKB.out.2.2.2.2.1);obtain ⟨r,hr⟩:=Int.eq_ofNat_of_zero_le (Vl hrd).1;have HR:=zH hr;have HKB:=zH OKB.out.1;clear h2 h3 h3' h4' hr hrd;go_wp2_with fail
 go_loopw [9] (fun i wr=>∃k:Nat,k≤ns∧i=.int .i64 k∧Hid (∀q,q<k→tripOk m (trAt ts q) (ss.getD q 0).toNat=true)∧Hid (w5.grownBy wr none)) (fun i _=>ns - (intOf i).toNat)
 case atStart=>exact ⟨0,Nat.zero_le _,rfl,zH (fun q hq=>by omega),zH (gbR _ _)⟩
 case round =>
  obtain ⟨k,hk,rfl,hO,hG⟩:=hrel
  by_cases hlt:k<ns
  ·have i1:(k:Int)<(ns:Int):=by omega
   have i0:(k:Int)<(nt:Int):=by omega
   have GR:=zH (gbT G5.out hG.out);have hkm:k<(mulsOf m).length:=by rw [← HMO.out,LS.out];exact hlt
   obtain ⟨i,j1,j2,j3,j4,j5,j6,_⟩:=muls_lt OKB.out.2.1 HR.out hkm;rw [← HMO.out] at j2;obtain ⟨sb,so,rfl,_,hsc⟩:=(SR.out.grow GR.out).at_ (by omega);have s9:=hsc k hlt;rw [j2] at s9;have J2:=zH j2;obtain ⟨sb2,so2,x,y,z,rfl,_,hx,q0,q1,q2⟩:=YM (FL.grow R1.out.stp GR.out) (k:=i) j1;have hst:stAt m.c i=(x,y,z):=by simp [stAt,zF,hx]
   rw [hst] at j3 j5 j6;have hx4:x=4:=j3;obtain ⟨ya,zb,hya,hzb,hai,hbi⟩:=Wf OKB.out.2.1 j1 hst (.inr hx4);subst hya;subst hzb;subst hx4;have HST:=zH hst;have i2:(i:Int)<(m.c.st.length:Int):=by omega
   have i3:(ya:Int)<(m.vs.length:Int):=by have:=OKB.out.2.2.2.1;omega
   have i4:(zb:Int)<(m.vs.length:Int):=by have:=OKB.out.2.2.2.1;omega
   obtain ⟨tb,to_,T0,T1,T2,T3,T4,T5,d0,d1,d2,d3,d4,d5,rfl,_,t0,t1,t2,t3,t4,t5,hT⟩:=Yd (CS.grow _ TR.out GR.out) (k:=k) (by omega);obtain ⟨vb,vo,xa,Ba,da,Ca,fa,hDe,_,hxa,a0,a1,hXA⟩:=ZL (CS.grow _ R1.out.va GR.out) (k:=ya) (by have:=OKB.out.2.2.2.1;omega);obtain ⟨vb',vo',xb,Bb,db,Cb,fb,hDe',_,hxb,b0,b1,hXB⟩:=ZL (CS.grow _ R1.out.va GR.out) (k:=zb) (by have:=OKB.out.2.2.2.1;omega);subst hDe;injection hDe' with hDe';injection hDe' with e1 e2 _;subst e1;subst e2;have hga:getA m.vs ya=xa:=by unfold getA;rw [zF,hxa];rfl
   have hgb:getA m.vs zb=xb:=by unfold getA;rw [zF,hxb];rfl
   obtain ⟨tx,htx⟩:∃q,trAt ts k=q:=⟨_,rfl⟩;have WX:=zH (VB WT.out (k:=k) (by rw [LT.out];omega));rw [htx] at t0 t1 t2 t3 t4 t5 hT WX
   have HTRIP:Hid (tripOk m tx i=(formB m.k tx.a&&formB m.k tx.b&&formB m.k tx.c&&!zeroA xa&&!zeroA xb)):=by
    unfold Hid tripOk opA opB;rw [HST.out];simp only [Int.toNat_natCast];rw [hga,hgb]
   have HTX:=zH htx;have HT:=zH hT;have HXA:=zH hXA;have HXB:=zH hXB;have BR:=zH (B5.out.grow hG.out);have e0:=BR.out.cell 0;have e1:=BR.out.cell 1;have e3:=BR.out.cell 3;have e5:=BR.out.cell 5;simp only [List.getElem?_toArray,List.getElem?_cons_succ,List.getElem?_cons_zero] at e0 e1 e3 e5;have A0:=zH a0;have A1:=zH a1;have B0:=zH b0;have B1:=zH b1;have E3:=zH e3;have S9:=zH s9;have Q0:=zH q0;have Q1:=zH q1;have Q2:=zH q2;have OKA:Hid (okV m.k xa=true):=by rw [← hga];exact zH (OKB.out.2.2.2.2.2 ya)
   have OKZ:Hid (okV m.k xb=true):=by rw [← hgb];exact zH (OKB.out.2.2.2.2.2 zb)
   clear hsc hx hst hxa hxb hga hgb hT hXA hXB a0 a1 b0 b1 e0 e1 e3 e5 htx j2 j3 hkm s9 q0 q1 q2;go_wp2_with fail
   refine Zg [.rd (.pointer (some ⟨w0.heap.size,2,none⟩)),.rd (.pointer (some ⟨w0.heap.size,3,none⟩)),.rd (.slice (some ⟨sb2,so2,none⟩) m.c.st.length b),.rd (.slice (some ⟨sb,so,none⟩) ns cs),.rd (.int .i64 k),.rd (.pointer (some ⟨sb,so+k,none⟩)),.rd (.int .i64 i),.rd (.pointer (some ⟨sb2,so2+i*3,none⟩)),.rd (.agg #[.int .i64 4,.int .i64 ya,.int .i64 zb]),.ch,.ch] (fun _=>False)
    [⟨[],fun _ w'=>wr.drew.grownBy w' none⟩,
     ⟨[10],fun l w'=>(∃g,l.getD 0 undef=.pointer (some ⟨g,0,none⟩)∧wr.heap.size≤g∧Blk w' g 102 #[.int .i64 0,.int .i64 0,.int .i64 0])∧wr.grownBy w' none⟩,
     ⟨[10],fun l w'=>(∃g,l.getD 0 undef=.pointer (some ⟨g,0,none⟩)∧wr.heap.size≤g∧Blk w' g 102 #[.int .i64 4,.int .i64 ya,.int .i64 zb])∧wr.grownBy w' none⟩]
    (by kernel_rfl) (by kernel_rfl) (by kernel_rfl) 2 (by kernel_rfl) (by simp only [flOk,and_true]) (gbR _ _) rfl ?_ ?_
   ·simp only [hopsK,hopK,Kd.next,and_true]
    refine ⟨?_, ?_, ?_, ?_, ?_, ?_, ?_, ?_, ?_, ?_, ?_⟩;rotate_left 9
    ·intro f w4 hG hI hd
     have hg4:=gbT (gbD (gbR wr none)) (chgF hG);have hz4:=hg4.size;clear hd;simp [puts,dsts,Act.put];go_wp2_with fail;exact ⟨_,rfl,⟨⟨_,rfl,hz4,Blk.new _ _ _⟩,gbA hg4 _⟩,⟨Chg.of (gbA (gbR _ none) _) (by simp),by simp [keepsC,dstAt]⟩⟩
    ·intro f w4 hG hI hd
     have hg4:=gbT (gbD (gbR wr none)) (chgF hG);have hz4:=hg4.size;obtain ⟨⟨g9,e9,hg9,R4⟩,hI⟩:=hI;have e9:f 10=.pointer (some ⟨g9,0,none⟩):=e9
     (try simp [depsC,dstAt,kAt,bindE,List.filter_cons,Zy,Zp,Zq,Zr,Zz,Yu] at hd)
     have f0:=R4.frozen 0;have f1:=R4.frozen 1;have f2:=R4.frozen 2;have b0:=R4.cell 0;have b1:=R4.cell 1;have b2:=R4.cell 2;simp at b0 b1 b2;have RS:=zH (Zh R4 [.int .i64 4,.int .i64 ya,.int .i64 zb] rfl);have GS:=zH (Zv hg4 (Zc g9 [.int .i64 4,.int .i64 ya,.int .i64 zb] 0 w4) hg9);clear R4 hI;simp [puts,dsts,Act.put,e9,hd];clear hd;go_wp2_with fail;exact ⟨rfl,.bool false,⟨g9,e9,hg9,RS.out⟩,GS.out⟩
    all_goals
     intro f w4 hG hd;have hg4:=gbT (gbD (gbR wr none)) (chgF hG);have k0:=gbk hg4 (E3.out);have k1:=gbk hg4 (S9.out);have k2:=gbk hg4 (Q0.out);have k3:=gbk hg4 (Q1.out);have k4:=gbk hg4 (Q2.out)
     (try simp [depsC,dstAt,kAt,bindE,List.filter_cons,Zy,Zp,Zq,Zr,Zz,Yu] at hd)
     (first | simp [hd] | simp)
     clear hd;go_wp2_with fail;exact ⟨rfl,rfl⟩
   intro f wt hI hd;simp only [puts,dsts,Act.put,zB,zC,zA,zD,zE];obtain ⟨⟨gs,e9,hgs,BSt⟩,hgt⟩:=hI;have e9:f 10=.pointer (some ⟨gs,0,none⟩):=e9;rw [e9];have GT:=zH hgt;have BST:=zH BSt;have t0:=gbk hgt t0;have t1:=gbk hgt t1;have t2:=gbk hgt t2;have t3:=gbk hgt t3;have t4:=gbk hgt t4;have t5:=gbk hgt t5;clear hd e9 hgt BSt E3 S9 Q0 Q1 Q2;have e0:=(BR.out.grow GT.out).cell 0;have e1:=(BR.out.grow GT.out).cell 1;simp only [List.getElem?_toArray,List.getElem?_cons_succ,List.getElem?_cons_zero] at e0 e1;have e0':=fun o=>kA e0 o;have e1':=fun o=>kA e1 o;go_wp2_with fail;clear t0 t1 t2 t3 t4 t5 e0 e1 e0' e1';obtain ⟨wu,hwu⟩:∃q:World,wt.alloc (.cells #[.slice T0 tx.a.sh.length d0,.slice T1 tx.a.mc.length d1,.slice T2 tx.b.sh.length d2,.slice T3 tx.b.mc.length d3,.slice T4 tx.c.sh.length d4,.slice T5 tx.c.mc.length d5] 82)=q:=⟨_,rfl⟩;obtain ⟨gt,hgt⟩:∃q,wt.heap.size=q:=⟨_,rfl⟩;have GU:Hid (wr.grownBy wu none):=by rw [← hwu];exact zH (gbA GT.out _)
   have BU:Hid (Blk wu gs 102 #[.int .i64 4,.int .i64 ya,.int .i64 zb]):=by rw [← hwu];exact zH (BST.out.grow (gbA (gbR _ _) _))
   have BTu:Hid (Blk wu gt 82 #[.slice T0 tx.a.sh.length d0,.slice T1 tx.a.mc.length d1,.slice T2 tx.b.sh.length d2,.slice T3 tx.b.mc.length d3,.slice T4 tx.c.sh.length d4,.slice T5 tx.c.mc.length d5]):=by rw [← hwu,← hgt];exact zH (Blk.new _ _ _)
   rw [hwu]
   try rw [hgt]
   clear hwu hgt GT BST;refine (Zx m.k tx.a _ _ wu (R1.out.ky.grow (gbT GR.out GU.out)) (HT.out.xa.grow GU.out) WM.out.k WX.out.1).mono ?_;rintro e w6 ⟨rfl,g6⟩;have G6:=zH (gbT GU.out g6);have B6:=zH (BU.out.grow g6);have BT6:=zH (BTu.out.grow g6);clear g6 BU BTu
   cases hf:formB m.k tx.a
   ·rw [hf] at HTRIP
    clear hf
    have hno:mayB m ts es=false:=by
     rw [HM.out,List.all_eq_false];exact ⟨k,List.mem_range.2 hlt,by rw [HTX.out,J2.out,Int.toNat_natCast,HTRIP.out];simp⟩
    have HNO:=zH hno;have GZ:=zH (gbT GW.out (gbT GR.out (G6.out)));clear hno;go_wp2_with fail;go_ret;exact ⟨retB HNO.out.symm,GZ.out⟩
   rw [hf,Bool.true_and] at HTRIP;clear hf;have e0:=(BR.out.grow G6.out).cell 0;have e1:=(BR.out.grow G6.out).cell 1;have t0:=BT6.out.cell 2;have t1:=BT6.out.cell 3;simp only [List.getElem?_toArray,List.getElem?_cons_succ,List.getElem?_cons_zero] at e0 e1 t0 t1;go_wp2_with fail;clear e0 e1 t0 t1;refine (Zx m.k tx.b _ _ w6 (R1.out.ky.grow (gbT GR.out G6.out)) (HT.out.xb.grow G6.out) WM.out.k WX.out.2.1).mono ?_;rintro e w7 ⟨rfl,g6⟩;have G7:=zH (gbT G6.out g6);have B7:=zH (B6.out.grow g6);have BT7:=zH (BT6.out.grow g6);clear g6 B6 BT6
   cases hf:formB m.k tx.b
   ·rw [hf] at HTRIP
    clear hf
    have hno:mayB m ts es=false:=by
     rw [HM.out,List.all_eq_false];exact ⟨k,List.mem_range.2 hlt,by rw [HTX.out,J2.out,Int.toNat_natCast,HTRIP.out];simp⟩
    have HNO:=zH hno;have GZ:=zH (gbT GW.out (gbT GR.out (G7.out)));clear hno;go_wp2_with fail;go_ret;exact ⟨retB HNO.out.symm,GZ.out⟩
   rw [hf,Bool.true_and] at HTRIP;clear hf;have e0:=(BR.out.grow G7.out).cell 0;have e1:=(BR.out.grow G7.out).cell 1;have t0:=BT7.out.cell 4;have t1:=BT7.out.cell 5;simp only [List.getElem?_toArray,List.getElem?_cons_succ,List.getElem?_cons_zero] at e0 e1 t0 t1;go_wp2_with fail;clear e0 e1 t0 t1;refine (Zx m.k tx.c _ _ w7 (R1.out.ky.grow (gbT GR.out G7.out)) (HT.out.xc.grow G7.out) WM.out.k WX.out.2.2).mono ?_;rintro e w8 ⟨rfl,g6⟩;have G8:=zH (gbT G7.out g6);have B8:=zH (B7.out.grow g6);have BT8:=zH (BT7.out.grow g6);clear g6 B7 BT7
   cases hf:formB m.k tx.c
   ·rw [hf] at HTRIP
    clear hf
    have hno:mayB m ts es=false:=by
     rw [HM.out,List.all_eq_false];exact ⟨k,List.mem_range.2 hlt,by rw [HTX.out,J2.out,Int.toNat_natCast,HTRIP.out];simp⟩
    have HNO:=zH hno;have GZ:=zH (gbT GW.out (gbT GR.out (G8.out)));clear hno;go_wp2_with fail;go_ret;exact ⟨retB HNO.out.symm,GZ.out⟩
   rw [hf,Bool.true_and] at HTRIP;clear hf;have s1:=B8.out.cell 1;have s2:=B8.out.cell 2;have e5:=(BR.out.grow G8.out).cell 5;simp only [List.getElem?_toArray,List.getElem?_cons_succ,List.getElem?_cons_zero] at s1 s2 e5;have a0:=gbk G8.out A0.out;have b0:=gbk G8.out B0.out;have GZ9:=G8
   cases hza:zeroA xa
   rotate_left
   ·have tka:((xa.sh.length:Int) == 0)=true:=by rw [okV_z OKA.out hza];rfl
    rw [hza] at HTRIP;clear hza
    have hno:mayB m ts es=false:=by
     rw [HM.out,List.all_eq_false];exact ⟨k,List.mem_range.2 hlt,by rw [HTX.out,J2.out,Int.toNat_natCast,HTRIP.out];simp⟩
    have HNO:=zH hno;have GZ:=zH (gbT GW.out (gbT GR.out (G8.out)));clear hno;go_wp2_with fail;go_ret;exact ⟨retB HNO.out.symm,GZ.out⟩
   have tka:((xa.sh.length:Int) == 0)=false:=by have:=okV_nz OKA.out hza;simp;intro h;rw [h] at this;exact absurd this (by decide)
   rw [hza,Bool.not_false,Bool.true_and] at HTRIP;clear hza
   cases hzb:zeroA xb
   rotate_left
   ·have tkb:((xb.sh.length:Int) == 0)=true:=by rw [okV_z OKZ.out hzb];rfl
    rw [hzb] at HTRIP;clear hzb
    have hno:mayB m ts es=false:=by
     rw [HM.out,List.all_eq_false];exact ⟨k,List.mem_range.2 hlt,by rw [HTX.out,J2.out,Int.toNat_natCast,HTRIP.out];simp⟩
    have HNO:=zH hno;have GZ:=zH (gbT GW.out (gbT GR.out (G8.out)));clear hno;go_wp2_with fail;go_ret;exact ⟨retB HNO.out.symm,GZ.out⟩
   have tkb:((xb.sh.length:Int) == 0)=false:=by have:=okV_nz OKZ.out hzb;simp;intro h;rw [h] at this;exact absurd this (by decide)
   rw [hzb] at HTRIP;clear hzb
   have O2:Hid (∀q,q<k+1→tripOk m (trAt ts q) (ss.getD q 0).toNat=true):=zH (fun q hq=>by
    by_cases e:q=k
    ·subst e;rw [HTX.out,J2.out,Int.toNat_natCast,HTRIP.out];rfl
    ·exact hO.out q (by omega))
   have G9:=zH (gbT hG.out GZ9.out);go_wp2_with fail
   go_roundw
   case rel=>exact ⟨k+1,by omega,by go_num,O2,G9⟩
   case measure=>simp [intOf];omega
  ·have hkn:k=ns:=by omega
   subst hkn
   have hyes:mayB m ts es=true:=by
    rw [HM.out,List.all_eq_true];intro q hq;rw [List.mem_range] at hq;exact hO.out q hq
   have HY:=zH hyes;have GZ:=zH (gbT GW.out (gbT G5.out hG.out));clear hyes;go_wp2_with fail;go_ret;exact ⟨retB HY.out.symm,GZ.out⟩
end Go.Proofs.YthaadgdeadbhkaaGreat
