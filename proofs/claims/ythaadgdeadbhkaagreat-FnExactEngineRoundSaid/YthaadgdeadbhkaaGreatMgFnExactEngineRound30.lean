/-
 mayRound of the program (printed by wip/gen_may.py).
-/
import Derived.Test.YthaadgdeadbhkaaGreatMgFnExactEngineRound26
import Derived.Test.YthaadgdeadbhkaaGreatMgFnExactEngineRound29
open Go.RowKit
set_option linter.unusedVariables false
set_option linter.unusedSimpArgs false
namespace Go.Proofs.YthaadgdeadbhkaaGreat
attribute [local simp] puts dsts Act.put
theorem mayB_no1 {m:EM} {ts:List TrM} {es:List Int} (h:engOkB m=false):mayB m ts es=false:=by unfold mayB;rw [h];rfl
theorem mayB_no2 {m:EM} {ts:List TrM} {es:List Int} (h:m.bad=true):mayB m ts es=false:=by unfold mayB;rw [h];simp
theorem mayB_no3 {m:EM} {ts:List TrM} {es:List Int} (h:¬m.rd<rounds m.c):mayB m ts es=false:=by unfold mayB;simp [h]
theorem mayB_no4 {m:EM} {ts:List TrM} {es:List Int} (h:¬(mulsOf m).length≤ts.length):mayB m ts es=false:=by unfold mayB;simp [h]
theorem mayB_no5 {m:EM} {ts:List TrM} {es:List Int} (h:elemsB m.k.p es=false):mayB m ts es=false:=by unfold mayB;simp [h]
theorem mayB_at {m:EM} {ts:List TrM} {es:List Int} (h1:engOkB m=true) (h2:m.bad=false) (h3:m.rd<rounds m.c) (h4:(mulsOf m).length≤ts.length) (h5:elemsB m.k.p es=true) :
  mayB m ts es=(List.range (mulsOf m).length).all fun j=>tripOk m (trAt ts j) ((mulsOf m).getD j 0).toNat:=by unfold mayB;simp [h1,h2,h3,h4,h5]
set_option maxHeartbeats 40000000 in
set_option maxRecDepth 100000 in
theorem implmayRound_c (m:EM) (ts:List TrM) (es ss:List Int) (v:Value) (S T R:Option Addr) (ns cs nt ct nr cr:Nat) (w0:World) (h:AggR w0 (Zd m) v) (hs:Ints w0 S ns ss) (ht:(Zs ts).rd w0 (.slice T nt ct)) (he:Ints w0 R nr es) (wm:ewf m) (wt:∀x∈ts,twf x) (hss:engOkB m=true→ss=mulsOf m) (hns:ns≤60) (hnt:nt≤1048576) (hnr:nr≤1048576) :
  Calls Tryz.prog 66 #[v,.slice S ns cs,.slice T nt ct,.slice R nr cr] w0 fun e w'=>e=.returned (.bool (mayB m ts es))∧w0.grownBy w' none:=by
 obtain ⟨A,B,C,D,E,a,b,c,d,e,rfl,hR⟩:=Zo h;obtain ⟨wb,hw1⟩:∃x:World,w0.alloc (.cells #[.int .i64 m.k.p,.slice A m.k.al.length a,.int .i64 m.c.p,.slice B m.c.st.length b,.slice C m.c.outs.length c,.slice D m.vs.length d,.slice E m.op.length e,.int .i64 m.rd,.bool m.bad] 58)=x:=⟨_,rfl⟩;have GW:Hid (w0.grownBy wb none):=by rw [← hw1];exact gbA (gbR _ _) _
 have D1:Hid (Blk wb w0.heap.size 58 #[.int .i64 m.k.p,.slice A m.k.al.length a,.int .i64 m.c.p,.slice B m.c.st.length b,.slice C m.c.outs.length c,.slice D m.vs.length d,.slice E m.op.length e,.int .i64 m.rd,.bool m.bad]):=by rw [← hw1];exact Blk.new w0 _ _
 have R1:=zH (hR.grow GW.out);have AL:=zH R1.out.al9;have WM:=zH wm;have WT:=zH wt;have SS:=zH hss;have SR:=zH (hs.grow GW.out);have TR:=zH (CS.grow _ ht GW.out);have ER:=zH (he.grow GW.out);have LT:=zH (YQ ht);have LS:=zH hs.len;obtain ⟨hp1,hp2⟩:=wm.k.1;obtain ⟨c0,c1,c2,c3,c4,c5,c6,c7,c8⟩:=D1.out.c9;have C0:=zH c0;have C1:=zH c1;have C2:=zH c2;have C3:=zH c3;have C4:=zH c4;have C5:=zH c5;have C6:=zH c6;have C7:=zH c7;have C8:=zH c8;clear h hR wm wt hss hs ht he c0 c1 c2 c3 c4 c5 c6 c7 c8
 go_enter Tryz.func66,Tryz.ntmps66
 go_wp2_with fail
 try rw [hw1]
 clear hw1
 cases h1:engOkB m
 ·have HOK:=zH h1
  have HM:Hid (mayB m ts es=false):=zH (mayB_no1 h1);clear h1;refine Zi [isV (.agg #[.int .i64 m.k.p,.slice A m.k.al.length a,.int .i64 m.c.p,.slice B m.c.st.length b,.slice C m.c.outs.length c,.slice D m.vs.length d,.slice E m.op.length e,.int .i64 m.rd,.bool m.bad]),isV (.bool false),isV (.bool true),isV (.bool true),isV (undef),isV (undef),isV (.bool true),isV (.bool true),isV (undef),isV (undef),isV (undef),isV (undef),isV (undef),isV (undef),isV (.bool true),isV (.bool true),isV (undef),isV (undef),isV (undef),isV (undef),isV (undef),isV (.bool true),isV (.bool true),isV (undef),isV (undef),isV (undef),isV (undef),isV (undef),isV (undef),isV (.bool true)] (by kernel_rfl) (by kernel_rfl) (by kernel_rfl) (by simp [ZB,Zb]) ?_ ?_
  ·simp only [hops,and_true]
   refine ⟨?_, ?_, ?_, ?_, ?_, ?_, ?_, ?_, ?_, ?_, ?_, ?_, ?_, ?_, ?_, ?_, ?_, ?_, ?_, ?_, ?_, ?_, ?_, ?_, ?_, ?_, ?_, ?_, ?_, ?_⟩;rotate_left 1
   ·intro f w1 hG hd
    have hg4:=gbT (gbD (gbR wb none)) hG;simp [deps,tAt,isV] at hd
    first | simp [hd] | simp
    clear hd;go_wp2_with fail;refine (Ys m _ w1 (AL.out.grow hg4) WM.out).mono ?_;rintro e w6 ⟨rfl,hw⟩;rw [HOK.out];go_wp2_with fail;exact ⟨_,rfl,by first | with_reducible exact gbR _ _ | exact hw,by simp [tAt,isV]⟩
   all_goals
    intro f w1 hG hd;have hg4:=gbT (gbD (gbR wb none)) hG;have k0:=gbk hg4 (C0.out);have k1:=gbk hg4 (C1.out);have k2:=gbk hg4 (C2.out);have k3:=gbk hg4 (C3.out);have k4:=gbk hg4 (C4.out);have k5:=gbk hg4 (C5.out);have k6:=gbk hg4 (C6.out);have k7:=gbk hg4 (C7.out);have k8:=gbk hg4 (C8.out);simp [deps,tAt,isV] at hd
    first | simp [hd] | simp
    clear hd;go_wp2_with fail;exact ⟨_,rfl,by with_reducible exact gbR _ _,by simp [tAt,isV]⟩
  intro f w5 hG hd;simp [knows,tAt,isV] at hd;simp only [puts,dsts,Act.put,hd,zB,zC,zA,zD,zE];clear hd;have g5:=gbT (gbD (gbR wb none)) hG;clear hG;have G5:=zH (gbT GW.out g5);clear g5;go_wp2_with fail;go_ret;exact ⟨retB HM.out.symm,G5.out⟩
 have HOK:=zH h1;clear h1
 cases h2:m.bad
 rotate_left
 ·have HM:Hid (mayB m ts es=false):=zH (mayB_no2 h2)
  rw [h2] at C8 AL;refine Zi [isV (.agg #[.int .i64 m.k.p,.slice A m.k.al.length a,.int .i64 m.c.p,.slice B m.c.st.length b,.slice C m.c.outs.length c,.slice D m.vs.length d,.slice E m.op.length e,.int .i64 m.rd,.bool true]),isV (.bool true),isV (.bool false),isV (.bool false),isV (.pointer (some ⟨w0.heap.size,8,none⟩)),isV (.bool true),isV (.bool true),isV (.bool true),isV (undef),isV (undef),isV (undef),isV (undef),isV (undef),isV (undef),isV (.bool true),isV (.bool true),isV (undef),isV (undef),isV (undef),isV (undef),isV (undef),isV (.bool true),isV (.bool true),isV (undef),isV (undef),isV (undef),isV (undef),isV (undef),isV (undef),isV (.bool true)] (by kernel_rfl) (by kernel_rfl) (by kernel_rfl) (by simp [ZB,Zb]) ?_ ?_
  ·simp only [hops,and_true]
   refine ⟨?_, ?_, ?_, ?_, ?_, ?_, ?_, ?_, ?_, ?_, ?_, ?_, ?_, ?_, ?_, ?_, ?_, ?_, ?_, ?_, ?_, ?_, ?_, ?_, ?_, ?_, ?_, ?_, ?_, ?_⟩;rotate_left 1
   ·intro f w1 hG hd
    have hg4:=gbT (gbD (gbR wb none)) hG;simp [deps,tAt,isV] at hd
    first | simp [hd] | simp
    clear hd;go_wp2_with fail;refine (Ys m _ w1 (AL.out.grow hg4) WM.out).mono ?_;rintro e w6 ⟨rfl,hw⟩;rw [HOK.out];go_wp2_with fail;exact ⟨_,rfl,by first | with_reducible exact gbR _ _ | exact hw,by simp [tAt,isV]⟩
   all_goals
    intro f w1 hG hd;have hg4:=gbT (gbD (gbR wb none)) hG;have k0:=gbk hg4 (C0.out);have k1:=gbk hg4 (C1.out);have k2:=gbk hg4 (C2.out);have k3:=gbk hg4 (C3.out);have k4:=gbk hg4 (C4.out);have k5:=gbk hg4 (C5.out);have k6:=gbk hg4 (C6.out);have k7:=gbk hg4 (C7.out);have k8:=gbk hg4 (C8.out);simp [deps,tAt,isV] at hd
    first | simp [hd] | simp
    clear hd;go_wp2_with fail;exact ⟨_,rfl,by with_reducible exact gbR _ _,by simp [tAt,isV]⟩
  intro f w5 hG hd;simp [knows,tAt,isV] at hd;simp only [puts,dsts,Act.put,hd,zB,zC,zA,zD,zE];clear hd;have g5:=gbT (gbD (gbR wb none)) hG;clear hG;have G5:=zH (gbT GW.out g5);clear g5;go_wp2_with fail;go_ret;exact ⟨retB HM.out.symm,G5.out⟩
 by_cases h3:m.rd<rounds m.c
 rotate_left
 ·have HM:Hid (mayB m ts es=false):=zH (mayB_no3 h3)
  rw [h2] at C8 AL;have h3':rounds m.c≤m.rd:=by omega
  refine Zi [isV (.agg #[.int .i64 m.k.p,.slice A m.k.al.length a,.int .i64 m.c.p,.slice B m.c.st.length b,.slice C m.c.outs.length c,.slice D m.vs.length d,.slice E m.op.length e,.int .i64 m.rd,.bool false]),isV (.bool true),isV (.bool false),isV (.bool false),isV (.pointer (some ⟨w0.heap.size,8,none⟩)),isV (.bool false),isV (.bool false),isV (.bool false),isV (.pointer (some ⟨w0.heap.size,7,none⟩)),isV (.int .i64 m.rd),isV (.pointer (some ⟨w0.heap.size,2,none⟩)),isV (.agg #[.int .i64 m.c.p,.slice B m.c.st.length b,.slice C m.c.outs.length c]),isV (.int .i64 (rounds m.c)),isV (.bool true),isV (.bool true),isV (.bool true),isV (undef),isV (undef),isV (undef),isV (undef),isV (undef),isV (.bool true),isV (.bool true),isV (undef),isV (undef),isV (undef),isV (undef),isV (undef),isV (undef),isV (.bool true)] (by kernel_rfl) (by kernel_rfl) (by kernel_rfl) (by simp [ZB,Zb]) ?_ ?_
  ·simp only [hops,and_true]
   refine ⟨?_, ?_, ?_, ?_, ?_, ?_, ?_, ?_, ?_, ?_, ?_, ?_, ?_, ?_, ?_, ?_, ?_, ?_, ?_, ?_, ?_, ?_, ?_, ?_, ?_, ?_, ?_, ?_, ?_, ?_⟩;rotate_left 1
   ·intro f w1 hG hd
    have hg4:=gbT (gbD (gbR wb none)) hG;simp [deps,tAt,isV] at hd
    first | simp [hd] | simp
    clear hd;go_wp2_with fail;refine (Ys m _ w1 (AL.out.grow hg4) WM.out).mono ?_;rintro e w6 ⟨rfl,hw⟩;rw [HOK.out];go_wp2_with fail;exact ⟨_,rfl,by first | with_reducible exact gbR _ _ | exact hw,by simp [tAt,isV]⟩
   rotate_left 10
   ·intro f w1 hG hd
    have hg4:=gbT (gbD (gbR wb none)) hG;simp [deps,tAt,isV] at hd
    first | simp [hd] | simp
    clear hd;go_wp2_with fail;refine (Xh m.c _ w1 (R1.out.ar.grow hg4) WM.out.c.wf).mono ?_;rintro e w6 ⟨rfl,hw⟩;go_wp2_with fail;exact ⟨_,rfl,by first | with_reducible exact gbR _ _ | exact hw,by simp [tAt,isV]⟩
   all_goals
    intro f w1 hG hd;have hg4:=gbT (gbD (gbR wb none)) hG;have k0:=gbk hg4 (C0.out);have k1:=gbk hg4 (C1.out);have k2:=gbk hg4 (C2.out);have k3:=gbk hg4 (C3.out);have k4:=gbk hg4 (C4.out);have k5:=gbk hg4 (C5.out);have k6:=gbk hg4 (C6.out);have k7:=gbk hg4 (C7.out);have k8:=gbk hg4 (C8.out);simp [deps,tAt,isV] at hd
    first | simp [hd] | simp
    clear hd;go_wp2_with fail;exact ⟨_,rfl,by with_reducible exact gbR _ _,by simp [tAt,isV]⟩
  intro f w5 hG hd;simp [knows,tAt,isV] at hd;simp only [puts,dsts,Act.put,hd,zB,zC,zA,zD,zE];clear hd;have g5:=gbT (gbD (gbR wb none)) hG;clear hG;have G5:=zH (gbT GW.out g5);clear g5;go_wp2_with fail;go_ret;exact ⟨retB HM.out.symm,G5.out⟩
 have hmo:=SS.out HOK.out;have h3':¬rounds m.c≤m.rd:=by omega
 by_cases h4:ns≤nt
 rotate_left
 ·have HM:Hid (mayB m ts es=false):=zH (mayB_no4 (by rw [← hmo,LS.out,LT.out];exact h4))
  rw [h2] at C8 AL;have h4':(nt:Int)<(ns:Int):=by omega
  clear hmo;refine Zi [isV (.agg #[.int .i64 m.k.p,.slice A m.k.al.length a,.int .i64 m.c.p,.slice B m.c.st.length b,.slice C m.c.outs.length c,.slice D m.vs.length d,.slice E m.op.length e,.int .i64 m.rd,.bool false]),isV (.bool true),isV (.bool false),isV (.bool false),isV (.pointer (some ⟨w0.heap.size,8,none⟩)),isV (.bool false),isV (.bool false),isV (.bool false),isV (.pointer (some ⟨w0.heap.size,7,none⟩)),isV (.int .i64 m.rd),isV (.pointer (some ⟨w0.heap.size,2,none⟩)),isV (.agg #[.int .i64 m.c.p,.slice B m.c.st.length b,.slice C m.c.outs.length c]),isV (.int .i64 (rounds m.c)),isV (.bool false),isV (.bool false),isV (.bool false),isV (.slice T nt ct),isV (.int .i64 nt),isV (.slice S ns cs),isV (.int .i64 ns),isV (.bool true),isV (.bool true),isV (.bool true),isV (undef),isV (undef),isV (undef),isV (undef),isV (undef),isV (undef),isV (.bool true)] (by kernel_rfl) (by kernel_rfl) (by kernel_rfl) (by simp [ZB,Zb]) ?_ ?_
  ·simp only [hops,and_true]
   refine ⟨?_, ?_, ?_, ?_, ?_, ?_, ?_, ?_, ?_, ?_, ?_, ?_, ?_, ?_, ?_, ?_, ?_, ?_, ?_, ?_, ?_, ?_, ?_, ?_, ?_, ?_, ?_, ?_, ?_, ?_⟩;rotate_left 1
   ·intro f w1 hG hd
    have hg4:=gbT (gbD (gbR wb none)) hG;simp [deps,tAt,isV] at hd
    first | simp [hd] | simp
    clear hd;go_wp2_with fail;refine (Ys m _ w1 (AL.out.grow hg4) WM.out).mono ?_;rintro e w6 ⟨rfl,hw⟩;rw [HOK.out];go_wp2_with fail;exact ⟨_,rfl,by first | with_reducible exact gbR _ _ | exact hw,by simp [tAt,isV]⟩
   rotate_left 10
   ·intro f w1 hG hd
    have hg4:=gbT (gbD (gbR wb none)) hG;simp [deps,tAt,isV] at hd
    first | simp [hd] | simp
    clear hd;go_wp2_with fail;refine (Xh m.c _ w1 (R1.out.ar.grow hg4) WM.out.c.wf).mono ?_;rintro e w6 ⟨rfl,hw⟩;go_wp2_with fail;exact ⟨_,rfl,by first | with_reducible exact gbR _ _ | exact hw,by simp [tAt,isV]⟩
   all_goals
    intro f w1 hG hd;have hg4:=gbT (gbD (gbR wb none)) hG;have k0:=gbk hg4 (C0.out);have k1:=gbk hg4 (C1.out);have k2:=gbk hg4 (C2.out);have k3:=gbk hg4 (C3.out);have k4:=gbk hg4 (C4.out);have k5:=gbk hg4 (C5.out);have k6:=gbk hg4 (C6.out);have k7:=gbk hg4 (C7.out);have k8:=gbk hg4 (C8.out);simp [deps,tAt,isV] at hd
    first | simp [hd] | simp
    clear hd;go_wp2_with fail;exact ⟨_,rfl,by with_reducible exact gbR _ _,by simp [tAt,isV]⟩
  intro f w5 hG hd;simp [knows,tAt,isV] at hd;simp only [puts,dsts,Act.put,hd,zB,zC,zA,zD,zE];clear hd;have g5:=gbT (gbD (gbR wb none)) hG;clear hG;have G5:=zH (gbT GW.out g5);clear g5;go_wp2_with fail;go_ret;exact ⟨retB HM.out.symm,G5.out⟩
 have h4':¬(nt:Int)<(ns:Int):=by omega
 cases h5:elemsB m.k.p es
 ·have HEL:=zH h5
  have HM:Hid (mayB m ts es=false):=zH (mayB_no5 h5);rw [h2] at C8 AL;clear hmo h5;refine Zi [isV (.agg #[.int .i64 m.k.p,.slice A m.k.al.length a,.int .i64 m.c.p,.slice B m.c.st.length b,.slice C m.c.outs.length c,.slice D m.vs.length d,.slice E m.op.length e,.int .i64 m.rd,.bool false]),isV (.bool true),isV (.bool false),isV (.bool false),isV (.pointer (some ⟨w0.heap.size,8,none⟩)),isV (.bool false),isV (.bool false),isV (.bool false),isV (.pointer (some ⟨w0.heap.size,7,none⟩)),isV (.int .i64 m.rd),isV (.pointer (some ⟨w0.heap.size,2,none⟩)),isV (.agg #[.int .i64 m.c.p,.slice B m.c.st.length b,.slice C m.c.outs.length c]),isV (.int .i64 (rounds m.c)),isV (.bool false),isV (.bool false),isV (.bool false),isV (.slice T nt ct),isV (.int .i64 nt),isV (.slice S ns cs),isV (.int .i64 ns),isV (.bool false),isV (.bool false),isV (.bool false),isV (.pointer (some ⟨w0.heap.size,0,none⟩)),isV (.pointer (some ⟨w0.heap.size,0,none⟩)),isV (.int .i64 m.k.p),isV (.slice R nr cr),isV (.bool false),isV (.bool true),isV (.bool true)] (by kernel_rfl) (by kernel_rfl) (by kernel_rfl) (by simp [ZB,Zb]) ?_ ?_
  ·simp only [hops,and_true]
   refine ⟨?_, ?_, ?_, ?_, ?_, ?_, ?_, ?_, ?_, ?_, ?_, ?_, ?_, ?_, ?_, ?_, ?_, ?_, ?_, ?_, ?_, ?_, ?_, ?_, ?_, ?_, ?_, ?_, ?_, ?_⟩;rotate_left 1
   ·intro f w1 hG hd
    have hg4:=gbT (gbD (gbR wb none)) hG;simp [deps,tAt,isV] at hd
    first | simp [hd] | simp
    clear hd;go_wp2_with fail;refine (Ys m _ w1 (AL.out.grow hg4) WM.out).mono ?_;rintro e w6 ⟨rfl,hw⟩;rw [HOK.out];go_wp2_with fail;exact ⟨_,rfl,by first | with_reducible exact gbR _ _ | exact hw,by simp [tAt,isV]⟩
   rotate_left 10
   ·intro f w1 hG hd
    have hg4:=gbT (gbD (gbR wb none)) hG;simp [deps,tAt,isV] at hd
    first | simp [hd] | simp
    clear hd;go_wp2_with fail;refine (Xh m.c _ w1 (R1.out.ar.grow hg4) WM.out.c.wf).mono ?_;rintro e w6 ⟨rfl,hw⟩;go_wp2_with fail;exact ⟨_,rfl,by first | with_reducible exact gbR _ _ | exact hw,by simp [tAt,isV]⟩
   rotate_left 14
   ·intro f w1 hG hd
    have hg4:=gbT (gbD (gbR wb none)) hG;simp [deps,tAt,isV] at hd
    first | simp [hd] | simp
    clear hd;go_wp2_with fail;refine (Zl m.k.p R nr cr es w1 hp2 hp1 (ER.out.grow hg4) (by omega)).mono ?_;rintro e w6 ⟨rfl,rfl⟩;rw [HEL.out];go_wp2_with fail;exact ⟨_,rfl,by first | with_reducible exact gbR _ _ | exact hw,by simp [tAt,isV]⟩
   all_goals
    intro f w1 hG hd;have hg4:=gbT (gbD (gbR wb none)) hG;have k0:=gbk hg4 (C0.out);have k1:=gbk hg4 (C1.out);have k2:=gbk hg4 (C2.out);have k3:=gbk hg4 (C3.out);have k4:=gbk hg4 (C4.out);have k5:=gbk hg4 (C5.out);have k6:=gbk hg4 (C6.out);have k7:=gbk hg4 (C7.out);have k8:=gbk hg4 (C8.out);simp [deps,tAt,isV] at hd
    first | simp [hd] | simp
    clear hd;go_wp2_with fail;exact ⟨_,rfl,by with_reducible exact gbR _ _,by simp [tAt,isV]⟩
  intro f w5 hG hd;simp [knows,tAt,isV] at hd;simp only [puts,dsts,Act.put,hd,zB,zC,zA,zD,zE];clear hd;have g5:=gbT (gbD (gbR wb none)) hG;clear hG;have G5:=zH (gbT GW.out g5);clear g5;go_wp2_with fail;go_ret;exact ⟨retB HM.out.symm,G5.out⟩
 have HEL:=zH h5;have HM:Hid (mayB m ts es=(List.range (mulsOf m).length).all fun j=>tripOk m (trAt ts j) ((mulsOf m).getD j 0).toNat):=zH (mayB_at HOK.out h2 h3 (by rw [← hmo,LS.out,LT.out];exact h4) h5);rw [h2] at C8 AL;rw [← hmo,LS.out] at HM;have HMO:=zH hmo;clear hmo h5;refine Zi [isV (.agg #[.int .i64 m.k.p,.slice A m.k.al.length a,.int .i64 m.c.p,.slice B m.c.st.length b,.slice C m.c.outs.length c,.slice D m.vs.length d,.slice E m.op.length e,.int .i64 m.rd,.bool false]),isV (.bool true),isV (.bool false),isV (.bool false),isV (.pointer (some ⟨w0.heap.size,8,none⟩)),isV (.bool false),isV (.bool false),isV (.bool false),isV (.pointer (some ⟨w0.heap.size,7,none⟩)),isV (.int .i64 m.rd),isV (.pointer (some ⟨w0.heap.size,2,none⟩)),isV (.agg #[.int .i64 m.c.p,.slice B m.c.st.length b,.slice C m.c.outs.length c]),isV (.int .i64 (rounds m.c)),isV (.bool false),isV (.bool false),isV (.bool false),isV (.slice T nt ct),isV (.int .i64 nt),isV (.slice S ns cs),isV (.int .i64 ns),isV (.bool false),isV (.bool false),isV (.bool false),isV (.pointer (some ⟨w0.heap.size,0,none⟩)),isV (.pointer (some ⟨w0.heap.size,0,none⟩)),isV (.int .i64 m.k.p),isV (.slice R nr cr),isV (.bool true),isV (.bool false),isV (.bool false)] (by kernel_rfl) (by kernel_rfl) (by kernel_rfl) (by simp [ZB,Zb]) ?_ ?_
 ·simp only [hops,and_true]
  refine ⟨?_, ?_, ?_, ?_, ?_, ?_, ?_, ?_, ?_, ?_, ?_, ?_, ?_, ?_, ?_, ?_, ?_, ?_, ?_, ?_, ?_, ?_, ?_, ?_, ?_, ?_, ?_, ?_, ?_, ?_⟩;rotate_left 1
  ·intro f w1 hG hd
   have hg4:=gbT (gbD (gbR wb none)) hG;simp [deps,tAt,isV] at hd
   first | simp [hd] | simp
   clear hd;go_wp2_with fail;refine (Ys m _ w1 (AL.out.grow hg4) WM.out).mono ?_;rintro e w6 ⟨rfl,hw⟩;rw [HOK.out];go_wp2_with fail;exact ⟨_,rfl,by first | with_reducible exact gbR _ _ | exact hw,by simp [tAt,isV]⟩
  rotate_left 10
  ·intro f w1 hG hd
   have hg4:=gbT (gbD (gbR wb none)) hG;simp [deps,tAt,isV] at hd
   first | simp [hd] | simp
   clear hd;go_wp2_with fail;refine (Xh m.c _ w1 (R1.out.ar.grow hg4) WM.out.c.wf).mono ?_;rintro e w6 ⟨rfl,hw⟩;go_wp2_with fail;exact ⟨_,rfl,by first | with_reducible exact gbR _ _ | exact hw,by simp [tAt,isV]⟩
  rotate_left 14
  ·intro f w1 hG hd
   have hg4:=gbT (gbD (gbR wb none)) hG;simp [deps,tAt,isV] at hd
   first | simp [hd] | simp
   clear hd;go_wp2_with fail;refine (Zl m.k.p R nr cr es w1 hp2 hp1 (ER.out.grow hg4) (by omega)).mono ?_;rintro e w6 ⟨rfl,rfl⟩;rw [HEL.out];go_wp2_with fail;exact ⟨_,rfl,by first | with_reducible exact gbR _ _ | exact hw,by simp [tAt,isV]⟩
  all_goals
   intro f w1 hG hd;have hg4:=gbT (gbD (gbR wb none)) hG;have k0:=gbk hg4 (C0.out);have k1:=gbk hg4 (C1.out);have k2:=gbk hg4 (C2.out);have k3:=gbk hg4 (C3.out);have k4:=gbk hg4 (C4.out);have k5:=gbk hg4 (C5.out);have k6:=gbk hg4 (C6.out);have k7:=gbk hg4 (C7.out);have k8:=gbk hg4 (C8.out);simp [deps,tAt,isV] at hd
   first | simp [hd] | simp
   clear hd;go_wp2_with fail;exact ⟨_,rfl,by with_reducible exact gbR _ _,by simp [tAt,isV]⟩
 intro f w5 hG hd;simp [knows,tAt,isV] at hd;simp only [puts,dsts,Act.put,hd,zB,zC,zA,zD,zE];clear hd;have g5:=gbT (gbD (gbR wb none)) hG;clear hG;have G5:=zH g5;have B5:=zH (D1.out.grow g5);clear g5 C0 C1 C2 C3 C4 C5 C6 C7 C8 AL;have OKB:=zH (YZ HOK.out);have hrd:=(OKB.out.2.2.2.2.1);obtain ⟨r,hr⟩:=Int.eq_ofNat_of_zero_le (Vl hrd).1;have HR:=zH hr;have HKB:=zH OKB.out.1;clear h2 h3 h3' h4' hr hrd;go_wp2_with fail
 go_loopw [45] (fun i wr=>∃k:Nat,k≤ns∧i=.int .i64 k∧Hid (∀q,q<k→tripOk m (trAt ts q) (ss.getD q 0).toNat=true)∧Hid (w5.grownBy wr none)) (fun i _=>ns - (intOf i).toNat)
 case atStart=>exact ⟨0,Nat.zero_le _,rfl,zH (fun q hq=>by omega),zH (gbR _ _)⟩
 case round =>
  obtain ⟨k,hk,rfl,hO,hG⟩:=hrel
  by_cases hlt:k<ns
  ·have i1:(k:Int)<(ns:Int):=by omega
   have i0:(k:Int)<(nt:Int):=by omega
   have GR:=zH (gbT G5.out hG.out);have hkm:k<(mulsOf m).length:=by rw [← HMO.out,LS.out];exact hlt
   obtain ⟨i,j1,j2,j3,j4,j5,j6,_⟩:=muls_lt OKB.out.2.1 HR.out hkm;rw [← HMO.out] at j2;obtain ⟨sb,so,rfl,_,hsc⟩:=(SR.out.grow GR.out).at_ (by omega);have s9:=hsc k hlt;rw [j2] at s9;have J2:=zH j2;obtain ⟨sb2,so2,x,y,z,rfl,_,hx,q0,q1,q2⟩:=YM (FL.grow R1.out.stp GR.out) (k:=i) j1;have hst:stAt m.c i=(x,y,z):=by simp [stAt,zF,hx]
   rw [hst] at j3 j5 j6;have hx4:x=4:=j3;obtain ⟨ya,zb,hya,hzb,hai,hbi⟩:=Wf OKB.out.2.1 j1 hst (.inr hx4);subst hya;subst hzb;subst hx4;have HST:=zH hst;have i2:(i:Int)<(m.c.st.length:Int):=by omega
   have i3:(ya:Int)<(m.vs.length:Int):=by have:=OKB.out.2.2.2.1;omega
   have i4:(zb:Int)<(m.vs.length:Int):=by have:=OKB.out.2.2.2.1;omega
   obtain ⟨tb,to_,T0,T1,T2,T3,T4,T5,d0,d1,d2,d3,d4,d5,rfl,_,t0,t1,t2,t3,t4,t5,hT⟩:=Yd (CS.grow _ TR.out GR.out) (k:=k) (by omega);obtain ⟨vb,vo,xa,Ba,da,Ca,fa,hDe,_,hxa,a0,a1,hXA⟩:=ZL (CS.grow _ R1.out.va GR.out) (k:=ya) (by have:=OKB.out.2.2.2.1;omega);obtain ⟨vb',vo',xb,Bb,db,Cb,fb,hDe',_,hxb,b0,b1,hXB⟩:=ZL (CS.grow _ R1.out.va GR.out) (k:=zb) (by have:=OKB.out.2.2.2.1;omega);subst hDe;injection hDe' with hDe';injection hDe' with e1 e2 _;subst e1;subst e2;have hga:getA m.vs ya=xa:=by unfold getA;rw [zF,hxa];rfl
   have hgb:getA m.vs zb=xb:=by unfold getA;rw [zF,hxb];rfl
   obtain ⟨tx,htx⟩:∃q,trAt ts k=q:=⟨_,rfl⟩;have WX:=zH (VB WT.out (k:=k) (by rw [LT.out];omega));rw [htx] at t0 t1 t2 t3 t4 t5 hT WX
   have HTRIP:Hid (tripOk m tx i=(formB m.k tx.a&&formB m.k tx.b&&formB m.k tx.c&&!zeroA xa&&!zeroA xb)):=by
    unfold Hid tripOk opA opB;rw [HST.out];simp only [Int.toNat_natCast];rw [hga,hgb]
   have HTX:=zH htx;have HT:=zH hT;have HXA:=zH hXA;have HXB:=zH hXB;have BR:=zH (B5.out.grow hG.out);have e0:=BR.out.cell 0;have e1:=BR.out.cell 1;have e3:=BR.out.cell 3;have e5:=BR.out.cell 5;simp only [List.getElem?_toArray,List.getElem?_cons_succ,List.getElem?_cons_zero] at e0 e1 e3 e5;have e0':=fun o p=>kA (kA e0 o) p;have e1':=fun o p=>kA (kA e1 o) p;have t0':=fun o=>kA t0 o;have t1':=fun o=>kA t1 o;have t2':=fun o=>kA t2 o;have t3':=fun o=>kA t3 o;have t4':=fun o=>kA t4 o;have t5':=fun o=>kA t5 o;have A0:=zH a0;have A1:=zH a1;have B0:=zH b0;have B1:=zH b1
   have HAL:Hid (([tx.a,tx.b,tx.c].all (formA m.k)&&keysB m.k)=(formB m.k tx.a&&formB m.k tx.b&&formB m.k tx.c)):=by
    unfold Hid formB;simp only [List.all_cons,List.all_nil,Bool.and_true]
    cases keysB m.k <;> simp [Bool.and_assoc]
   clear hsc hx hst hxa hxb hga hgb hT hXA hXB a0 a1 b0 b1 e0 e1 htx j2 j3 hkm;go_wp2_with fail;obtain ⟨ws,hws⟩:∃q:World,wr.alloc (.cells #[.int .i64 4,.int .i64 ya,.int .i64 zb] 102)=q:=⟨_,rfl⟩;have GS1:Hid (wr.grownBy ws none):=by rw [← hws];exact gbA (gbR _ _) _
   have BS:Hid (Blk ws wr.heap.size 102 #[.int .i64 4,.int .i64 ya,.int .i64 zb]):=by rw [← hws];exact Blk.new _ _ _
   rw [hws];obtain ⟨wt,hwt⟩:∃q:World,ws.alloc (.cells #[.slice T0 tx.a.sh.length d0,.slice T1 tx.a.mc.length d1,.slice T2 tx.b.sh.length d2,.slice T3 tx.b.mc.length d3,.slice T4 tx.c.sh.length d4,.slice T5 tx.c.mc.length d5] 82)=q:=⟨_,rfl⟩;have GT1:Hid (wr.grownBy wt none):=by rw [← hwt];exact gbA GS1.out _
   have BST:Hid (Blk wt wr.heap.size 102 #[.int .i64 4,.int .i64 ya,.int .i64 zb]):=by rw [← hwt];exact BS.out.grow (gbA (gbR _ _) _)
   have hz2:wr.heap.size+1+1=wt.heap.size:=by rw [← hwt,← hws];simp
   rw [hwt,hz2];clear hws hwt hz2 BS e0' e1' t0 t1 t2 t3 t4 t5 t0' t1' t2' t3' t4' t5' q0 q1 q2 s9 e3 e5;obtain ⟨VL,hVL⟩:∃l:List Value,l=[.slice T0 tx.a.sh.length d0,.slice T1 tx.a.mc.length d1,.slice T2 tx.b.sh.length d2,.slice T3 tx.b.mc.length d3,.slice T4 tx.c.sh.length d4,.slice T5 tx.c.mc.length d5]:=⟨_,rfl⟩;have HTT:=HT.out.grow GT1.out;have HL:=zH (Vh (w:=wt) [tx.a,tx.b,tx.c] VL 3 (by rw [hVL];exact RdAll.append2 (Vb (vs:=[_,_]) HTT.xa) (RdAll.append2 (Vb (vs:=[_,_]) HTT.xb) (by simpa using Vb (vs:=[_,_]) HTT.xc))) rfl (by omega));rw [hVL] at HL;have GL:=zH (gbT GT1.out (gbA (gbR wt none) (.cells #[.slice T0 tx.a.sh.length d0,.slice T1 tx.a.mc.length d1,.slice T2 tx.b.sh.length d2,.slice T3 tx.b.mc.length d3,.slice T4 tx.c.sh.length d4,.slice T5 tx.c.mc.length d5] 80)));refine (Yz m.k [tx.a,tx.b,tx.c] _ _ 3 3 _ (R1.out.ky.grow (gbT GR.out GL.out)) HL.out WM.out.k (by intro y hy;simp at hy;rcases hy with rfl | rfl | rfl <;> first | exact WX.out.1 | exact WX.out.2.1 | exact WX.out.2.2) (by omega)).mono ?_;rintro e w6 ⟨rfl,g6⟩;have B6:=zH ((BST.out.grow (gbA (gbR _ none) _)).grow g6);have G6:=zH (gbT GL.out g6);rw [HAL.out];clear g6 HL GL hVL HTT
   cases hf:(formB m.k tx.a&&formB m.k tx.b&&formB m.k tx.c)
   ·rw [hf] at HTRIP
    have hno:mayB m ts es=false:=by
     rw [HM.out,List.all_eq_false];exact ⟨k,List.mem_range.2 hlt,by rw [HTX.out,J2.out,Int.toNat_natCast,HTRIP.out];simp⟩
    have HNO:=zH hno;have GZ:=zH (gbT GW.out (gbT GR.out (G6.out)));clear hno;go_wp2_with fail;go_ret;exact ⟨retB HNO.out.symm,GZ.out⟩
   rw [hf,Bool.true_and] at HTRIP;clear hf;have s1:=B6.out.cell 1;have e5:=(BR.out.grow G6.out).cell 5;simp only [List.getElem?_toArray,List.getElem?_cons_succ,List.getElem?_cons_zero] at s1 e5;have a0:=gbk G6.out A0.out;have a1:=gbk G6.out A1.out;go_wp2_with fail;clear s1 e5 a0 a1;refine (Zt xa _ _ (HXA.out.grow G6.out)).mono ?_;rintro e w7 ⟨rfl,g7⟩;have B7:=zH (B6.out.grow g7);have G7:=zH (gbT G6.out g7);clear g7
   cases hza:zeroA xa
   rotate_left
   ·rw [hza] at HTRIP
    have hno:mayB m ts es=false:=by
     rw [HM.out,List.all_eq_false];exact ⟨k,List.mem_range.2 hlt,by rw [HTX.out,J2.out,Int.toNat_natCast,HTRIP.out];simp⟩
    have HNO:=zH hno;have GZ:=zH (gbT GW.out (gbT GR.out (G7.out)));clear hno;go_wp2_with fail;go_ret;exact ⟨retB HNO.out.symm,GZ.out⟩
   rw [hza,Bool.not_false,Bool.true_and] at HTRIP;clear hza;have s1:=B7.out.cell 2;have e5:=(BR.out.grow G7.out).cell 5;simp only [List.getElem?_toArray,List.getElem?_cons_succ,List.getElem?_cons_zero] at s1 e5;have a0:=gbk G7.out B0.out;have a1:=gbk G7.out B1.out;go_wp2_with fail;clear s1 e5 a0 a1;refine (Zt xb _ _ (HXB.out.grow G7.out)).mono ?_;rintro e w8 ⟨rfl,g8⟩;have G8:=zH (gbT G7.out g8);clear g8
   cases hzb:zeroA xb
   rotate_left
   ·rw [hzb] at HTRIP
    have hno:mayB m ts es=false:=by
     rw [HM.out,List.all_eq_false];exact ⟨k,List.mem_range.2 hlt,by rw [HTX.out,J2.out,Int.toNat_natCast,HTRIP.out];simp⟩
    have HNO:=zH hno;have GZ:=zH (gbT GW.out (gbT GR.out (G8.out)));clear hno;go_wp2_with fail;go_ret;exact ⟨retB HNO.out.symm,GZ.out⟩
   rw [hzb] at HTRIP
   have O2:Hid (∀q,q<k+1→tripOk m (trAt ts q) (ss.getD q 0).toNat=true):=zH (fun q hq=>by
    by_cases e:q=k
    ·subst e;rw [HTX.out,J2.out,Int.toNat_natCast,HTRIP.out];rfl
    ·exact hO.out q (by omega))
   have G9:=zH (gbT hG.out G8.out);clear hzb;go_wp2_with fail
   go_roundw
   case rel=>exact ⟨k+1,by omega,by go_num,O2,G9⟩
   case measure=>simp [intOf];omega
  ·have hkn:k=ns:=by omega
   subst hkn
   have hyes:mayB m ts es=true:=by
    rw [HM.out,List.all_eq_true];intro q hq;rw [List.mem_range] at hq;exact hO.out q hq
   have HY:=zH hyes;have GZ:=zH (gbT GW.out (gbT G5.out hG.out));clear hyes;go_wp2_with fail;go_ret;exact ⟨retB HY.out.symm,GZ.out⟩
end Go.Proofs.YthaadgdeadbhkaaGreat
