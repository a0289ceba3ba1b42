/-
 The laws' helpers on Arith,by what it reads as (printed by wip/gen_sk.py).
-/
import Derived.Test.YthaadgdeadbhkaaGreatMgFnExactEngineRound7
open Go.RowKit
set_option linter.unusedVariables false
set_option linter.unusedSimpArgs false
namespace Go.Proofs.YthaadgdeadbhkaaGreat
structure AM where
 p:Int
 st:List (Int × Int × Int)
 outs:List Int
abbrev carith (m:AM):List CS:=[ci m.p,csteps m.st,cints m.outs]
def AM.sz (m:AM):Nat:=m.st.length+m.outs.length
def AM.cnt (k:Int) (m:AM):Int:=k+3*m.st.length+m.outs.length
def AM.mkd (k:Int) (m:AM):AM:={ m with st:=mk3 (k) m.st.length,outs:=marks (k+3*m.st.length) m.outs.length }
def AM.wf (m:AM):Prop:=i64w m.p∧(∀z∈m.st,w3 z)∧(∀z∈m.outs,i64w z)
theorem stArith:St Tryz.prog 38 3:=⟨⟨_,Tryz.underlying38,rfl⟩,by kernel_rfl⟩
theorem ZA {w:World} {m:AM} {v:Value} (h:AggR w (carith m) v):∃u1 u2,v=.agg #[(.int .i64 m.p),u1,u2]∧(csteps m.st).rd w u1∧(cints m.outs).rd w u2:=by
 obtain ⟨vs,rfl,h⟩:=h;obtain ⟨u0,vs0,rfl,h0,h⟩:=RdAll.head h;obtain ⟨u1,vs1,rfl,h1,h⟩:=RdAll.head h;obtain ⟨u2,vs2,rfl,h2,h⟩:=RdAll.head h;obtain rfl:=RdAll.none h;obtain rfl:=QB h0;exact ⟨u1,u2,rfl,h1,h2⟩
theorem carith_mk {w:World} {m:AM} {u1 u2:Value} (h1:(csteps m.st).rd w u1) (h2:(cints m.outs).rd w u2):AggR w (carith m) (.agg #[(.int .i64 m.p),u1,u2]):=⟨_,rfl,(RdAll.cons (ci_mk _ _) (RdAll.cons h1 (RdAll.cons h2 (RdAll.nil _))))⟩
theorem YP {w:World} {m:AM} {F:List Nat} {v:Value} (h:AggO w (carith m) F v):∃(A1:Option Addr) (n1 s1:Nat) (A2:Option Addr) (n2 s2:Nat),v=.agg #[(.int .i64 m.p),(.slice A1 n1 s1),(.slice A2 n2 s2)]:=by
 obtain ⟨vs,Fs,rfl,h,rfl⟩:=h;obtain ⟨u0,vs0,F0,Fs0,rfl,rfl,h0,h,d0⟩:=OwnAll.head h;obtain ⟨u1,vs1,F1,Fs1,rfl,rfl,h1,h,d1⟩:=OwnAll.head h;obtain ⟨u2,vs2,F2,Fs2,rfl,rfl,h2,h,d2⟩:=OwnAll.head h;obtain ⟨rfl,rfl⟩:=OwnAll.none h;obtain ⟨rfl,rfl,_⟩:=h0;obtain ⟨A1,n1,s1,rfl⟩:=ZJ h1;obtain ⟨A2,n2,s2,rfl⟩:=ZJ h2;exact ⟨A1,n1,s1,A2,n2,s2,rfl⟩
theorem XI {w:World} {m:AM} {F:List Nat} {v:Value} (h:AggO w (carith m) F v):∃u1 u2 F1 F2,v=.agg #[(.int .i64 m.p),u1,u2]∧F=[[],F1,F2].flatten∧(csteps m.st).own w F1 u1∧(cints m.outs).own w F2 u2∧(∀g∈F1,g∉F2):=by
 obtain ⟨vs,Fs,rfl,h,rfl⟩:=h;obtain ⟨u0,vs0,F0,Fs0,rfl,rfl,h0,h,d0⟩:=OwnAll.head h;obtain ⟨u1,vs1,F1,Fs1,rfl,rfl,h1,h,d1⟩:=OwnAll.head h;obtain ⟨u2,vs2,F2,Fs2,rfl,rfl,h2,h,d2⟩:=OwnAll.head h;obtain ⟨rfl,rfl⟩:=OwnAll.none h;obtain ⟨rfl,rfl,_⟩:=h0;exact ⟨u1,u2,F1,F2,rfl,rfl,h1,h2,fun g hg hg'=>d1 g hg (by simp [hg'])⟩
theorem WF {w:World} {m:AM} {u1 u2:Value} {F1 F2:List Nat} (h1:(csteps m.st).own w F1 u1) (h2:(cints m.outs).own w F2 u2) (d12:∀g∈F1,g∉F2):AggO w (carith m) [[],F1,F2].flatten (.agg #[(.int .i64 m.p),u1,u2]):=⟨_,_,rfl,(OwnAll.cons (WW _ _) (OwnAll.cons h1 (OwnAll.cons h2 (OwnAll.nil _) (fun g hg=>by simp)) (fun g hg=>by simp [d12 g hg])) (by simp)),rfl⟩
set_option maxHeartbeats 1000000 in
theorem toArith_k (m:AM) (v:Value) (w:World) (h:AggR w (carith m) v) (hn:m.sz≤1048576) :
  Calls Tryz.prog 11 #[v] w fun e w'=>∃u F,e=.returned u∧AggO w' (carith m) F u∧(∀g∈F,w.heap.size≤g)∧w.grownBy w' none:=by
 obtain ⟨u1,u2,rfl,h1,h2⟩:=ZA h;have HN:=zH hn;have H1:=zH h1;have H2:=zH h2;clear h hn h1 h2
 go_enter Tryz.func11,Tryz.ntmps11
 go_wp2_with fail;obtain ⟨x0,e0⟩:∃x:World,x=((w.alloc (.cells #[(.int .i64 m.p),u1,u2] 27)).alloc (.cells #[(.int .i64 0),(.slice none 0 0),(.slice none 0 0)] 38)).alloc (.cells #[(.int .i64 m.p),(.slice none 0 0),(.slice none 0 0)] 38):=⟨_,rfl⟩;have A1:Hid (Blk x0 w.heap.size 27 #[(.int .i64 m.p),u1,u2]):=by rw [e0];exact ((Blk.new w _ _).grow (gbA (gbR _ _) _)).grow (gbA (gbR _ _) _)
 have A2:Hid (Blk x0 (w.heap.size+1) 38 #[(.int .i64 0),(.slice none 0 0),(.slice none 0 0)]):=by rw [e0];exact (Blk.new' _ _ _ _ (by simp)).grow (gbA (gbR _ _) _)
 have A3:Hid (Blk x0 (w.heap.size+1+1) 38 #[(.int .i64 m.p),(.slice none 0 0),(.slice none 0 0)]):=by rw [e0];exact Blk.new' _ _ _ _ (by simp)
 have G0:Hid (w.grownBy x0 none):=by rw [e0];exact gbA (gbA (gbA (gbR _ _) _) _) _
 have Z0:x0.heap.size=w.heap.size+1+1+1:=by rw [e0];simp
 try rw [← e0]
 clear e0;have R:=CS.grow _ H1.out G0.out;refine (toStepS_k m.st u1 _ R (by have:=HN.out;unfold AM.sz at this;omega)).mono ?_;rintro e x1 ⟨v1,F1,rfl,o1,l1,g1⟩;obtain ⟨B1,n1,s1,rfl⟩:=ZJ o1;have Z1:=g1.size
 try simp at Z1
 have L1:Hid (∀g∈F1,x0.heap.size≤g):=fun g hg=>by have:=l1 g hg;simpa using this
 have O1:=zH o1;have Q1:Hid (∀g∈F1,g<x1.heap.size):=fun g hg=>CS.lt _ o1 g hg;have E1:=zH (Blk.grow (A1.out) g1);have E2:=zH (Blk.grow (A2.out) g1);have E3:=zH (Blk.grow (A3.out) g1);have G1:=zH (gbT (G0.out) g1);clear R l1 g1 o1 A1 A2 A3 G0;have A1:=E1;have A2:=E2;have A3:=E3;clear E1 E2 E3;have K1:=zH ((A1.out).far (p:=⟨w.heap.size+1+1,1,none⟩) (by first | (simp;done) | (simp;omega)) (.slice B1 n1 s1));have K2:=zH ((A2.out).far (p:=⟨w.heap.size+1+1,1,none⟩) (by first | (simp;done) | (simp;omega)) (.slice B1 n1 s1));have K3:=zH ((A3.out).set_ 1 (.slice B1 n1 s1));have KG:=zH (gbS (G1.out) (p:=⟨w.heap.size+1+1,1,none⟩) (by simp;omega) (.slice B1 n1 s1));have P1:=zH (ZR _ (O1.out) ⟨w.heap.size+1+1,1,none⟩ (fun hg=>by have:=L1.out _ hg;simp at this;omega) (.slice B1 n1 s1));clear O1;have c0:=A1.out.cell 0;have c1:=A1.out.cell 1;have c2:=A1.out.cell 2;have d0:=A3.out.cell 0;have f0:=A3.out.frozen 0;have d1:=A3.out.cell 1;have f1:=A3.out.frozen 1;have d2:=A3.out.cell 2;have f2:=A3.out.frozen 2;simp at c0 c1 c2 d0 d1 d2;clear A1 A2 A3 G1;go_wp2_with fail;have R:=CS.grow _ H2.out KG.out;refine (Xm m.outs u2 _ R (by have:=HN.out;unfold AM.sz at this;omega)).mono ?_;rintro e x2 ⟨v2,F2,rfl,o2,l2,g2⟩;obtain ⟨B2,n2,s2,rfl⟩:=ZJ o2;have Z2:=g2.size
 try simp at Z2
 have L2:Hid (∀g∈F2,x1.heap.size≤g):=fun g hg=>by have:=l2 g hg;simpa using this
 have O2:=zH o2;have Q2:Hid (∀g∈F2,g<x2.heap.size):=fun g hg=>CS.lt _ o2 g hg;have N1:=zH (Zj _ P1.out g2);clear P1;have O1:=N1;clear N1;have E1:=zH (Blk.grow (K1.out) g2);have E2:=zH (Blk.grow (K2.out) g2);have E3:=zH (Blk.grow (K3.out) g2);have G2:=zH (gbT (KG.out) g2);clear R l2 g2 o2 K1 K2 K3 KG c0 c1 c2 d0 d1 d2 f0 f1 f2;have A1:=E1;have A2:=E2;have A3:=E3;clear E1 E2 E3;have K2:=zH (((((A2.out).far (p:=⟨w.heap.size+1+1,2,none⟩) (by first | (simp;done) | (simp;omega)) (.slice B2 n2 s2)).set_ 0 (.int .i64 m.p)).set_ 1 (.slice B1 n1 s1)).set_ 2 (.slice B2 n2 s2));have KG:=zH (gbS (gbS (gbS (gbS (G2.out) (p:=⟨w.heap.size+1+1,2,none⟩) (by simp;omega) (.slice B2 n2 s2)) (p:=⟨w.heap.size+1,0,none⟩) (by simp) (.int .i64 m.p)) (p:=⟨w.heap.size+1,1,none⟩) (by simp) (.slice B1 n1 s1)) (p:=⟨w.heap.size+1,2,none⟩) (by simp) (.slice B2 n2 s2));have P1:=zH (ZR _ (ZR _ (ZR _ (ZR _ (O1.out) ⟨w.heap.size+1+1,2,none⟩ (fun hg=>by have:=L1.out _ hg;simp at this;omega) (.slice B2 n2 s2)) ⟨w.heap.size+1,0,none⟩ (fun hg=>by have:=L1.out _ hg;simp at this;omega) (.int .i64 m.p)) ⟨w.heap.size+1,1,none⟩ (fun hg=>by have:=L1.out _ hg;simp at this;omega) (.slice B1 n1 s1)) ⟨w.heap.size+1,2,none⟩ (fun hg=>by have:=L1.out _ hg;simp at this;omega) (.slice B2 n2 s2));have P2:=zH (ZR _ (ZR _ (ZR _ (ZR _ (O2.out) ⟨w.heap.size+1+1,2,none⟩ (fun hg=>by have:=L2.out _ hg;simp at this;omega) (.slice B2 n2 s2)) ⟨w.heap.size+1,0,none⟩ (fun hg=>by have:=L2.out _ hg;simp at this;omega) (.int .i64 m.p)) ⟨w.heap.size+1,1,none⟩ (fun hg=>by have:=L2.out _ hg;simp at this;omega) (.slice B1 n1 s1)) ⟨w.heap.size+1,2,none⟩ (fun hg=>by have:=L2.out _ hg;simp at this;omega) (.slice B2 n2 s2));have D12:Hid (∀g∈F1,g∉F2):=fun g h1 h2=>by have h3:=L2.out g h2;have h4:=Q1.out g h1;omega
 have d:=A3.out;have d0:=A3.out.cell 0;have f0:=A3.out.frozen 0;have b0:=A2.out.cell 0;have t0:=A2.out.frozen 0;have d1:=A3.out.cell 1;have f1:=A3.out.frozen 1;have b1:=A2.out.cell 1;have t1:=A2.out.frozen 1;have d2:=A3.out.cell 2;have f2:=A3.out.frozen 2;have b2:=A2.out.cell 2;have t2:=A2.out.frozen 2;clear d;simp at d0 d1 d2 b0 b1 b2;clear A1 A2 A3 G2;go_wp2_with fail;refine Yo Tryz.results11 (by rfl) stArith (cs:=#[(.int .i64 m.p),(.slice B1 n1 s1),(.slice B2 n2 s2)]) ?B (by rfl) (by rfl) ?_
 case B=>exact K2.out
 refine ⟨_,_,rfl,WF P1.out P2.out D12.out,fun g hg => ?_,KG.out⟩;simp at hg
 rcases hg with hg | hg
 ·have:=L1.out g hg;omega
 ·have:=L2.out g hg;omega
set_option maxHeartbeats 1000000 in
theorem eqArith_k (m:AM) (v u:Value) (w:World) (h:AggR w (carith m) v) (k:AggR w (carith m) u) (hn:m.sz≤1048576) :
  Calls Tryz.prog 17 #[v,u] w fun e w'=>e=.returned (.bool true)∧w.grownBy w' none:=by
 obtain ⟨u1,u2,rfl,h1,h2⟩:=ZA h;obtain ⟨t1,t2,rfl,k1,k2⟩:=ZA k;have HN:=zH hn;have H1:=zH h1;have K1:=zH k1;have H2:=zH h2;have K2:=zH k2;clear h k hn h1 h2 k1 k2
 go_enter Tryz.func17,Tryz.ntmps17
 have A1:Hid (Blk ((w.alloc (.cells #[(.int .i64 m.p),u1,u2] 38)).alloc (.cells #[(.int .i64 m.p),t1,t2] 38)) w.heap.size 38 #[(.int .i64 m.p),u1,u2]):=(Blk.new w _ _).grow (gbA (gbR _ _) _);have A2:Hid (Blk ((w.alloc (.cells #[(.int .i64 m.p),u1,u2] 38)).alloc (.cells #[(.int .i64 m.p),t1,t2] 38)) (w.heap.size+1) 38 #[(.int .i64 m.p),t1,t2]):=Blk.new' _ _ _ _ (by simp);have G0:Hid (w.grownBy ((w.alloc (.cells #[(.int .i64 m.p),u1,u2] 38)).alloc (.cells #[(.int .i64 m.p),t1,t2] 38)) none):=gbA (gbA (gbR _ _) _) _;go_wp2_with fail;refine (eqStepS_k m.st u1 t1 _ (CS.grow _ H1.out G0.out) (CS.grow _ K1.out G0.out) (by have:=HN.out;unfold AM.sz at this;omega)).mono ?_;rintro e x1 ⟨rfl,g1⟩;have G1:=zH (gbT G0.out g1);have E1:=zH (Blk.grow A1.out g1);have E2:=zH (Blk.grow A2.out g1);clear A1 A2 g1;have A1:=E1;have A2:=E2;clear E1 E2;have c2:=A1.out.cell 2;have d2:=A2.out.cell 2;simp at c2 d2;go_wp2_with fail;clear c2 d2;refine (Ww m.outs u2 t2 _ (CS.grow _ H2.out G1.out) (CS.grow _ K2.out G1.out) (by have:=HN.out;unfold AM.sz at this;omega)).mono ?_;rintro e x2 ⟨rfl,g2⟩;have G2:=zH (gbT G1.out g2);have E1:=zH (Blk.grow A1.out g2);have E2:=zH (Blk.grow A2.out g2);clear A1 A2 g2;have A1:=E1;have A2:=E2;clear E1 E2;go_wp2_with fail;go_ret;exact ⟨rfl,G2.out⟩
set_option maxHeartbeats 1000000 in
theorem Vu (m:AM) (v:Value) (l:Nat) (w:World) (h:AggR w (carith m) v) (hl:l≤1048576) :
  Calls Tryz.prog 8 #[v,.int .i64 l] w fun e w'=>e=.returned (.int .i64 (szO l m.sz))∧w.grownBy w' none:=by
 obtain ⟨u1,u2,rfl,h1,h2⟩:=ZA h;have H1:=zH h1;have H2:=zH h2;clear h h1 h2;have A0:=zH (Blk.new w 27 #[(.int .i64 m.p),u1,u2]);have G0:=zH (gbA (gbR w none) (.cells #[(.int .i64 m.p),u1,u2] 27))
 by_cases b0:m.st.length≤l
 ·have C0:=zH (ZT b0)
  have Y0:=zH b0;clear b0
  by_cases b1:m.outs.length≤l - m.st.length
  ·have C1:=zH (ZT b1)
   have Y1:=zH b1;clear b1
   go_enter Tryz.func8,Tryz.ntmps8
   go_wp2_with fail;refine (US m.st u1 (l) _ (CS.grow _ H1.out G0.out) (by omega)).mono ?_;rintro e x1 ⟨rfl,g1⟩;rw [C0.out];have G1:=zH (gbT G0.out g1);have A1:=zH (Blk.grow A0.out g1);have c2:=A1.out.cell 2;simp at c2;have s0:¬((l - m.st.length:Nat):Int)<0:=by omega
   clear g1;go_wp2_with fail;refine (YS m.outs u2 (l - m.st.length) _ (CS.grow _ H2.out G1.out) (by omega)).mono ?_;rintro e x2 ⟨rfl,g2⟩;rw [C1.out];have G2:=zH (gbT G1.out g2);have A2:=zH (Blk.grow A1.out g2);have s1:¬((l - m.st.length - m.outs.length:Nat):Int)<0:=by omega
   clear g2;go_wp2_with fail;go_ret;exact ⟨retI (by have:=Y0.out;have:=Y1.out;rw [ZT (by unfold AM.sz;omega)];unfold AM.sz;omega),G2.out⟩
  ·have C1:=zH (ZV (Nat.lt_of_not_le b1))
   have N1:=zH b1;clear b1
   go_enter Tryz.func8,Tryz.ntmps8
   go_wp2_with fail;refine (US m.st u1 (l) _ (CS.grow _ H1.out G0.out) (by omega)).mono ?_;rintro e x1 ⟨rfl,g1⟩;rw [C0.out];have G1:=zH (gbT G0.out g1);have A1:=zH (Blk.grow A0.out g1);have c2:=A1.out.cell 2;simp at c2;have s0:¬((l - m.st.length:Nat):Int)<0:=by omega
   clear g1;go_wp2_with fail;refine (YS m.outs u2 (l - m.st.length) _ (CS.grow _ H2.out G1.out) (by omega)).mono ?_;rintro e x2 ⟨rfl,g2⟩;rw [C1.out];have G2:=zH (gbT G1.out g2);have A2:=zH (Blk.grow A1.out g2);clear g2;go_wp2_with fail;go_ret;exact ⟨retI (by rw [ZV];have:=N1.out;have:=Y0.out;unfold AM.sz;omega),G2.out⟩
 ·have C0:=zH (ZV (Nat.lt_of_not_le b0))
  have N0:=zH b0;clear b0
  go_enter Tryz.func8,Tryz.ntmps8
  go_wp2_with fail;refine (US m.st u1 (l) _ (CS.grow _ H1.out G0.out) (by omega)).mono ?_;rintro e x1 ⟨rfl,g1⟩;rw [C0.out];have G1:=zH (gbT G0.out g1);have A1:=zH (Blk.grow A0.out g1);clear g1;go_wp2_with fail;go_ret;exact ⟨retI (by rw [ZV];have:=N0.out;unfold AM.sz;omega),G1.out⟩
set_option maxHeartbeats 1000000 in
theorem UV (m:AM) (v:Value) (F:List Nat) (k:Int) (w:World) (h:AggO w (carith m) F v) (hn:m.sz≤1048576) (h0:0≤k) (h1:k≤17179869184) :
  Calls Tryz.prog 19 #[v,.int .i64 k] w fun e w'=>e=.returned (.int .i64 (m.cnt k))∧AggO w' (carith (m.mkd k)) F v∧Chg (fun g=>g∈F) w w':=by
 obtain ⟨u1,u2,F1,F2,rfl,rfl,h1,h2,d12⟩:=XI h;have q1:m.st.length≤1048576:=by unfold AM.sz at hn;omega
 have q2:m.outs.length≤1048576:=by unfold AM.sz at hn;omega
 have V1:Hid (∀g∈F1,g<w.heap.size):=CS.lt _ h1;have V2:Hid (∀g∈F2,g<w.heap.size):=CS.lt _ h2;have D12:=zH d12;have A0:=zH (Blk.new w 38 #[(.int .i64 m.p),u1,u2]);have G0:=zH (gbA (gbR w none) (.cells #[(.int .i64 m.p),u1,u2] 38));have P1:=zH (Zj _ h1 G0.out);have P2:=zH (Zj _ h2 G0.out);have M0:Hid (Chg (fun g=>g∈[[],F1,F2].flatten) (w.alloc (.cells #[(.int .i64 m.p),u1,u2] 38)) (w.alloc (.cells #[(.int .i64 m.p),u1,u2] 38))):=Chg.refl _ _;clear h hn h1 h2 d12
 go_enter Tryz.func19,Tryz.ntmps19
 go_wp2_with fail;refine (markStepS_k m.st u1 F1 (k) _ P1.out (by omega) (by omega) (by omega)).mono ?_;rintro e x1 ⟨rfl,o1,g1⟩;have N1:=zH o1;have E:=zH (ZO _ P2.out g1 (fun g hg hg'=>D12.out g hg' hg));clear P2;have P2:=E;clear E;clear P1;have P1:=N1;clear N1;have A1:=zH (ZP A0.out g1 (fun hg=>by have:=V1.out _ hg;omega));have M1:=zH (M0.out.trans (g1.mono (fun g hg=>by simp [hg])));clear o1 g1 A0 M0;have c2:=A1.out.cell 2;simp at c2;go_wp2_with fail;refine (Yh m.outs u2 F2 (k+3*m.st.length) _ P2.out (by omega) (by omega) (by omega)).mono ?_;rintro e x2 ⟨rfl,o2,g2⟩;have N2:=zH o2;have E:=zH (ZO _ P1.out g2 (fun g hg hg'=>D12.out g hg hg'));clear P1;have P1:=E;clear E;clear P2;have P2:=N2;clear N2;have A2:=zH (ZP A1.out g2 (fun hg=>by have:=V2.out _ hg;omega));have M2:=zH (M1.out.trans (g2.mono (fun g hg=>by simp [hg])));clear o2 g2 A1 M1;go_wp2_with fail;go_ret;have hM:=M2.out;refine ⟨rfl,WF (m:=m.mkd k) P1.out P2.out D12.out,⟨hM.os,hM.tape,hM.output,Nat.le_trans G0.out.size hM.size,fun i hi hs=>(hM.block i (Nat.lt_of_lt_of_le hi G0.out.size) hs).trans (G0.out.block i hi (by simp))⟩⟩
set_option maxHeartbeats 1000000 in
theorem heldArith_k (m:AM) (v:Value) (k:Int) (w:World) (h:AggR w (carith (m.mkd k)) v) (hn:m.sz≤1048576) (h0:0≤k) (h1:k≤17179869184) :
  Calls Tryz.prog 78 #[v,.int .i64 k] w fun e w'=>e=.returned (.int .i64 (m.cnt k))∧w.grownBy w' none:=by
 obtain ⟨u1,u2,rfl,h1,h2⟩:=ZA h;have q1:m.st.length≤1048576:=by unfold AM.sz at hn;omega
 have q2:m.outs.length≤1048576:=by unfold AM.sz at hn;omega
 have A0:=zH (Blk.new w 38 #[(.int .i64 (m.mkd k).p),u1,u2]);have G0:=zH (gbA (gbR w none) (.cells #[(.int .i64 (m.mkd k).p),u1,u2] 38));have P1:=zH h1;have P2:=zH h2;clear h hn h1 h2
 go_enter Tryz.func78,Tryz.ntmps78
 go_wp2_with fail;refine (heldStepS_k m.st.length u1 (k) _ (CS.grow _ P1.out G0.out) (by omega) (by omega) (by omega)).mono ?_;rintro e x1 ⟨rfl,g1⟩;have A1:=zH (Blk.grow A0.out g1);have G1:=zH (gbT G0.out g1);clear g1 A0;have c2:=A1.out.cell 2;simp at c2;have s0:¬k+3*m.st.length<0:=by omega
 go_wp2_with fail;refine (Wx m.outs.length u2 (k+3*m.st.length) _ (CS.grow _ P2.out G1.out) (by omega) (by omega) (by omega)).mono ?_;rintro e x2 ⟨rfl,g2⟩;have A2:=zH (Blk.grow A1.out g2);have G2:=zH (gbT G1.out g2);clear g2 A1;have s1:¬k+3*m.st.length+m.outs.length<0:=by omega
 go_wp2_with fail;go_ret;exact ⟨rfl,G2.out⟩
abbrev Stp:=Int × Int × Int
theorem YM {w:World} {A:Option Addr} {n:Nat} {st:List Stp} (h:FL c3 3 w A n st) {k:Nat} (hk:k<n) :
  ∃(b o:Nat) (x y z:Int),A=some ⟨b,o,none⟩∧b<w.heap.size∧st[k]?=some (x,y,z)∧w.cell? ⟨b,o+k*3,none⟩=some (.int .i64 x)∧w.cell? ⟨b,o+k*3+1,none⟩=some (.int .i64 y)∧w.cell? ⟨b,o+k*3+2,none⟩=some (.int .i64 z):=by
 obtain ⟨b,o,t,rfl,hb,hx,hc⟩:=h.cell WU hk (by omega);obtain ⟨x,y,z⟩:=t;have c0:=hc 0 (by omega);have c1:=hc 1 (by omega);have c2:=hc 2 (by omega);simp only [c3,Nat.add_zero,← Nat.add_assoc,List.getElem?_cons_zero,List.getElem?_cons_succ] at c0 c1 c2;exact ⟨b,o,x,y,z,rfl,hb,hx,c0,c1,c2⟩
end Go.Proofs.YthaadgdeadbhkaaGreat
