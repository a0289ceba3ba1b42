/-
 The laws' helpers on Arith,by what it reads as (printed by wip/gen_sk.py).
-/
import Derived.Test.YthaadgdeadbhkaaGreatMgFnExactOutcomeOf6
open Go.RowKit
set_option linter.unusedVariables false
set_option linter.unusedSimpArgs false
namespace Go.Proofs.YthaadgdeadbhkaaGreat
structure AM where
 p:Int
 st:List (Int × Int × Int)
 outs:List Int
abbrev carith (m:AM):List CS:=[ci m.p,csteps m.st,cints m.outs]
def AM.sz (m:AM):Nat:=m.st.length+m.outs.length
def AM.cnt (k:Int) (m:AM):Int:=k+3*m.st.length+m.outs.length
def AM.wf (m:AM):Prop:=i64w m.p∧(∀z∈m.st,w3 z)∧(∀z∈m.outs,i64w z)
theorem stArith:St Tryz.prog 38 3:=⟨⟨_,Tryz.underlying38,rfl⟩,by kernel_rfl⟩
theorem Zu {w:World} {m:AM} {v:Value} (h:AggR w (carith m) v):∃u1 u2,v=.agg #[(.int .i64 m.p),u1,u2]∧(csteps m.st).rd w u1∧(cints m.outs).rd w u2:=by
 obtain ⟨vs,rfl,h⟩:=h;obtain ⟨u0,vs0,rfl,h0,h⟩:=RdAll.head h;obtain ⟨u1,vs1,rfl,h1,h⟩:=RdAll.head h;obtain ⟨u2,vs2,rfl,h2,h⟩:=RdAll.head h;obtain rfl:=RdAll.none h;obtain rfl:=ci_rd h0;exact ⟨u1,u2,rfl,h1,h2⟩
theorem carith_mk {w:World} {m:AM} {u1 u2:Value} (h1:(csteps m.st).rd w u1) (h2:(cints m.outs).rd w u2):AggR w (carith m) (.agg #[(.int .i64 m.p),u1,u2]):=⟨_,rfl,(RdAll.cons (ci_mk _ _) (RdAll.cons h1 (RdAll.cons h2 (RdAll.nil _))))⟩
theorem YS {w:World} {m:AM} {F:List Nat} {v:Value} (h:AggO w (carith m) F v):∃(A1:Option Addr) (n1 s1:Nat) (A2:Option Addr) (n2 s2:Nat),v=.agg #[(.int .i64 m.p),(.slice A1 n1 s1),(.slice A2 n2 s2)]:=by
 obtain ⟨vs,Fs,rfl,h,rfl⟩:=h;obtain ⟨u0,vs0,F0,Fs0,rfl,rfl,h0,h,d0⟩:=OwnAll.head h;obtain ⟨u1,vs1,F1,Fs1,rfl,rfl,h1,h,d1⟩:=OwnAll.head h;obtain ⟨u2,vs2,F2,Fs2,rfl,rfl,h2,h,d2⟩:=OwnAll.head h;obtain ⟨rfl,rfl⟩:=OwnAll.none h;obtain ⟨rfl,rfl,_⟩:=h0;obtain ⟨A1,n1,s1,rfl⟩:=Yk h1;obtain ⟨A2,n2,s2,rfl⟩:=Yk h2;exact ⟨A1,n1,s1,A2,n2,s2,rfl⟩
theorem carith_oopen {w:World} {m:AM} {F:List Nat} {v:Value} (h:AggO w (carith m) F v):∃u1 u2 F1 F2,v=.agg #[(.int .i64 m.p),u1,u2]∧F=[[],F1,F2].flatten∧(csteps m.st).own w F1 u1∧(cints m.outs).own w F2 u2∧(∀g∈F1,g∉F2):=by
 obtain ⟨vs,Fs,rfl,h,rfl⟩:=h;obtain ⟨u0,vs0,F0,Fs0,rfl,rfl,h0,h,d0⟩:=OwnAll.head h;obtain ⟨u1,vs1,F1,Fs1,rfl,rfl,h1,h,d1⟩:=OwnAll.head h;obtain ⟨u2,vs2,F2,Fs2,rfl,rfl,h2,h,d2⟩:=OwnAll.head h;obtain ⟨rfl,rfl⟩:=OwnAll.none h;obtain ⟨rfl,rfl,_⟩:=h0;exact ⟨u1,u2,F1,F2,rfl,rfl,h1,h2,fun g hg hg'=>d1 g hg (by simp [hg'])⟩
theorem carith_omk {w:World} {m:AM} {u1 u2:Value} {F1 F2:List Nat} (h1:(csteps m.st).own w F1 u1) (h2:(cints m.outs).own w F2 u2) (d12:∀g∈F1,g∉F2):AggO w (carith m) [[],F1,F2].flatten (.agg #[(.int .i64 m.p),u1,u2]):=⟨_,_,rfl,(OwnAll.cons (Qh _ _) (OwnAll.cons h1 (OwnAll.cons h2 (OwnAll.nil _) (fun g hg=>by simp)) (fun g hg=>by simp [d12 g hg])) (by simp)),rfl⟩
set_option maxHeartbeats 1000000 in
theorem Km (m:AM) (v:Value) (w:World) (h:AggR w (carith m) v) (hn:m.sz≤1048576) :
  Calls Tryz.prog 11 #[v] w fun e w'=>∃u F,e=.returned u∧AggO w' (carith m) F u∧(∀g∈F,w.heap.size≤g)∧w.grownBy w' none:=by
 obtain ⟨u1,u2,rfl,h1,h2⟩:=Zu h;have HN:=zH hn;have H1:=zH h1;have H2:=zH h2;clear h hn h1 h2
 go_enter Tryz.func11,Tryz.ntmps11
 go_wp2_with fail;obtain ⟨x0,e0⟩:∃x:World,x=((w.alloc (.cells #[(.int .i64 m.p),u1,u2] 27)).alloc (.cells #[(.int .i64 0),(.slice none 0 0),(.slice none 0 0)] 38)).alloc (.cells #[(.int .i64 m.p),(.slice none 0 0),(.slice none 0 0)] 38):=⟨_,rfl⟩;have A1:Hid (Blk x0 w.heap.size 27 #[(.int .i64 m.p),u1,u2]):=by rw [e0];exact ((Blk.new w _ _).grow (gbA (gbR _ _) _)).grow (gbA (gbR _ _) _)
 have A2:Hid (Blk x0 (w.heap.size+1) 38 #[(.int .i64 0),(.slice none 0 0),(.slice none 0 0)]):=by rw [e0];exact (Blk.new' _ _ _ _ (by simp)).grow (gbA (gbR _ _) _)
 have A3:Hid (Blk x0 (w.heap.size+1+1) 38 #[(.int .i64 m.p),(.slice none 0 0),(.slice none 0 0)]):=by rw [e0];exact Blk.new' _ _ _ _ (by simp)
 have G0:Hid (w.grownBy x0 none):=by rw [e0];exact gbA (gbA (gbA (gbR _ _) _) _) _
 have Z0:x0.heap.size=w.heap.size+1+1+1:=by rw [e0];simp
 try rw [← e0]
 clear e0;have R:=CS.grow _ H1.out G0.out;refine (toStepS_k m.st u1 _ R (by have:=HN.out;unfold AM.sz at this;omega)).mono ?_;rintro e x1 ⟨v1,F1,rfl,o1,l1,g1⟩;obtain ⟨B1,n1,s1,rfl⟩:=Yk o1;have Z1:=g1.size
 try simp at Z1
 have L1:Hid (∀g∈F1,x0.heap.size≤g):=fun g hg=>by have:=l1 g hg;simpa using this
 have O1:=zH o1;have Q1:Hid (∀g∈F1,g<x1.heap.size):=fun g hg=>CS.lt _ o1 g hg;have E1:=zH (Blk.grow (A1.out) g1);have E2:=zH (Blk.grow (A2.out) g1);have E3:=zH (Blk.grow (A3.out) g1);have G1:=zH (gbT (G0.out) g1);clear R l1 g1 o1 A1 A2 A3 G0;have A1:=E1;have A2:=E2;have A3:=E3;clear E1 E2 E3;have K1:=zH ((A1.out).far (p:=⟨w.heap.size+1+1,1,none⟩) (by first | (simp;done) | (simp;omega)) (.slice B1 n1 s1));have K2:=zH ((A2.out).far (p:=⟨w.heap.size+1+1,1,none⟩) (by first | (simp;done) | (simp;omega)) (.slice B1 n1 s1));have K3:=zH ((A3.out).set_ 1 (.slice B1 n1 s1));have KG:=zH (gbS (G1.out) (p:=⟨w.heap.size+1+1,1,none⟩) (by simp;omega) (.slice B1 n1 s1));have P1:=zH (YL _ (O1.out) ⟨w.heap.size+1+1,1,none⟩ (fun hg=>by have:=L1.out _ hg;simp at this;omega) (.slice B1 n1 s1));clear O1;have c0:=A1.out.cell 0;have c1:=A1.out.cell 1;have c2:=A1.out.cell 2;have d0:=A3.out.cell 0;have f0:=A3.out.frozen 0;have d1:=A3.out.cell 1;have f1:=A3.out.frozen 1;have d2:=A3.out.cell 2;have f2:=A3.out.frozen 2;simp at c0 c1 c2 d0 d1 d2;clear A1 A2 A3 G1;go_wp2_with fail;have R:=CS.grow _ H2.out KG.out;refine (Wr m.outs u2 _ R (by have:=HN.out;unfold AM.sz at this;omega)).mono ?_;rintro e x2 ⟨v2,F2,rfl,o2,l2,g2⟩;obtain ⟨B2,n2,s2,rfl⟩:=Yk o2;have Z2:=g2.size
 try simp at Z2
 have L2:Hid (∀g∈F2,x1.heap.size≤g):=fun g hg=>by have:=l2 g hg;simpa using this
 have O2:=zH o2;have Q2:Hid (∀g∈F2,g<x2.heap.size):=fun g hg=>CS.lt _ o2 g hg;have N1:=zH (ZD _ P1.out g2);clear P1;have O1:=N1;clear N1;have E1:=zH (Blk.grow (K1.out) g2);have E2:=zH (Blk.grow (K2.out) g2);have E3:=zH (Blk.grow (K3.out) g2);have G2:=zH (gbT (KG.out) g2);clear R l2 g2 o2 K1 K2 K3 KG c0 c1 c2 d0 d1 d2 f0 f1 f2;have A1:=E1;have A2:=E2;have A3:=E3;clear E1 E2 E3;have K2:=zH (((((A2.out).far (p:=⟨w.heap.size+1+1,2,none⟩) (by first | (simp;done) | (simp;omega)) (.slice B2 n2 s2)).set_ 0 (.int .i64 m.p)).set_ 1 (.slice B1 n1 s1)).set_ 2 (.slice B2 n2 s2));have KG:=zH (gbS (gbS (gbS (gbS (G2.out) (p:=⟨w.heap.size+1+1,2,none⟩) (by simp;omega) (.slice B2 n2 s2)) (p:=⟨w.heap.size+1,0,none⟩) (by simp) (.int .i64 m.p)) (p:=⟨w.heap.size+1,1,none⟩) (by simp) (.slice B1 n1 s1)) (p:=⟨w.heap.size+1,2,none⟩) (by simp) (.slice B2 n2 s2));have P1:=zH (YL _ (YL _ (YL _ (YL _ (O1.out) ⟨w.heap.size+1+1,2,none⟩ (fun hg=>by have:=L1.out _ hg;simp at this;omega) (.slice B2 n2 s2)) ⟨w.heap.size+1,0,none⟩ (fun hg=>by have:=L1.out _ hg;simp at this;omega) (.int .i64 m.p)) ⟨w.heap.size+1,1,none⟩ (fun hg=>by have:=L1.out _ hg;simp at this;omega) (.slice B1 n1 s1)) ⟨w.heap.size+1,2,none⟩ (fun hg=>by have:=L1.out _ hg;simp at this;omega) (.slice B2 n2 s2));have P2:=zH (YL _ (YL _ (YL _ (YL _ (O2.out) ⟨w.heap.size+1+1,2,none⟩ (fun hg=>by have:=L2.out _ hg;simp at this;omega) (.slice B2 n2 s2)) ⟨w.heap.size+1,0,none⟩ (fun hg=>by have:=L2.out _ hg;simp at this;omega) (.int .i64 m.p)) ⟨w.heap.size+1,1,none⟩ (fun hg=>by have:=L2.out _ hg;simp at this;omega) (.slice B1 n1 s1)) ⟨w.heap.size+1,2,none⟩ (fun hg=>by have:=L2.out _ hg;simp at this;omega) (.slice B2 n2 s2));have D12:Hid (∀g∈F1,g∉F2):=fun g h1 h2=>by have h3:=L2.out g h2;have h4:=Q1.out g h1;omega
 have d:=A3.out;have d0:=A3.out.cell 0;have f0:=A3.out.frozen 0;have b0:=A2.out.cell 0;have t0:=A2.out.frozen 0;have d1:=A3.out.cell 1;have f1:=A3.out.frozen 1;have b1:=A2.out.cell 1;have t1:=A2.out.frozen 1;have d2:=A3.out.cell 2;have f2:=A3.out.frozen 2;have b2:=A2.out.cell 2;have t2:=A2.out.frozen 2;clear d;simp at d0 d1 d2 b0 b1 b2;clear A1 A2 A3 G2;go_wp2_with fail;refine YG Tryz.results11 (by rfl) stArith (cs:=#[(.int .i64 m.p),(.slice B1 n1 s1),(.slice B2 n2 s2)]) ?B (by rfl) (by rfl) ?_
 case B=>exact K2.out
 refine ⟨_,_,rfl,carith_omk P1.out P2.out D12.out,fun g hg => ?_,KG.out⟩;simp at hg
 rcases hg with hg | hg
 ·have:=L1.out g hg;omega
 ·have:=L2.out g hg;omega
set_option maxHeartbeats 1000000 in
theorem eqArith_k (m:AM) (v u:Value) (w:World) (h:AggR w (carith m) v) (k:AggR w (carith m) u) (hn:m.sz≤1048576) :
  Calls Tryz.prog 17 #[v,u] w fun e w'=>e=.returned (.bool true)∧w.grownBy w' none:=by
 obtain ⟨u1,u2,rfl,h1,h2⟩:=Zu h;obtain ⟨t1,t2,rfl,k1,k2⟩:=Zu k;have HN:=zH hn;have H1:=zH h1;have K1:=zH k1;have H2:=zH h2;have K2:=zH k2;clear h k hn h1 h2 k1 k2
 go_enter Tryz.func17,Tryz.ntmps17
 have A1:Hid (Blk ((w.alloc (.cells #[(.int .i64 m.p),u1,u2] 38)).alloc (.cells #[(.int .i64 m.p),t1,t2] 38)) w.heap.size 38 #[(.int .i64 m.p),u1,u2]):=(Blk.new w _ _).grow (gbA (gbR _ _) _);have A2:Hid (Blk ((w.alloc (.cells #[(.int .i64 m.p),u1,u2] 38)).alloc (.cells #[(.int .i64 m.p),t1,t2] 38)) (w.heap.size+1) 38 #[(.int .i64 m.p),t1,t2]):=Blk.new' _ _ _ _ (by simp);have G0:Hid (w.grownBy ((w.alloc (.cells #[(.int .i64 m.p),u1,u2] 38)).alloc (.cells #[(.int .i64 m.p),t1,t2] 38)) none):=gbA (gbA (gbR _ _) _) _;go_wp2_with fail;refine (eqStepS_k m.st u1 t1 _ (CS.grow _ H1.out G0.out) (CS.grow _ K1.out G0.out) (by have:=HN.out;unfold AM.sz at this;omega)).mono ?_;rintro e x1 ⟨rfl,g1⟩;have G1:=zH (gbT G0.out g1);have E1:=zH (Blk.grow A1.out g1);have E2:=zH (Blk.grow A2.out g1);clear A1 A2 g1;have A1:=E1;have A2:=E2;clear E1 E2;have c2:=A1.out.cell 2;have d2:=A2.out.cell 2;simp at c2 d2;go_wp2_with fail;clear c2 d2;refine (QK m.outs u2 t2 _ (CS.grow _ H2.out G1.out) (CS.grow _ K2.out G1.out) (by have:=HN.out;unfold AM.sz at this;omega)).mono ?_;rintro e x2 ⟨rfl,g2⟩;have G2:=zH (gbT G1.out g2);have E1:=zH (Blk.grow A1.out g2);have E2:=zH (Blk.grow A2.out g2);clear A1 A2 g2;have A1:=E1;have A2:=E2;clear E1 E2;go_wp2_with fail;go_ret;exact ⟨rfl,G2.out⟩
set_option maxHeartbeats 1000000 in
theorem szArith_k (m:AM) (v:Value) (l:Nat) (w:World) (h:AggR w (carith m) v) (hl:l≤1048576) :
  Calls Tryz.prog 8 #[v,.int .i64 l] w fun e w'=>e=.returned (.int .i64 (szO l m.sz))∧w.grownBy w' none:=by
 obtain ⟨u1,u2,rfl,h1,h2⟩:=Zu h;have H1:=zH h1;have H2:=zH h2;clear h h1 h2;have A0:=zH (Blk.new w 27 #[(.int .i64 m.p),u1,u2]);have G0:=zH (gbA (gbR w none) (.cells #[(.int .i64 m.p),u1,u2] 27))
 by_cases b0:m.st.length≤l
 ·have C0:=zH (Ww b0)
  have Y0:=zH b0;clear b0
  by_cases b1:m.outs.length≤l - m.st.length
  ·have C1:=zH (Ww b1)
   have Y1:=zH b1;clear b1
   go_enter Tryz.func8,Tryz.ntmps8
   go_wp2_with fail;refine (Ki m.st u1 (l) _ (CS.grow _ H1.out G0.out) (by omega)).mono ?_;rintro e x1 ⟨rfl,g1⟩;rw [C0.out];have G1:=zH (gbT G0.out g1);have A1:=zH (Blk.grow A0.out g1);have c2:=A1.out.cell 2;simp at c2;have s0:¬((l - m.st.length:Nat):Int)<0:=by omega
   clear g1;go_wp2_with fail;refine (QL m.outs u2 (l - m.st.length) _ (CS.grow _ H2.out G1.out) (by omega)).mono ?_;rintro e x2 ⟨rfl,g2⟩;rw [C1.out];have G2:=zH (gbT G1.out g2);have A2:=zH (Blk.grow A1.out g2);have s1:¬((l - m.st.length - m.outs.length:Nat):Int)<0:=by omega
   clear g2;go_wp2_with fail;go_ret;exact ⟨retI (by have:=Y0.out;have:=Y1.out;rw [Ww (by unfold AM.sz;omega)];unfold AM.sz;omega),G2.out⟩
  ·have C1:=zH (VN (Nat.lt_of_not_le b1))
   have N1:=zH b1;clear b1
   go_enter Tryz.func8,Tryz.ntmps8
   go_wp2_with fail;refine (Ki m.st u1 (l) _ (CS.grow _ H1.out G0.out) (by omega)).mono ?_;rintro e x1 ⟨rfl,g1⟩;rw [C0.out];have G1:=zH (gbT G0.out g1);have A1:=zH (Blk.grow A0.out g1);have c2:=A1.out.cell 2;simp at c2;have s0:¬((l - m.st.length:Nat):Int)<0:=by omega
   clear g1;go_wp2_with fail;refine (QL m.outs u2 (l - m.st.length) _ (CS.grow _ H2.out G1.out) (by omega)).mono ?_;rintro e x2 ⟨rfl,g2⟩;rw [C1.out];have G2:=zH (gbT G1.out g2);have A2:=zH (Blk.grow A1.out g2);clear g2;go_wp2_with fail;go_ret;exact ⟨retI (by rw [VN];have:=N1.out;have:=Y0.out;unfold AM.sz;omega),G2.out⟩
 ·have C0:=zH (VN (Nat.lt_of_not_le b0))
  have N0:=zH b0;clear b0
  go_enter Tryz.func8,Tryz.ntmps8
  go_wp2_with fail;refine (Ki m.st u1 (l) _ (CS.grow _ H1.out G0.out) (by omega)).mono ?_;rintro e x1 ⟨rfl,g1⟩;rw [C0.out];have G1:=zH (gbT G0.out g1);have A1:=zH (Blk.grow A0.out g1);clear g1;go_wp2_with fail;go_ret;exact ⟨retI (by rw [VN];have:=N0.out;unfold AM.sz;omega),G1.out⟩
abbrev Stp:=Int × Int × Int
def muls (st:List Stp) (k:Nat):Nat:=(st.take k).countP (·.1 == 4)
theorem muls_zero (st:List Stp):muls st 0=0:=by simp [muls]
theorem muls_succ (st:List Stp) (k:Nat) (x:Stp) (h:st[k]?=some x):muls st (k+1)=muls st k+if x.1 == 4 then 1 else 0:=by
 unfold muls;obtain ⟨hk,rfl⟩:=List.getElem?_eq_some_iff.1 h;rw [List.take_succ_eq_append_getElem hk,List.countP_append,List.countP_singleton]
theorem muls_le (st:List Stp) (k:Nat):muls st k≤k:=Nat.le_trans List.countP_le_length (by rw [List.length_take];omega)
theorem YH {w:World} {A:Option Addr} {n:Nat} {st:List Stp} (h:FL c3 3 w A n st) {k:Nat} (hk:k<n) :
  ∃(b o:Nat) (x y z:Int),A=some ⟨b,o,none⟩∧b<w.heap.size∧st[k]?=some (x,y,z)∧w.cell? ⟨b,o+k*3,none⟩=some (.int .i64 x)∧w.cell? ⟨b,o+k*3+1,none⟩=some (.int .i64 y)∧w.cell? ⟨b,o+k*3+2,none⟩=some (.int .i64 z):=by
 obtain ⟨b,o,t,rfl,hb,hx,hc⟩:=h.cell Kb hk (by omega);obtain ⟨x,y,z⟩:=t;have c0:=hc 0 (by omega);have c1:=hc 1 (by omega);have c2:=hc 2 (by omega);simp only [c3,Nat.add_zero,← Nat.add_assoc,List.getElem?_cons_zero,List.getElem?_cons_succ] at c0 c1 c2;exact ⟨b,o,x,y,z,rfl,hb,hx,c0,c1,c2⟩
def inB (x lo hi:Int):Bool:=decide (lo≤x)&&decide (x≤hi)
theorem inB_iff {x lo hi:Int}:inB x lo hi=true ↔ lo≤x∧x≤hi:=by simp [inB]
theorem spec.l01In_q (x lo hi:Int) (w:World) :
    Calls Tryz.prog 94 #[.int .i64 x,.int .i64 lo,.int .i64 hi] w fun e w'=>e=.returned (.bool (inB x lo hi))∧w=w':=by
  by_cases h1:lo≤x
  all_goals by_cases h2:x≤hi
  all_goals
    have H1:=zH h1;have H2:=zH h2
    go_enter Tryz.func94,Tryz.ntmps94
    go_wp2
    go_ret;have h1':=H1.out;have h2':=H2.out;exact ⟨retB (by simp [inB,h1',h2'] <;> omega),rfl⟩
theorem impl.within_q (x lo hi:Int) (w:World) :
    Calls Tryz.prog 111 #[.int .i64 x,.int .i64 lo,.int .i64 hi] w fun e w'=>e=.returned (.bool (inB x lo hi))∧w=w':=by
  by_cases h1:lo≤x
  all_goals by_cases h2:x≤hi
  all_goals
    have H1:=zH h1;have H2:=zH h2
    go_enter Tryz.func111,Tryz.ntmps111
    go_wp2
    go_ret;have h1':=H1.out;have h2':=H2.out;exact ⟨retB (by simp [inB,h1',h2'] <;> omega),rfl⟩
def stepB (p:Int) (k:Int) (s:Stp):Bool :=
  if s.1=1 then inB s.2.1 0 59&&s.2.2 == 0
  else if s.1=2 then elemB p s.2.1&&s.2.2 == 0
  else if s.1=3∨s.1=4 then inB s.2.1 0 (k - 1)&&inB s.2.2 0 (k - 1)
  else false
def stAt (m:AM) (j:Nat):Stp:=m.st.getD j (0,0,0)
structure AOk (m:AM):Prop where
  fld:fieldB m.p=true
  few:m.st.length≤60
  steps:∀j,j<m.st.length→stepB m.p j (stAt m j)=true
  outs:∀z∈m.outs,inB z 0 (m.st.length - 1)=true
open Classical in
noncomputable def arithB (m:AM):Bool:=decide (AOk m)
theorem YD {m:AM} (h:AOk m):arithB m=true:=by simp [arithB,h]
theorem Yw {m:AM} (h:¬AOk m):arithB m=false:=by simp [arithB,h]
theorem Uv {m:AM} (h:arithB m=true):AOk m:=by simpa [arithB] using h
set_option maxHeartbeats 1000000 in
theorem specl27Step_c (p:Int) (x y z:Int) (k:Nat) (w:World) (hp:p≤9223372036854775807) (hk:k≤9223372036854775807) :
    Calls Tryz.prog 140 #[.int .i64 p,.agg #[.int .i64 x,.int .i64 y,.int .i64 z],.int .i64 k] w fun e w'=>e=.returned (.bool (stepB p k (x,y,z)))∧w.grownBy w' none:=by
  by_cases h1:x=1
  · subst h1
    have E:Hid (stepB p k (1,y,z)=(inB y 0 59&&z == 0)):=rfl
    cases hin:inB y 0 59 with
    | false =>
      rw [hin] at E;have HI:=zH hin;clear hin
      go_enter Tryz.func140,Tryz.ntmps140
      go_wp2_with fail;refine (spec.l01In_q _ _ _ _).mono ?_;rintro e w1 ⟨rfl,rfl⟩;rw [HI.out];go_wp2_with fail;go_ret;exact ⟨retB E.out.symm,gbA (gbR _ _) _⟩
    | true =>
      rw [hin] at E;have HI:=zH hin;clear hin
      go_enter Tryz.func140,Tryz.ntmps140
      go_wp2_with fail;refine (spec.l01In_q _ _ _ _).mono ?_;rintro e w1 ⟨rfl,rfl⟩;rw [HI.out];go_wp2_with fail;go_ret;exact ⟨retB (by rw [E.out];simp),gbA (gbR _ _) _⟩
  · have d1:(x == 1)=false:=by simpa using h1
    by_cases h2:x=2
    · subst h2
      have E:Hid (stepB p k (2,y,z)=(elemB p y&&z == 0)):=rfl
      cases hin:elemB p y with
      | false =>
        rw [hin] at E;have HI:=zH hin;clear hin
        go_enter Tryz.func140,Tryz.ntmps140
        go_wp2_with fail;refine (ZN p y _ hp).mono ?_;rintro e w1 ⟨rfl,rfl⟩;rw [HI.out];go_wp2_with fail;go_ret;exact ⟨retB E.out.symm,gbA (gbR _ _) _⟩
      | true =>
        rw [hin] at E;have HI:=zH hin;clear hin
        go_enter Tryz.func140,Tryz.ntmps140
        go_wp2_with fail;refine (ZN p y _ hp).mono ?_;rintro e w1 ⟨rfl,rfl⟩;rw [HI.out];go_wp2_with fail;go_ret;exact ⟨retB (by rw [E.out];simp),gbA (gbR _ _) _⟩
    · have d2:(x == 2)=false:=by simpa using h2
      by_cases h3:x=3∨x=4
      · have E:Hid (stepB p k (x,y,z)=(inB y 0 (k - 1)&&inB z 0 (k - 1))):=by simp [Hid,stepB,h1,h2,h3]
        have HR:=zH h3
        have E2:Hid (stepB p k (x,y,z)=(decide (0≤y)&&decide (y<(k:Int))&&decide (0≤z)&&decide (z<(k:Int)))):=by
          unfold Hid;rw [E.out,inB,inB,Bool.eq_iff_iff];simp;omega
        clear E HR h1 h2
        cases a1:decide (0≤y)
        all_goals cases a2:decide (y<(k:Int))
        all_goals cases a3:decide (0≤z)
        all_goals cases a4:decide (z<(k:Int))
        all_goals
          rw [a1,a2,a3,a4] at E2
          rcases h3 with h3 | h3
          all_goals
            subst h3
            go_enter Tryz.func140,Tryz.ntmps140
            go_wp2
            go_ret;exact ⟨retB E2.out.symm,gbA (gbR _ _) _⟩
      · have E:Hid (stepB p k (x,y,z)=false):=by simp [Hid,stepB,h1,h2,h3]
        have d3:(x == 3)=false:=by simp;omega
        have d4:(x == 4)=false:=by simp;omega
        clear h1 h2 h3
        go_enter Tryz.func140,Tryz.ntmps140
        go_wp2_with fail;go_ret;exact ⟨retB E.out.symm,gbA (gbR _ _) _⟩
set_option maxRecDepth 100000 in
set_option maxHeartbeats 2000000 in
theorem Ym (m:AM) (v:Value) (w:World) (h:AggR w (carith m) v) (wf:m.wf) :
    Calls Tryz.prog 84 #[v] w fun e w'=>e=.returned (.bool (arithB m))∧w.grownBy w' none:=by
  obtain ⟨u1,u2,rfl,h1,h2⟩:=Zu h;obtain ⟨A,c,rfl,hc,hm,hF⟩:=ZU (s:=3) (fun _=>rfl) (by omega) h1;obtain ⟨B,d,rfl,hd,hm',hI⟩:=ZB h2;have hp:=wf.1.2;clear h h1 h2;unfold maxLen at hm hm';obtain ⟨n,hn⟩:∃n,m.st.length=n:=⟨_,rfl⟩;obtain ⟨q,hq⟩:∃q,m.outs.length=q:=⟨_,rfl⟩;rw [hn] at hF hc ⊢;rw [hq] at hI hd ⊢;have HN:=zH hn;have HQ:=zH hq;have HF:=zH hF;have HO:=zH hI;have A1:=zH (Blk.new w 38 #[.int .i64 m.p,.slice A n c,.slice B q d]);have G1:=zH (gbA (gbR w none) (.cells #[.int .i64 m.p,.slice A n c,.slice B q d] 38));clear hF hI wf hn hq
  go_enter Tryz.func84,Tryz.ntmps84
  go_wp2_with fail
  go_loopw [3] (fun i wr=>∃k:Nat,k≤n∧i=.int .i64 k∧Hid (∀j,j<k→stepB m.p j (stAt m j)=true)∧Hid (Blk wr w.heap.size 38 #[.int .i64 m.p,.slice A n c,.slice B q d])∧Hid (w.grownBy wr none)) (fun i _=>n - (intOf i).toNat)
  case atStart=>exact ⟨0,Nat.zero_le _,rfl,fun j hj=>by omega,A1.out,G1.out⟩
  case round =>
    clear A1 G1;obtain ⟨k,hk,rfl,hall,hB,hG⟩:=hrel;have c0:=hB.out.cell 0;have c1:=hB.out.cell 1;have c2:=hB.out.cell 2;simp at c0 c1 c2
    by_cases hlt:k<n
    · obtain ⟨b,o,x,y,z,rfl,hb,hx,q0,q1,q2⟩:=YH (FL.grow HF.out hG.out) hlt
      have i1:(k:Int)<(n:Int):=by omega
      have HX:Hid (stAt m k=(x,y,z)):=by simp [Hid,stAt,zF,hx]
      clear hx;generalize hs:stepB m.p k (x,y,z)=s at *;have HS:=zH hs;clear hs;go_wp2_with fail;refine Zs [isV (.pointer (some ⟨w.heap.size,0,none⟩)),isV (.int .i64 m.p),isV (.pointer (some ⟨w.heap.size,1,none⟩)),isV (.slice (some ⟨b,o,none⟩) n c),isV (.int .i64 k),isV (.pointer (some ⟨b,o+k*3,none⟩)),isV (.agg #[.int .i64 x,.int .i64 y,.int .i64 z]),isV (.int .i64 k),isV (.bool s),isV (.bool (!s))] (by kernel_rfl) (by kernel_rfl) (by kernel_rfl) (by simp [ZK,Zb]) ?_ ?_
      · simp only [hops,and_true]
        refine ⟨?_, ?_, ?_, ?_, ?_, ?_, ?_, ?_, ?_, ?_⟩
        all_goals
          intro f w1 hG hd;have k0:=gbk (gbT (gbD (gbR _ _)) hG) (c0);have k1:=gbk (gbT (gbD (gbR _ _)) hG) (c1);have k2:=gbk (gbT (gbD (gbR _ _)) hG) (q0);have k3:=gbk (gbT (gbD (gbR _ _)) hG) (q1);have k4:=gbk (gbT (gbD (gbR _ _)) hG) (q2);simp [deps,tAt,isV] at hd
          first | simp [puts,dsts,Act.put,hd] | simp [puts,dsts,Act.put]
          clear hd
          go_wp2_with ((go_at_call 140;refine (specl27Step_c m.p x y z k _ hp (by omega)).mono ?_;rintro e w2 ⟨rfl,hw⟩;rw [HS.out]))
        all_goals exact ⟨_,rfl,by first | with_reducible exact gbR _ _ | exact hw,by first | (simp [tAt,isV];done) | (simp [tAt,isV];assumption)⟩
      intro f w5 hG hd;simp [knows,tAt,isV] at hd;simp only [puts,dsts,Act.put,hd,zB,zC,zA,zD,zE];clear hd;have g5:=gbT (gbD (gbR _ none)) hG;clear hG;have B5:=zH (hB.out.grow g5);have G5:=zH (gbT hG.out g5);clear hB hG g5
      cases s with
      | false =>
        go_wp2_with fail;go_ret;exact ⟨retB (Yw fun h=>by have:=h.steps k (by rw [HN.out];exact hlt);rw [HX.out,HS.out] at this;cases this).symm,G5.out⟩
      | true =>
        go_wp2_with fail
        go_roundw
        case rel=>exact ⟨k+1,by omega,by go_num,fun j hj=>by
          by_cases e:j=k
          · subst e;rw [HX.out];exact HS.out
          · exact hall.out j (by omega),B5.out,G5.out⟩
        case measure=>simp [intOf];omega
    · have hkn:k=n:=by omega
      subst hkn;go_wp2_with fail
      go_loopw [4] (fun i wo=>∃j:Nat,j≤q∧i=.int .i64 j∧Hid (∀l,l<j→inB (m.outs.getD l 0) 0 (k - 1)=true)∧Hid (Blk wo w.heap.size 38 #[.int .i64 m.p,.slice A k c,.slice B q d])∧Hid (w.grownBy wo none)) (fun i _=>q - (intOf i).toNat)
      case atStart=>exact ⟨0,Nat.zero_le _,rfl,fun j hj=>by omega,hB.out,hG.out⟩
      case round =>
        clear hB hG c0 c1 c2;obtain ⟨wo,rfl⟩:∃wo:World,wo=wr:=⟨_,rfl⟩;obtain ⟨j,hj,rfl,hal2,hB,hG⟩:=hrel;have c0:=hB.out.cell 0;have c1:=hB.out.cell 1;have c2:=hB.out.cell 2;simp at c0 c1 c2
        by_cases hlt2:j<q
        · obtain ⟨b,o,rfl,hb,q0⟩:=(Ints.grow HO.out hG.out).cell hlt2
          have i2:(j:Int)<(q:Int):=by omega
          generalize hz:m.outs.getD j 0=z at *;have HZ:=zH hz;clear hz;generalize hs:inB z 0 ((k:Int) - 1)=s at *;have HS:=zH hs;clear hs;go_wp2_with fail;refine Zs [isV (.pointer (some ⟨w.heap.size,2,none⟩)),isV (.slice (some ⟨b,o,none⟩) q d),isV (.int .i64 j),isV (.pointer (some ⟨b,o+j,none⟩)),isV (.int .i64 z),isV (.pointer (some ⟨w.heap.size,1,none⟩)),isV (.slice A k c),isV (.int .i64 k),isV (.int .i64 ((k:Int) - 1)),isV (.bool s),isV (.bool (!s))] (by kernel_rfl) (by kernel_rfl) (by kernel_rfl) (by simp [ZK,Zb]) ?_ ?_
          · simp only [hops,and_true]
            refine ⟨?_, ?_, ?_, ?_, ?_, ?_, ?_, ?_, ?_, ?_, ?_⟩
            all_goals
              intro f w1 hG hd;have k0:=gbk (gbT (gbD (gbR _ _)) hG) (c1);have k1:=gbk (gbT (gbD (gbR _ _)) hG) (c2);have k2:=gbk (gbT (gbD (gbR _ _)) hG) (q0);simp [deps,tAt,isV] at hd
              first | simp [puts,dsts,Act.put,hd] | simp [puts,dsts,Act.put]
              clear hd
              go_wp2_with ((go_at_call 94;refine (spec.l01In_q z 0 ((k:Int) - 1) _).mono ?_;rintro e w2 ⟨rfl,rfl⟩;rw [HS.out]))
            all_goals exact ⟨_,rfl,by first | with_reducible exact gbR _ _ | exact hw,by first | (simp [tAt,isV];done) | (simp [tAt,isV];assumption)⟩
          intro f w5 hG hd;simp [knows,tAt,isV] at hd;simp only [puts,dsts,Act.put,hd,zB,zC,zA,zD,zE];clear hd;have g5:=gbT (gbD (gbR _ none)) hG;clear hG;have B5:=zH (hB.out.grow g5);have G5:=zH (gbT hG.out g5);clear hB hG g5
          cases s with
          | false =>
            go_wp2_with fail;go_ret
            exact ⟨retB (Yw fun h=>by
              have h1:=h.outs (m.outs.getD j 0) (by rw [getI _ _ (by rw [HQ.out];exact hlt2)];exact List.getElem_mem _)
              rw [HZ.out,HN.out,HS.out] at h1;cases h1).symm,G5.out⟩
          | true =>
            go_wp2_with fail
            go_roundw
            case rel=>exact ⟨j+1,by omega,by go_num,fun l hl=>by
              by_cases e:l=j
              · subst e;rw [HZ.out];exact HS.out
              · exact hal2.out l (by omega),B5.out,G5.out⟩
            case measure=>simp [intOf];omega
        · have hjq:j=q:=by omega
          subst hjq
          cases hf:fieldB m.p with
          | false =>
            have HFB:=zH hf;clear hf;go_wp2_with fail;refine (Xh m.p _ hp).mono ?_;rintro e w1 ⟨rfl,rfl⟩;rw [HFB.out];go_wp2_with fail;go_ret;exact ⟨retB (Yw fun h=>by have:=h.fld;rw [HFB.out] at this;cases this).symm,hG.out⟩
          | true =>
            have HFB:=zH hf;clear hf;go_wp2_with fail;refine (Xh m.p _ hp).mono ?_;rintro e w1 ⟨rfl,rfl⟩;rw [HFB.out];go_wp2_with fail;go_ret;refine ⟨retB ?_,hG.out⟩
            by_cases h60:k≤60
            · rw [YD ⟨HFB.out,by rw [HN.out];exact h60,fun j hj=>hall.out j (by rw [← HN.out];exact hj),fun z hz=>by
                obtain ⟨l,hl,rfl⟩:=List.getElem_of_mem hz;have h1:=hal2.out l (by rw [← HQ.out];exact hl);rw [getI _ _ hl] at h1
                rw [HN.out];exact h1⟩]
              simp;omega
            · rw [Yw fun h=>by have:=h.few;rw [HN.out] at this;exact h60 this]
              simp;omega
theorem Xj (p a:Int) (w:World) (hp:p≤9223372036854775807) :
    Calls Tryz.prog 134 #[.int .i64 p,.int .i64 a] w fun e w'=>e=.returned (.bool (elemB p a))∧w=w':=by
  have E:Hid (elemB p a=(fieldB p&&inB a 0 (p - 1))):=by simp [Hid,elemB,inB,Bool.and_assoc]
  cases hf:fieldB p with
  | false =>
    rw [hf] at E;have HF:=zH hf;clear hf
    go_enter Tryz.func134,Tryz.ntmps134
    go_wp2_with fail;refine (Yl p _ hp).mono ?_;rintro e w1 ⟨rfl,rfl⟩;rw [HF.out];go_wp2_with fail;go_ret;exact ⟨retB E.out.symm,rfl⟩
  | true =>
    obtain ⟨h2,h3⟩:=ZE hf;rw [hf] at E;have HF:=zH hf;clear hf
    go_enter Tryz.func134,Tryz.ntmps134
    go_wp2_with fail;refine (Yl p _ hp).mono ?_;rintro e w1 ⟨rfl,rfl⟩;rw [HF.out];go_wp2_with fail;refine (impl.within_q _ _ _ _).mono ?_;rintro e w1 ⟨rfl,rfl⟩;go_wp2_with fail;go_ret;exact ⟨retB (by rw [E.out];simp),rfl⟩
set_option maxRecDepth 100000 in
set_option maxHeartbeats 4000000 in
theorem ZZ (m:AM) (v:Value) (w:World) (h:AggR w (carith m) v) (wf:m.wf) :
    Calls Tryz.prog 85 #[v] w fun e w'=>e=.returned (.bool (arithB m))∧w.grownBy w' none:=by
  obtain ⟨u1,u2,rfl,h1,h2⟩:=Zu h;obtain ⟨A,c,rfl,hc,hm,hF⟩:=ZU (s:=3) (fun _=>rfl) (by omega) h1;obtain ⟨B,d,rfl,hd,hm',hI⟩:=ZB h2;have hp:=wf.1.2;clear h h1 h2;unfold maxLen at hm hm';obtain ⟨n,hn⟩:∃n,m.st.length=n:=⟨_,rfl⟩;obtain ⟨q,hq⟩:∃q,m.outs.length=q:=⟨_,rfl⟩;rw [hn] at hF hc ⊢;rw [hq] at hI hd ⊢;have HN:=zH hn;have HQ:=zH hq;have HF:=zH hF;have HO:=zH hI;have A1:=zH (Blk.new w 38 #[.int .i64 m.p,.slice A n c,.slice B q d]);have G1:=zH (gbA (gbR w none) (.cells #[.int .i64 m.p,.slice A n c,.slice B q d] 38));clear hF hI wf hn hq
  cases hf:fieldB m.p with
  | false =>
    have HFB:=zH hf;clear hf
    go_enter Tryz.func85,Tryz.ntmps85
    go_wp2_with fail;refine (Yl m.p _ hp).mono ?_;rintro e w1 ⟨rfl,rfl⟩;rw [HFB.out];go_wp2_with fail;go_ret;exact ⟨retB (Yw fun h=>by have:=h.fld;rw [HFB.out] at this;cases this).symm,G1.out⟩
  | true =>
    have HFB:=zH hf;obtain ⟨p2,p101⟩:=ZE hf;clear hf
    by_cases h60:60<n
    · have d60:decide (60<n)=true:=by simpa using h60
      have d60':decide ((60:Int)<(n:Int))=true:=by simp;omega
      go_enter Tryz.func85,Tryz.ntmps85
      go_wp2_with fail;refine (Yl m.p _ hp).mono ?_;rintro e w1 ⟨rfl,rfl⟩;rw [HFB.out];go_wp2_with fail;go_ret;exact ⟨retB (Yw fun h=>by have:=h.few;rw [HN.out] at this;omega).symm,G1.out⟩
    · have d60':decide ((60:Int)<(n:Int))=false:=by simp;omega
      go_enter Tryz.func85,Tryz.ntmps85
      go_wp2_with fail;refine (Yl m.p _ hp).mono ?_;rintro e w1 ⟨rfl,rfl⟩;rw [HFB.out];go_wp2_with fail
      go_loopw [21] (fun i wr=>∃k:Nat,k≤n∧i=.int .i64 k∧Hid (∀j,j<k→stepB m.p j (stAt m j)=true)∧Hid (Blk wr w.heap.size 38 #[.int .i64 m.p,.slice A n c,.slice B q d])∧Hid (w.grownBy wr none)) (fun i _=>n - (intOf i).toNat)
      case atStart=>exact ⟨0,Nat.zero_le _,rfl,fun j hj=>by omega,A1.out,G1.out⟩
      case round =>
        clear A1 G1 d60';obtain ⟨k,hk,rfl,hall,hB,hG⟩:=hrel;have c0:=hB.out.cell 0;have c1:=hB.out.cell 1;have c2:=hB.out.cell 2;simp at c0 c1 c2
        by_cases hlt:k<n
        · obtain ⟨b,o,x,y,z,rfl,hb,hx,q0,q1,q2⟩:=YH (FL.grow HF.out hG.out) hlt
          have i1:(k:Int)<(n:Int):=by omega
          have HX:Hid (stAt m k=(x,y,z)):=by simp [Hid,stAt,zF,hx]
          clear hx;have hbw:w.heap.size<wr.heap.size:=hB.out.lt;have kk0:=fun o=>kA c0 o
          by_cases h1:x=1
          · subst h1
            have E:Hid (stepB m.p k (1,y,z)=(inB y 0 59&&z == 0)):=rfl
            cases e1:inB y 0 59
            all_goals cases e2:z == 0
            all_goals
              rw [e1,e2] at E;have E1:=zH e1;have E2:=zH e1;clear e1
              go_wp2_with (first | (go_at_call 111;refine (impl.within_q _ _ _ _).mono ?_;rintro e w1 ⟨rfl,rfl⟩;first | rw [E1.out] | rw [E2.out]) | (go_at_call 134;refine (Xj _ _ _ hp).mono ?_;rintro e w1 ⟨rfl,rfl⟩;first | rw [E1.out] | rw [E2.out]))
              first
                | (go_roundw
                   case rel=>exact ⟨k+1,by omega,by go_num,fun j hj=>by
                     by_cases e:j=k
                     · subst e;rw [HX.out];exact E.out
                     · exact hall.out j (by omega),hB.out.grow (gbA (gbR _ _) _),gbA hG.out _⟩
                   case measure=>simp [intOf];omega)
                | (go_ret
                   exact ⟨retB (Yw fun h=>by have:=h.steps k (by rw [HN.out];exact hlt);rw [HX.out,E.out] at this;cases this).symm,gbA hG.out _⟩)
          · have d1:(x == 1)=false:=by simpa using h1
            by_cases h2:x=2
            · subst h2
              have E:Hid (stepB m.p k (2,y,z)=(elemB m.p y&&z == 0)):=rfl
              cases e1:elemB m.p y
              all_goals cases e2:z == 0
              all_goals
                rw [e1,e2] at E;have E1:=zH e1;have E2:=zH e1;clear e1
                go_wp2_with (first | (go_at_call 111;refine (impl.within_q _ _ _ _).mono ?_;rintro e w1 ⟨rfl,rfl⟩;first | rw [E1.out] | rw [E2.out]) | (go_at_call 134;refine (Xj _ _ _ hp).mono ?_;rintro e w1 ⟨rfl,rfl⟩;first | rw [E1.out] | rw [E2.out]))
                first
                  | (go_roundw
                     case rel=>exact ⟨k+1,by omega,by go_num,fun j hj=>by
                       by_cases e:j=k
                       · subst e;rw [HX.out];exact E.out
                       · exact hall.out j (by omega),hB.out.grow (gbA (gbR _ _) _),gbA hG.out _⟩
                     case measure=>simp [intOf];omega)
                  | (go_ret
                     exact ⟨retB (Yw fun h=>by have:=h.steps k (by rw [HN.out];exact hlt);rw [HX.out,E.out] at this;cases this).symm,gbA hG.out _⟩)
            · have d2:(x == 2)=false:=by simpa using h2
              by_cases h3:x=3∨x=4
              · have E:Hid (stepB m.p k (x,y,z)=(inB y 0 (k - 1)&&inB z 0 (k - 1))):=by simp [Hid,stepB,h1,h2,h3]
                clear h1 h2
                cases e1:inB y 0 ((k:Int) - 1)
                all_goals cases e2:inB z 0 ((k:Int) - 1)
                all_goals
                  rw [e1,e2] at E;have E1:=zH e1;have E2:=zH e2;clear e1 e2
                  rcases h3 with h3 | h3
                  all_goals
                    subst h3
                    go_wp2_with (first | (go_at_call 111;refine (impl.within_q _ _ _ _).mono ?_;rintro e w1 ⟨rfl,rfl⟩;first | rw [E1.out] | rw [E2.out]) | (go_at_call 134;refine (Xj _ _ _ hp).mono ?_;rintro e w1 ⟨rfl,rfl⟩;first | rw [E1.out] | rw [E2.out]))
                    first
                      | (go_roundw
                         case rel=>exact ⟨k+1,by omega,by go_num,fun j hj=>by
                           by_cases e:j=k
                           · subst e;rw [HX.out];exact E.out
                           · exact hall.out j (by omega),hB.out.grow (gbA (gbR _ _) _),gbA hG.out _⟩
                         case measure=>simp [intOf];omega)
                      | (go_ret
                         exact ⟨retB (Yw fun h=>by have:=h.steps k (by rw [HN.out];exact hlt);rw [HX.out,E.out] at this;cases this).symm,gbA hG.out _⟩)
              · have E:Hid (stepB m.p k (x,y,z)=false):=by simp [Hid,stepB,h1,h2,h3]
                have E1:=E;have E2:=E;have d3:(x == 3)=false:=by simp;omega
                have d4:(x == 4)=false:=by simp;omega
                clear h1 h2 h3
                go_wp2_with (first | (go_at_call 111;refine (impl.within_q _ _ _ _).mono ?_;rintro e w1 ⟨rfl,rfl⟩;first | rw [E1.out] | rw [E2.out]) | (go_at_call 134;refine (Xj _ _ _ hp).mono ?_;rintro e w1 ⟨rfl,rfl⟩;first | rw [E1.out] | rw [E2.out]))
                first
                  | (go_roundw
                     case rel=>exact ⟨k+1,by omega,by go_num,fun j hj=>by
                       by_cases e:j=k
                       · subst e;rw [HX.out];exact E.out
                       · exact hall.out j (by omega),hB.out.grow (gbA (gbR _ _) _),gbA hG.out _⟩
                     case measure=>simp [intOf];omega)
                  | (go_ret
                     exact ⟨retB (Yw fun h=>by have:=h.steps k (by rw [HN.out];exact hlt);rw [HX.out,E.out] at this;cases this).symm,gbA hG.out _⟩)
        · have hkn:k=n:=by omega
          subst hkn;go_wp2_with fail
          go_loopw [71] (fun i wo=>∃j:Nat,j≤q∧i=.int .i64 j∧Hid (∀l,l<j→inB (m.outs.getD l 0) 0 (k - 1)=true)∧Hid (Blk wo w.heap.size 38 #[.int .i64 m.p,.slice A k c,.slice B q d])∧Hid (w.grownBy wo none)) (fun i _=>q - (intOf i).toNat)
          case atStart=>exact ⟨0,Nat.zero_le _,rfl,fun j hj=>by omega,hB.out,hG.out⟩
          case round =>
            clear hB hG c0 c1 c2;obtain ⟨wo,rfl⟩:∃wo:World,wo=wr:=⟨_,rfl⟩;obtain ⟨j,hj,rfl,hal2,hB,hG⟩:=hrel;have c1:=hB.out.cell 1;simp at c1
            by_cases hlt2:j<q
            · obtain ⟨b,o,rfl,hb,q0⟩:=(Ints.grow HO.out hG.out).cell hlt2
              have i2:(j:Int)<(q:Int):=by omega
              generalize hz:m.outs.getD j 0=z at *;have HZ:=zH hz;clear hz
              cases hs:inB z 0 ((k:Int) - 1)
              all_goals
                have HS:=zH hs;clear hs
                go_wp2_with (go_at_call 111;refine (impl.within_q _ _ _ _).mono ?_;rintro e w1 ⟨rfl,rfl⟩;rw [HS.out])
                first
                  | (go_roundw
                     case rel=>exact ⟨j+1,by omega,by go_num,fun l hl=>by
                       by_cases e:l=j
                       · subst e;rw [HZ.out];exact HS.out
                       · exact hal2.out l (by omega),hB.out,hG.out⟩
                     case measure=>simp [intOf];omega)
                  | (go_ret
                     exact ⟨retB (Yw fun h=>by
                       have h1:=h.outs (m.outs.getD j 0) (by rw [getI _ _ (by rw [HQ.out];exact hlt2)];exact List.getElem_mem _)
                       rw [HZ.out,HN.out,HS.out] at h1;cases h1).symm,hG.out⟩)
            · have hjq:j=q:=by omega
              subst hjq;go_wp2_with fail;go_ret;refine ⟨retB ?_,hG.out⟩
              rw [YD ⟨HFB.out,by rw [HN.out];omega,fun j hj=>hall.out j (by rw [← HN.out];exact hj),fun z hz=>by
                obtain ⟨l,hl,rfl⟩:=List.getElem_of_mem hz;have h1:=hal2.out l (by rw [← HQ.out];exact hl);rw [getI _ _ hl] at h1
                rw [HN.out];exact h1⟩]
end Go.Proofs.YthaadgdeadbhkaaGreat
