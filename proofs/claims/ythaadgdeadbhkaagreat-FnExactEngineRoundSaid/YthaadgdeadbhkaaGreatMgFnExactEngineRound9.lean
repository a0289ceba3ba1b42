/-
 The laws' helpers on Auth,by what it reads as (printed by wip/gen_sk.py).
-/
import Derived.Test.YthaadgdeadbhkaaGreatMgFnExactEngineRound8
open Go.RowKit
set_option linter.unusedVariables false
set_option linter.unusedSimpArgs false
namespace Go.Proofs.YthaadgdeadbhkaaGreat
structure AuM where
 sh:List Int
 mc:List Int
abbrev cauth (m:AuM):List CS:=[cints m.sh,cints m.mc]
def AuM.sz (m:AuM):Nat:=m.sh.length+m.mc.length
def AuM.cnt (k:Int) (m:AuM):Int:=k+m.sh.length+m.mc.length
def AuM.mkd (k:Int) (m:AuM):AuM:={ m with sh:=marks (k) m.sh.length,mc:=marks (k+m.sh.length) m.mc.length }
def AuM.wf (m:AuM):Prop:=(∀z∈m.sh,i64w z)∧(∀z∈m.mc,i64w z)
theorem stAuth:St Tryz.prog 80 2:=⟨⟨_,Tryz.underlying80,rfl⟩,by kernel_rfl⟩
theorem XO {w:World} {m:AuM} {v:Value} (h:AggR w (cauth m) v):∃u0 u1,v=.agg #[u0,u1]∧(cints m.sh).rd w u0∧(cints m.mc).rd w u1:=by
 obtain ⟨vs,rfl,h⟩:=h;obtain ⟨u0,vs0,rfl,h0,h⟩:=RdAll.head h;obtain ⟨u1,vs1,rfl,h1,h⟩:=RdAll.head h;obtain rfl:=RdAll.none h;exact ⟨u0,u1,rfl,h0,h1⟩
theorem WE {w:World} {m:AuM} {u0 u1:Value} (h0:(cints m.sh).rd w u0) (h1:(cints m.mc).rd w u1):AggR w (cauth m) (.agg #[u0,u1]):=⟨_,rfl,(RdAll.cons h0 (RdAll.cons h1 (RdAll.nil _)))⟩
theorem XB {w:World} {m:AuM} {F:List Nat} {v:Value} (h:AggO w (cauth m) F v):∃(A0:Option Addr) (n0 s0:Nat) (A1:Option Addr) (n1 s1:Nat),v=.agg #[(.slice A0 n0 s0),(.slice A1 n1 s1)]:=by
 obtain ⟨vs,Fs,rfl,h,rfl⟩:=h;obtain ⟨u0,vs0,F0,Fs0,rfl,rfl,h0,h,d0⟩:=OwnAll.head h;obtain ⟨u1,vs1,F1,Fs1,rfl,rfl,h1,h,d1⟩:=OwnAll.head h;obtain ⟨rfl,rfl⟩:=OwnAll.none h;obtain ⟨A0,n0,s0,rfl⟩:=ZJ h0;obtain ⟨A1,n1,s1,rfl⟩:=ZJ h1;exact ⟨A0,n0,s0,A1,n1,s1,rfl⟩
theorem UT {w:World} {m:AuM} {F:List Nat} {v:Value} (h:AggO w (cauth m) F v):∃u0 u1 F0 F1,v=.agg #[u0,u1]∧F=[F0,F1].flatten∧(cints m.sh).own w F0 u0∧(cints m.mc).own w F1 u1∧(∀g∈F0,g∉F1):=by
 obtain ⟨vs,Fs,rfl,h,rfl⟩:=h;obtain ⟨u0,vs0,F0,Fs0,rfl,rfl,h0,h,d0⟩:=OwnAll.head h;obtain ⟨u1,vs1,F1,Fs1,rfl,rfl,h1,h,d1⟩:=OwnAll.head h;obtain ⟨rfl,rfl⟩:=OwnAll.none h;exact ⟨u0,u1,F0,F1,rfl,rfl,h0,h1,fun g hg hg'=>d0 g hg (by simp [hg'])⟩
theorem UU {w:World} {m:AuM} {u0 u1:Value} {F0 F1:List Nat} (h0:(cints m.sh).own w F0 u0) (h1:(cints m.mc).own w F1 u1) (d01:∀g∈F0,g∉F1):AggO w (cauth m) [F0,F1].flatten (.agg #[u0,u1]):=⟨_,_,rfl,(OwnAll.cons h0 (OwnAll.cons h1 (OwnAll.nil _) (fun g hg=>by simp)) (fun g hg=>by simp [d01 g hg])),rfl⟩
set_option maxHeartbeats 1000000 in
theorem Ux (m:AuM) (v:Value) (w:World) (h:AggR w (cauth m) v) (hn:m.sz≤1048576) :
  Calls Tryz.prog 129 #[v] w fun e w'=>∃u F,e=.returned u∧AggO w' (cauth m) F u∧(∀g∈F,w.heap.size≤g)∧w.grownBy w' none:=by
 obtain ⟨u0,u1,rfl,h0,h1⟩:=XO h;have HN:=zH hn;have H0:=zH h0;have H1:=zH h1;clear h hn h0 h1
 go_enter Tryz.func129,Tryz.ntmps129
 go_wp2_with fail;obtain ⟨x0,e0⟩:∃x:World,x=((w.alloc (.cells #[u0,u1] 94)).alloc (.cells #[(.slice none 0 0),(.slice none 0 0)] 80)).alloc (.cells #[(.slice none 0 0),(.slice none 0 0)] 80):=⟨_,rfl⟩;have A1:Hid (Blk x0 w.heap.size 94 #[u0,u1]):=by rw [e0];exact ((Blk.new w _ _).grow (gbA (gbR _ _) _)).grow (gbA (gbR _ _) _)
 have A2:Hid (Blk x0 (w.heap.size+1) 80 #[(.slice none 0 0),(.slice none 0 0)]):=by rw [e0];exact (Blk.new' _ _ _ _ (by simp)).grow (gbA (gbR _ _) _)
 have A3:Hid (Blk x0 (w.heap.size+1+1) 80 #[(.slice none 0 0),(.slice none 0 0)]):=by rw [e0];exact Blk.new' _ _ _ _ (by simp)
 have G0:Hid (w.grownBy x0 none):=by rw [e0];exact gbA (gbA (gbA (gbR _ _) _) _) _
 have Z0:x0.heap.size=w.heap.size+1+1+1:=by rw [e0];simp
 try rw [← e0]
 clear e0;have R:=CS.grow _ H0.out G0.out;refine (Xm m.sh u0 _ R (by have:=HN.out;unfold AuM.sz at this;omega)).mono ?_;rintro e x1 ⟨v0,F0,rfl,o0,l0,g0⟩;obtain ⟨B0,n0,s0,rfl⟩:=ZJ o0;have Z1:=g0.size
 try simp at Z1
 have L0:Hid (∀g∈F0,x0.heap.size≤g):=fun g hg=>by have:=l0 g hg;simpa using this
 have O0:=zH o0;have Q0:Hid (∀g∈F0,g<x1.heap.size):=fun g hg=>CS.lt _ o0 g hg;have E1:=zH (Blk.grow (A1.out) g0);have E2:=zH (Blk.grow (A2.out) g0);have E3:=zH (Blk.grow (A3.out) g0);have G1:=zH (gbT (G0.out) g0);clear R l0 g0 o0 A1 A2 A3 G0;have A1:=E1;have A2:=E2;have A3:=E3;clear E1 E2 E3;have K1:=zH ((A1.out).far (p:=⟨w.heap.size+1+1,0,none⟩) (by first | (simp;done) | (simp;omega)) (.slice B0 n0 s0));have K2:=zH ((A2.out).far (p:=⟨w.heap.size+1+1,0,none⟩) (by first | (simp;done) | (simp;omega)) (.slice B0 n0 s0));have K3:=zH ((A3.out).set_ 0 (.slice B0 n0 s0));have KG:=zH (gbS (G1.out) (p:=⟨w.heap.size+1+1,0,none⟩) (by simp;omega) (.slice B0 n0 s0));have P0:=zH (ZR _ (O0.out) ⟨w.heap.size+1+1,0,none⟩ (fun hg=>by have:=L0.out _ hg;simp at this;omega) (.slice B0 n0 s0));clear O0;have c0:=A1.out.cell 0;have c1:=A1.out.cell 1;have d0:=A3.out.cell 0;have f0:=A3.out.frozen 0;have d1:=A3.out.cell 1;have f1:=A3.out.frozen 1;simp at c0 c1 d0 d1;clear A1 A2 A3 G1;go_wp2_with fail;have R:=CS.grow _ H1.out KG.out;refine (Xm m.mc u1 _ R (by have:=HN.out;unfold AuM.sz at this;omega)).mono ?_;rintro e x2 ⟨v1,F1,rfl,o1,l1,g1⟩;obtain ⟨B1,n1,s1,rfl⟩:=ZJ o1;have Z2:=g1.size
 try simp at Z2
 have L1:Hid (∀g∈F1,x1.heap.size≤g):=fun g hg=>by have:=l1 g hg;simpa using this
 have O1:=zH o1;have Q1:Hid (∀g∈F1,g<x2.heap.size):=fun g hg=>CS.lt _ o1 g hg;have N0:=zH (Zj _ P0.out g1);clear P0;have O0:=N0;clear N0;have E1:=zH (Blk.grow (K1.out) g1);have E2:=zH (Blk.grow (K2.out) g1);have E3:=zH (Blk.grow (K3.out) g1);have G2:=zH (gbT (KG.out) g1);clear R l1 g1 o1 K1 K2 K3 KG c0 c1 d0 d1 f0 f1;have A1:=E1;have A2:=E2;have A3:=E3;clear E1 E2 E3;have K2:=zH ((((A2.out).far (p:=⟨w.heap.size+1+1,1,none⟩) (by first | (simp;done) | (simp;omega)) (.slice B1 n1 s1)).set_ 0 (.slice B0 n0 s0)).set_ 1 (.slice B1 n1 s1));have KG:=zH (gbS (gbS (gbS (G2.out) (p:=⟨w.heap.size+1+1,1,none⟩) (by simp;omega) (.slice B1 n1 s1)) (p:=⟨w.heap.size+1,0,none⟩) (by simp) (.slice B0 n0 s0)) (p:=⟨w.heap.size+1,1,none⟩) (by simp) (.slice B1 n1 s1));have P0:=zH (ZR _ (ZR _ (ZR _ (O0.out) ⟨w.heap.size+1+1,1,none⟩ (fun hg=>by have:=L0.out _ hg;simp at this;omega) (.slice B1 n1 s1)) ⟨w.heap.size+1,0,none⟩ (fun hg=>by have:=L0.out _ hg;simp at this;omega) (.slice B0 n0 s0)) ⟨w.heap.size+1,1,none⟩ (fun hg=>by have:=L0.out _ hg;simp at this;omega) (.slice B1 n1 s1));have P1:=zH (ZR _ (ZR _ (ZR _ (O1.out) ⟨w.heap.size+1+1,1,none⟩ (fun hg=>by have:=L1.out _ hg;simp at this;omega) (.slice B1 n1 s1)) ⟨w.heap.size+1,0,none⟩ (fun hg=>by have:=L1.out _ hg;simp at this;omega) (.slice B0 n0 s0)) ⟨w.heap.size+1,1,none⟩ (fun hg=>by have:=L1.out _ hg;simp at this;omega) (.slice B1 n1 s1));have D01:Hid (∀g∈F0,g∉F1):=fun g h1 h2=>by have h3:=L1.out g h2;have h4:=Q0.out g h1;omega
 have d:=A3.out;have d0:=A3.out.cell 0;have f0:=A3.out.frozen 0;have b0:=A2.out.cell 0;have t0:=A2.out.frozen 0;have d1:=A3.out.cell 1;have f1:=A3.out.frozen 1;have b1:=A2.out.cell 1;have t1:=A2.out.frozen 1;clear d;simp at d0 d1 b0 b1;clear A1 A2 A3 G2;go_wp2_with fail;refine Yo Tryz.results129 (by rfl) stAuth (cs:=#[(.slice B0 n0 s0),(.slice B1 n1 s1)]) ?B (by rfl) (by rfl) ?_
 case B=>exact K2.out
 refine ⟨_,_,rfl,UU P0.out P1.out D01.out,fun g hg => ?_,KG.out⟩;simp at hg
 rcases hg with hg | hg
 ·have:=L0.out g hg;omega
 ·have:=L1.out g hg;omega
set_option maxHeartbeats 1000000 in
theorem Uy (m:AuM) (v u:Value) (w:World) (h:AggR w (cauth m) v) (k:AggR w (cauth m) u) (hn:m.sz≤1048576) :
  Calls Tryz.prog 138 #[v,u] w fun e w'=>e=.returned (.bool true)∧w.grownBy w' none:=by
 obtain ⟨u0,u1,rfl,h0,h1⟩:=XO h;obtain ⟨t0,t1,rfl,k0,k1⟩:=XO k;have HN:=zH hn;have H0:=zH h0;have K0:=zH k0;have H1:=zH h1;have K1:=zH k1;clear h k hn h0 h1 k0 k1
 go_enter Tryz.func138,Tryz.ntmps138
 have A1:Hid (Blk ((w.alloc (.cells #[u0,u1] 80)).alloc (.cells #[t0,t1] 80)) w.heap.size 80 #[u0,u1]):=(Blk.new w _ _).grow (gbA (gbR _ _) _);have A2:Hid (Blk ((w.alloc (.cells #[u0,u1] 80)).alloc (.cells #[t0,t1] 80)) (w.heap.size+1) 80 #[t0,t1]):=Blk.new' _ _ _ _ (by simp);have G0:Hid (w.grownBy ((w.alloc (.cells #[u0,u1] 80)).alloc (.cells #[t0,t1] 80)) none):=gbA (gbA (gbR _ _) _) _;go_wp2_with fail;refine (Ww m.sh u0 t0 _ (CS.grow _ H0.out G0.out) (CS.grow _ K0.out G0.out) (by have:=HN.out;unfold AuM.sz at this;omega)).mono ?_;rintro e x1 ⟨rfl,g0⟩;have G1:=zH (gbT G0.out g0);have E1:=zH (Blk.grow A1.out g0);have E2:=zH (Blk.grow A2.out g0);clear A1 A2 g0;have A1:=E1;have A2:=E2;clear E1 E2;have c1:=A1.out.cell 1;have d1:=A2.out.cell 1;simp at c1 d1;go_wp2_with fail;clear c1 d1;refine (Ww m.mc u1 t1 _ (CS.grow _ H1.out G1.out) (CS.grow _ K1.out G1.out) (by have:=HN.out;unfold AuM.sz at this;omega)).mono ?_;rintro e x2 ⟨rfl,g1⟩;have G2:=zH (gbT G1.out g1);have E1:=zH (Blk.grow A1.out g1);have E2:=zH (Blk.grow A2.out g1);clear A1 A2 g1;have A1:=E1;have A2:=E2;clear E1 E2;go_wp2_with fail;go_ret;exact ⟨rfl,G2.out⟩
set_option maxHeartbeats 1000000 in
theorem YU (m:AuM) (v:Value) (l:Nat) (w:World) (h:AggR w (cauth m) v) (hl:l≤1048576) :
  Calls Tryz.prog 126 #[v,.int .i64 l] w fun e w'=>e=.returned (.int .i64 (szO l m.sz))∧w.grownBy w' none:=by
 obtain ⟨u0,u1,rfl,h0,h1⟩:=XO h;have H0:=zH h0;have H1:=zH h1;clear h h0 h1;have A0:=zH (Blk.new w 94 #[u0,u1]);have G0:=zH (gbA (gbR w none) (.cells #[u0,u1] 94))
 by_cases b0:m.sh.length≤l
 ·have C0:=zH (ZT b0)
  have Y0:=zH b0;clear b0
  by_cases b1:m.mc.length≤l - m.sh.length
  ·have C1:=zH (ZT b1)
   have Y1:=zH b1;clear b1
   go_enter Tryz.func126,Tryz.ntmps126
   go_wp2_with fail;refine (YS m.sh u0 (l) _ (CS.grow _ H0.out G0.out) (by omega)).mono ?_;rintro e x1 ⟨rfl,g0⟩;rw [C0.out];have G1:=zH (gbT G0.out g0);have A1:=zH (Blk.grow A0.out g0);have c1:=A1.out.cell 1;simp at c1;have s0:¬((l - m.sh.length:Nat):Int)<0:=by omega
   clear g0;go_wp2_with fail;refine (YS m.mc u1 (l - m.sh.length) _ (CS.grow _ H1.out G1.out) (by omega)).mono ?_;rintro e x2 ⟨rfl,g1⟩;rw [C1.out];have G2:=zH (gbT G1.out g1);have A2:=zH (Blk.grow A1.out g1);have s1:¬((l - m.sh.length - m.mc.length:Nat):Int)<0:=by omega
   clear g1;go_wp2_with fail;go_ret;exact ⟨retI (by have:=Y0.out;have:=Y1.out;rw [ZT (by unfold AuM.sz;omega)];unfold AuM.sz;omega),G2.out⟩
  ·have C1:=zH (ZV (Nat.lt_of_not_le b1))
   have N1:=zH b1;clear b1
   go_enter Tryz.func126,Tryz.ntmps126
   go_wp2_with fail;refine (YS m.sh u0 (l) _ (CS.grow _ H0.out G0.out) (by omega)).mono ?_;rintro e x1 ⟨rfl,g0⟩;rw [C0.out];have G1:=zH (gbT G0.out g0);have A1:=zH (Blk.grow A0.out g0);have c1:=A1.out.cell 1;simp at c1;have s0:¬((l - m.sh.length:Nat):Int)<0:=by omega
   clear g0;go_wp2_with fail;refine (YS m.mc u1 (l - m.sh.length) _ (CS.grow _ H1.out G1.out) (by omega)).mono ?_;rintro e x2 ⟨rfl,g1⟩;rw [C1.out];have G2:=zH (gbT G1.out g1);have A2:=zH (Blk.grow A1.out g1);clear g1;go_wp2_with fail;go_ret;exact ⟨retI (by rw [ZV];have:=N1.out;have:=Y0.out;unfold AuM.sz;omega),G2.out⟩
 ·have C0:=zH (ZV (Nat.lt_of_not_le b0))
  have N0:=zH b0;clear b0
  go_enter Tryz.func126,Tryz.ntmps126
  go_wp2_with fail;refine (YS m.sh u0 (l) _ (CS.grow _ H0.out G0.out) (by omega)).mono ?_;rintro e x1 ⟨rfl,g0⟩;rw [C0.out];have G1:=zH (gbT G0.out g0);have A1:=zH (Blk.grow A0.out g0);clear g0;go_wp2_with fail;go_ret;exact ⟨retI (by rw [ZV];have:=N0.out;unfold AuM.sz;omega),G1.out⟩
def kwf (k:KM):Prop:=i64w k.p∧k.al.length≤1048576
def awf (a:AuM):Prop:=a.sh.length≤1048576∧a.mc.length≤1048576
def keysB (k:KM):Bool:=elemsB k.p k.al&&inQ k.al.length 1 5
def formA (k:KM) (a:AuM):Bool:=((a.sh.length:Int) == (k.al.length:Int))&&((a.mc.length:Int) == (k.al.length:Int))&&elemsB k.p a.sh&&elemsB k.p a.mc
def formB (k:KM) (a:AuM):Bool:=keysB k&&formA k a
theorem ZK {w:World} {k:KM} {v:Value} (h:AggR w (ckeys k) v):∃A c,v=.agg #[.int .i64 k.p,.slice A k.al.length c]∧k.al.length≤c∧c≤maxLen∧Ints w A k.al.length k.al:=by
 obtain ⟨u1,rfl,h1⟩:=Xv h;obtain ⟨A,c,rfl,h2,h3,h4⟩:=ZF h1;exact ⟨A,c,rfl,h2,h3,h4⟩
theorem ZC {w:World} {a:AuM} {v:Value} (h:AggR w (cauth a) v):∃A c B d,v=.agg #[.slice A a.sh.length c,.slice B a.mc.length d]∧a.sh.length≤c∧c≤maxLen∧a.mc.length≤d∧d≤maxLen∧Ints w A a.sh.length a.sh∧Ints w B a.mc.length a.mc:=by
 obtain ⟨u0,u1,rfl,h0,h1⟩:=XO h;obtain ⟨A,c,rfl,h2,h3,h4⟩:=ZF h0;obtain ⟨B,d,rfl,k2,k3,k4⟩:=ZF h1;exact ⟨A,c,B,d,rfl,h2,h3,k2,k3,h4,k4⟩
set_option maxHeartbeats 400000 in
theorem Wm (k:KM) (v:Value) (w:World) (h:AggR w (ckeys k) v) (wp:kwf k) :
  Calls Tryz.prog 86 #[v] w fun e w'=>e=.returned (.bool (keysB k))∧w.grownBy w' none:=by
 obtain ⟨A,c,rfl,hc,hm,hI⟩:=ZK h;obtain ⟨⟨wp1,wp2⟩,wl⟩:=wp;unfold maxLen at hm;have HI:=zH (hI.grow (gbA (gbR w none) (.cells #[.int .i64 k.p,.slice A k.al.length c] 34)));have HK:Hid (keysB k=(elemsB k.p k.al&&inQ k.al.length 1 5)):=rfl;generalize k.al=al at *;generalize k.p=p at *;generalize hn:al.length=n at *;clear h hI hn
 cases h1:elemsB p al <;> cases h2:inQ (n:Int) 1 5
 all_goals
  rw [h1,h2] at HK
  go_enter Tryz.func86,Tryz.ntmps86
  go_wp2_with (first | (go_at_call 94;refine (specInq_c n 1 5 _).mono ?_;rintro e w1 ⟨rfl,rfl⟩;rw [h2]) | (go_at_call 42;refine (ZU p A n c al _ (by omega) HI.out (by omega)).mono ?_;rintro e w1 ⟨rfl,rfl⟩;rw [h1]))
  go_ret;exact ⟨retB (by rw [HK.out];rfl),gbA (gbR _ _) _⟩
set_option maxHeartbeats 400000 in
theorem Wo (k:KM) (v:Value) (w:World) (h:AggR w (ckeys k) v) (wp:kwf k) :
  Calls Tryz.prog 112 #[v] w fun e w'=>e=.returned (.bool (keysB k))∧w.grownBy w' none:=by
 obtain ⟨A,c,rfl,hc,hm,hI⟩:=ZK h;obtain ⟨⟨wp1,wp2⟩,wl⟩:=wp;unfold maxLen at hm;have HI:=zH (hI.grow (gbA (gbR w none) (.cells #[.int .i64 k.p,.slice A k.al.length c] 34)));have HK:Hid (keysB k=(elemsB k.p k.al&&inQ k.al.length 1 5)):=rfl;generalize k.al=al at *;generalize k.p=p at *;generalize hn:al.length=n at *;clear h hI hn
 cases h1:elemsB p al <;> cases h2:inQ (n:Int) 1 5
 all_goals
  rw [h1,h2] at HK
  go_enter Tryz.func112,Tryz.ntmps112
  go_wp2_with (first | (go_at_call 111;refine (UI n 1 5 _).mono ?_;rintro e w1 ⟨rfl,rfl⟩;rw [h2]) | (go_at_call 52;refine (Zl p A n c al _ (by omega) (by omega) HI.out (by omega)).mono ?_;rintro e w1 ⟨rfl,rfl⟩;rw [h1]))
  go_ret;exact ⟨retB (by rw [HK.out];rfl),gbA (gbR _ _) _⟩
set_option maxHeartbeats 1000000 in
theorem Zx (k:KM) (a:AuM) (v u:Value) (w:World) (h:AggR w (ckeys k) v) (ha:AggR w (cauth a) u) (wp:kwf k) (wa:awf a) :
  Calls Tryz.prog 128 #[v,u] w fun e w'=>e=.returned (.bool (formB k a))∧w.grownBy w' none:=by
 obtain ⟨A,c,rfl,hc,hm,hI⟩:=ZK h;obtain ⟨B,d,C,f,rfl,_,_,_,_,hS,hM⟩:=ZC ha;obtain ⟨wa1,wa2⟩:=wa;have hp:=wp.1;obtain ⟨wp1,wp2⟩:=hp;have G0:=zH (gbA (gbA (gbR w none) (.cells #[.int .i64 k.p,.slice A k.al.length c] 34)) (.cells #[.slice B a.sh.length d,.slice C a.mc.length f] 80));have HK:=zH (AggR.grow h G0.out);have HS:=zH (hS.grow G0.out);have HM:=zH (hM.grow G0.out);have B0:=zH ((Blk.new w 34 #[.int .i64 k.p,.slice A k.al.length c]).grow (gbA (gbR _ _) (.cells #[.slice B a.sh.length d,.slice C a.mc.length f] 80)));have B1:=zH (Blk.new' (w.alloc (.cells #[.int .i64 k.p,.slice A k.al.length c] 34)) 80 #[.slice B a.sh.length d,.slice C a.mc.length f] (w.heap.size+1) (by simp));have WP:=zH wp;have HF:Hid (formB k a=(keysB k&&(((a.sh.length:Int) == (k.al.length:Int))&&((a.mc.length:Int) == (k.al.length:Int))&&elemsB k.p a.sh&&elemsB k.p a.mc))):=rfl;clear h ha hI hS hM wp
 go_enter Tryz.func128,Tryz.ntmps128
 go_wp2_with fail;refine (Wm k _ _ HK.out WP.out).mono ?_;rintro e w1 ⟨rfl,g1⟩;have S1:=zH (HS.out.grow g1);have M1:=zH (HM.out.grow g1);have c0:=(B0.out.grow g1).cell 0;have c1:=(B0.out.grow g1).cell 1;have d0:=(B1.out.grow g1).cell 0;have d1:=(B1.out.grow g1).cell 1;simp at c0 c1 d0 d1;have G1:=zH (gbT G0.out g1);clear g1 HS HM HK B0 B1
 cases b0:keysB k
 ·rw [b0] at HF
  go_wp2_with fail;go_ret;exact ⟨retB (by rw [HF.out];rfl),G1.out⟩
 cases b1:((a.sh.length:Int) == (k.al.length:Int))
 ·rw [b0,b1] at HF
  go_wp2_with fail;go_ret;exact ⟨retB (by rw [HF.out];rfl),G1.out⟩
 cases b2:((a.mc.length:Int) == (k.al.length:Int))
 ·rw [b0,b1,b2] at HF
  go_wp2_with fail;go_ret;exact ⟨retB (by rw [HF.out];rfl),G1.out⟩
 go_wp2_with fail;refine (ZU k.p B a.sh.length d a.sh _ (by omega) S1.out (by omega)).mono ?_;rintro e w2 ⟨rfl,rfl⟩
 cases b3:elemsB k.p a.sh
 ·rw [b0,b1,b2,b3] at HF
  go_wp2_with fail;go_ret;exact ⟨retB (by rw [HF.out];rfl),G1.out⟩
 go_wp2_with fail;refine (ZU k.p C a.mc.length f a.mc _ (by omega) M1.out (by omega)).mono ?_;rintro e w2 ⟨rfl,rfl⟩;rw [b0,b1,b2,b3] at HF;go_wp2_with fail;go_ret;exact ⟨retB (by rw [HF.out];rfl),G1.out⟩
abbrev cauths (xs:List AuM):CS:=lst 80 2 cauth xs
theorem ZL {w:World} {xs:List AuM} {A:Option Addr} {n c:Nat} (h:(cauths xs).rd w (.slice A n c)) {k:Nat} (hk:k<n) :
  ∃(b o:Nat) (x:AuM) (B:Option Addr) (d:Nat) (C:Option Addr) (f:Nat),A=some ⟨b,o,none⟩∧b<w.heap.size∧xs[k]?=some x∧w.cell? ⟨b,o+k*2,none⟩=some (.slice B x.sh.length d)∧w.cell? ⟨b,o+k*2+1,none⟩=some (.slice C x.mc.length f)∧AggR w (cauth x) (.agg #[.slice B x.sh.length d,.slice C x.mc.length f]):=by
 obtain ⟨b,o,x,rfl,hb,hx,hc⟩:=lst_at (s:=2) (fun _=>rfl) (by omega) h hk;obtain ⟨u0,q0,r0⟩:=hc 0 (cints x.sh) rfl;obtain ⟨u1,q1,r1⟩:=hc 1 (cints x.mc) rfl;obtain ⟨B,d,rfl,k1,k2,k3⟩:=ZF r0;obtain ⟨C,f,rfl,k4,k5,k6⟩:=ZF r1;exact ⟨b,o,x,B,d,C,f,rfl,hb,hx,by simpa using q0,by rw [Nat.add_assoc];exact q1,WE r0 r1⟩
set_option maxHeartbeats 1000000 in
theorem Yz (k:KM) (xs:List AuM) (v:Value) (A:Option Addr) (n c:Nat) (w:World) (h:AggR w (ckeys k) v) (ha:(cauths xs).rd w (.slice A n c)) (wp:kwf k) (wa:∀a∈xs,awf a) (hn:n≤1048576) :
  Calls Tryz.prog 132 #[v,.slice A n c] w fun e w'=>e=.returned (.bool (xs.all (formA k)&&keysB k))∧w.grownBy w' none:=by
 obtain ⟨E,ec,rfl,hc,hm,hI⟩:=ZK h;have hp:=wp.1;obtain ⟨wp1,wp2⟩:=hp;have hl:=(lst_len (s:=2) (fun _=>rfl) (by omega) ha).1;have HL:=zH hl;have G0:=zH (gbA (gbR w none) (.cells #[.int .i64 k.p,.slice E k.al.length ec] 34));have HK:=zH (AggR.grow h G0.out);have HA:=zH (CS.grow _ ha G0.out);have B0:=zH (Blk.new w 34 #[.int .i64 k.p,.slice E k.al.length ec]);have WP:=zH wp;have WA:=zH wa
 have HNO:Hid (∀j x,xs[j]?=some x→formA k x=false→(xs.all (formA k)&&keysB k)=false):=zH (fun j x hx hf=>by
  rw [Bool.and_eq_false_iff]
  left
  rw [List.all_eq_false]
  exact ⟨x,List.mem_of_getElem? hx,by rw [hf];decide⟩)
 clear h ha hI wp wa hl
 go_enter Tryz.func132,Tryz.ntmps132
 go_wp2_with fail
 go_loopw [9] (fun i wr=>∃j:Nat,j≤n∧i=.int .i64 j∧Hid (∀q x,q<j→xs[q]?=some x→formA k x=true)∧Hid (Blk wr w.heap.size 34 #[.int .i64 k.p,.slice E k.al.length ec])∧Hid ((w.alloc (.cells #[.int .i64 k.p,.slice E k.al.length ec] 34)).grownBy wr none)) (fun i _=>n - (intOf i).toNat)
 case atStart=>exact ⟨0,Nat.zero_le _,rfl,zH (fun q x hq=>by omega),B0.out,zH (gbR _ _)⟩
 case round =>
  clear B0;obtain ⟨j,hj,rfl,hOk,hB,hG⟩:=hrel;have c0:=hB.out.cell 0;have c1:=hB.out.cell 1;simp at c0 c1;have c0':=fun o=>kA c0 o;have c1':=fun o=>kA c1 o
  by_cases hlt:j<n
  ·obtain ⟨b,o,x,B,d,C,f,rfl,hb,hx,q0,q1,hX⟩:=ZL (CS.grow _ HA.out hG.out) hlt
   have i1:(j:Int)<(n:Int):=by omega
   obtain ⟨wx1,wx2⟩:=WA.out x (List.mem_of_getElem? hx);obtain ⟨B',d',C',f',ev,_,_,_,_,hS,hM⟩:=ZC hX;injection ev with ev;have ev:=Array.toList_inj.2 ev;injection ev with e1 ev;injection ev with e2 _;injection e1 with e1 _ e3;injection e2 with e2 _ e4;subst e1;subst e3;subst e2;subst e4;have S1:=zH (hS.grow (gbA (gbR wr none) (.cells #[.slice B x.sh.length d,.slice C x.mc.length f] 80)));have M1:=zH (hM.grow (gbA (gbR wr none) (.cells #[.slice B x.sh.length d,.slice C x.mc.length f] 80)));have HX:=zH hx;have HFA:Hid (formA k x=(((x.sh.length:Int) == (k.al.length:Int))&&((x.mc.length:Int) == (k.al.length:Int))&&elemsB k.p x.sh&&elemsB k.p x.mc)):=rfl;have NO:=zH (HNO.out j x hx);have G1:=zH (gbT G0.out (gbA hG.out (.cells #[.slice B x.sh.length d,.slice C x.mc.length f] 80)));have G2:=zH (gbA hG.out (.cells #[.slice B x.sh.length d,.slice C x.mc.length f] 80));have B2:=zH (hB.out.grow (gbA (gbR _ none) (.cells #[.slice B x.sh.length d,.slice C x.mc.length f] 80)));clear hX hS hM hx HA
   cases b1:((x.sh.length:Int) == (k.al.length:Int))
   ·rw [b1] at HFA
    have n1:((x.sh.length:Int) != (k.al.length:Int))=true:=by rw [bne,b1];rfl
    clear b1;go_wp2_with fail;go_ret;exact ⟨retB (by rw [NO.out (by rw [HFA.out];rfl)]),G1.out⟩
   have n1:((x.sh.length:Int) != (k.al.length:Int))=false:=by rw [bne,b1];rfl
   cases b2:((x.mc.length:Int) == (k.al.length:Int))
   ·rw [b1,b2] at HFA
    have n2:((x.mc.length:Int) != (k.al.length:Int))=true:=by rw [bne,b2];rfl
    clear b1 b2;go_wp2_with fail;go_ret;exact ⟨retB (by rw [NO.out (by rw [HFA.out];rfl)]),G1.out⟩
   have n2:((x.mc.length:Int) != (k.al.length:Int))=false:=by rw [bne,b2];rfl
   rw [b1,b2] at HFA;clear b1 b2;go_wp2_with fail;refine (Zl k.p B x.sh.length d x.sh _ (by omega) (by omega) S1.out (by omega)).mono ?_;rintro e w2 ⟨rfl,rfl⟩
   cases b3:elemsB k.p x.sh
   ·rw [b3] at HFA
    go_wp2_with fail;go_ret;exact ⟨retB (by rw [NO.out (by rw [HFA.out];rfl)]),G1.out⟩
   go_wp2_with fail;refine (Zl k.p C x.mc.length f x.mc _ (by omega) (by omega) M1.out (by omega)).mono ?_;rintro e w2 ⟨rfl,rfl⟩
   cases b4:elemsB k.p x.mc
   ·rw [b3,b4] at HFA
    go_wp2_with fail;go_ret;exact ⟨retB (by rw [NO.out (by rw [HFA.out];rfl)]),G1.out⟩
   rw [b3,b4] at HFA
   have OK2:Hid (∀q y,q<j+1→xs[q]?=some y→formA k y=true):=zH (fun q y hq hy=>by
    rcases Nat.lt_succ_iff_lt_or_eq.1 hq with hq' | rfl
    ·exact hOk.out q y hq' hy
    ·have:=HX.out
     rw [hy] at this;injection this with this
     rw [this,HFA.out];rfl)
   go_wp2_with fail
   go_roundw
   case rel=>exact ⟨j+1,by omega,by go_num,OK2,B2,G2⟩
   case measure=>simp [intOf];omega
  ·have hjn:j=n:=by omega
   subst hjn
   have HY:Hid ((xs.all (formA k)&&keysB k)=keysB k):=zH (by
    have:xs.all (formA k)=true:=by
     rw [List.all_eq_true];intro x hx;obtain ⟨q,hq⟩:=List.mem_iff_getElem?.1 hx;exact hOk.out q x (by have:=(List.getElem?_eq_some_iff.1 hq).1;have:=HL.out;omega) hq
    rw [this];rfl)
   have HK2:=zH (AggR.grow HK.out hG.out);have GZ:=zH (gbT G0.out hG.out);clear hOk hB hG HA HK;go_wp2_with fail;refine (Wo k _ _ HK2.out WP.out).mono ?_;rintro e w2 ⟨rfl,g2⟩;have G2:=zH (gbT GZ.out g2);clear g2;go_wp2_with fail;go_ret;exact ⟨retB (by rw [HY.out]),G2.out⟩
end Go.Proofs.YthaadgdeadbhkaaGreat
