/-
 The laws' helpers on Engine,by what it reads as (printed by wip/gen_engk.py).
-/
import Derived.Test.YthaadgdeadbhkaaGreatMgFnExactEngineRound24
open Go.RowKit
set_option linter.unusedVariables false
set_option linter.unusedSimpArgs false
namespace Go.Proofs.YthaadgdeadbhkaaGreat
def EM.sz (m:EM):Nat:=m.k.sz+m.c.sz+szA m.vs+m.op.length
def EM.cnt (k:Int) (m:EM):Int:=m.c.cnt (m.k.cnt k)+(auS m.vs m.vs.length:Nat)+m.op.length
def EM.mkd (k:Int) (m:EM):EM:={ m with k:=m.k.mkd k,c:=m.c.mkd (m.k.cnt k),vs:=mkAS (m.c.cnt (m.k.cnt k)) m.vs,op:=marks (m.c.cnt (m.k.cnt k)+(auS m.vs m.vs.length:Nat)) m.op.length }
theorem ownL.chg {lo:Nat} {cs:List CS} {vs:List Value} {w w':World} {S:Nat→Prop} (h:ownL lo cs vs w) (k:Chg S w w') (hS:∀y,S y→y<lo):ownL lo cs vs w':=by
 obtain ⟨Fs,h1,h2⟩:=h;exact ⟨Fs,h1.kept fun g hg=>k.block g (h1.lt g hg) (fun hs=>by have:=h2 g hg;have:=hS g hs;omega),h2⟩
theorem ownL.of {lo:Nat} {cs:List CS} {F:List Nat} {vs:List Value} {w:World} (h:AggO w cs F (.agg vs.toArray)) (k:∀g∈F,lo≤g):ownL lo cs vs w:=aggF.all ⟨F,h,k⟩
theorem Um {xs:List Int} {w:World} {F:List Nat} {v:Value} (h:(cints xs).own w F v):F=v.ownBlock.toList:=by
 obtain ⟨_,_,_,e,_⟩:=Wk h;exact e
theorem own_F3 {xs:List (Int × Int × Int)} {w:World} {F:List Nat} {v:Value} (h:(csteps xs).own w F v):F=v.ownBlock.toList:=by
 obtain ⟨_,_,_,e,_⟩:=Wu (s:=3) (fun _=>rfl) (by omega) h;exact e
theorem ownL.one {lo:Nat} {c:CS} {F:List Nat} {v:Value} {w:World} (h:c.own w F v) (k:∀g∈F,lo≤g):ownL lo [c] [v] w:=ownF.one ⟨F,h,k⟩
set_option maxHeartbeats 4000000 in
set_option maxRecDepth 100000 in
theorem WR (m:EM) (v:Value) (w:World) (h:AggR w (Zd m) v) (hn:m.sz≤1048576) :
  Calls Tryz.prog 25 #[v] w fun e w'=>∃u F,e=.returned u∧AggO w' (Zd m) F u∧(∀g∈F,w.heap.size≤g)∧w.grownBy w' none:=by
 obtain ⟨A,B,C,D,E,a,b,c,d,e,rfl,hR⟩:=Zo h;have HN:=zH hn;obtain ⟨x0,hx0⟩:∃x:World,((w.alloc (.cells #[.int .i64 m.k.p,.slice A m.k.al.length a,.int .i64 m.c.p,.slice B m.c.st.length b,.slice C m.c.outs.length c,.slice D m.vs.length d,.slice E m.op.length e,.int .i64 m.rd,.bool m.bad] 52)).alloc (.cells #[.int .i64 0,.slice none 0 0,.int .i64 0,.slice none 0 0,.slice none 0 0,.slice none 0 0,.slice none 0 0,.int .i64 0,.bool false] 58)).alloc (.cells #[.int .i64 0,.slice none 0 0,.int .i64 0,.slice none 0 0,.slice none 0 0,.slice none 0 0,.slice none 0 0,.int .i64 0,.bool false] 58)=x:=⟨_,rfl⟩;have GG:Hid (w.grownBy x0 none):=by rw [← hx0];exact gbA (gbA (gbA (gbR _ _) _) _) _
 have S0:Hid (Blk x0 w.heap.size 52 #[.int .i64 m.k.p,.slice A m.k.al.length a,.int .i64 m.c.p,.slice B m.c.st.length b,.slice C m.c.outs.length c,.slice D m.vs.length d,.slice E m.op.length e,.int .i64 m.rd,.bool m.bad]):=by rw [← hx0];exact ((Blk.new w _ _).grow (gbA (gbR _ _) _)).grow (gbA (gbR _ _) _)
 have R0:Hid (Blk x0 (w.heap.size+1) 58 #[.int .i64 0,.slice none 0 0,.int .i64 0,.slice none 0 0,.slice none 0 0,.slice none 0 0,.slice none 0 0,.int .i64 0,.bool false]):=by rw [← hx0];exact (Blk.new' _ _ _ _ (by simp)).grow (gbA (gbR _ _) _)
 have D0:Hid (Blk x0 (w.heap.size+1+1) 58 #[.int .i64 0,.slice none 0 0,.int .i64 0,.slice none 0 0,.slice none 0 0,.slice none 0 0,.slice none 0 0,.int .i64 0,.bool false]):=by rw [← hx0];exact Blk.new' _ _ _ _ (by simp)
 have z0:x0.heap.size=w.heap.size+3:=by rw [← hx0];simp
 have z0:w.heap.size+3≤x0.heap.size:=by omega
 have P0:=zH hR;have RR:=zH (hR.grow GG.out);have LL:=zH (ownL.nil (w.heap.size+3) x0);clear h hn hR
 go_enter Tryz.func25,Tryz.ntmps25
 have s0:=S0.out.cell 0;have s1:=S0.out.cell 1;simp only [List.getElem?_toArray,List.getElem?_cons_succ,List.getElem?_cons_zero] at s0 s1;go_wp2_with fail;clear hx0 s0 s1;refine (toKeys_k m.k _ _ RR.out.ky (by have:=HN.out;unfold EM.sz at this;omega)).mono ?_;rintro e' y0 ⟨u,F0,rfl,oo,ll,gg⟩;obtain ⟨K1,n1,q1,rfl⟩:=Wc oo;have SN:=S0.out.grow gg;have RN:=R0.out.grow gg;have DN:=D0.out.grow gg;have zN:=gg.size;have LN:=LL.out.app gg (ownL.of (vs:=[_,_]) oo ll) (by omega);have GN:=gbT GG.out gg;have f0:=DN.frozen 0;have d0:=DN.cell 0;have f1:=DN.frozen 1;have d1:=DN.cell 1;simp only [List.getElem?_toArray,List.getElem?_cons_succ,List.getElem?_cons_zero] at d0 d1;obtain ⟨x1,hx1⟩:∃x:World,((y0).setCell ⟨w.heap.size+1+1,0,none⟩ (.int .i64 m.k.p)).setCell ⟨w.heap.size+1+1,1,none⟩ (.slice K1 n1 q1)=x:=⟨_,rfl⟩;have CH1:Chg (fun y=>y=w.heap.size+1+1) y0 x1:=by rw [← hx1];exact (chgS (y0) (w.heap.size+1+1) 0 (.int .i64 m.k.p)).trans (chgS ((y0).setCell ⟨w.heap.size+1+1,0,none⟩ (.int .i64 m.k.p)) (w.heap.size+1+1) 1 (.slice K1 n1 q1))
 have D1:Hid (Blk x1 (w.heap.size+1+1) 58 #[.int .i64 m.k.p,.slice K1 n1 q1,.int .i64 0,.slice none 0 0,.slice none 0 0,.slice none 0 0,.slice none 0 0,.int .i64 0,.bool false]):=by rw [← hx1];exact zH (((DN).set_ 0 (.int .i64 m.k.p)).set_ 1 (.slice K1 n1 q1))
 have S1:=zH (SN.chg CH1 (by omega));have R1:=zH (RN.chg CH1 (by omega));have L1:=zH (LN.chg CH1 (fun y hy=>by omega));have G1:=zH (gbChg GN CH1 (fun y hy=>by omega));have z1:w.heap.size+3≤x1.heap.size:=by have:=CH1.size;omega
 clear S0 R0 D0 LL GG RR oo ll gg zN z0;have S0:=S1;have R0:=R1;have D0:=D1;have LL:=L1;have GG:=G1;have z0:=z1;have RR:=zH (P0.out.grow GG.out);have s2:=S0.out.cell 2;have s3:=S0.out.cell 3;have s4:=S0.out.cell 4;simp only [List.getElem?_toArray,List.getElem?_cons_succ,List.getElem?_cons_zero] at s2 s3 s4;go_wp2_with fail;clear f0 d0 f1 d1 hx1 CH1 s2 s3 s4 SN RN DN LN GN;refine (toArith_k m.c _ _ RR.out.ar (by have:=HN.out;unfold EM.sz at this;omega)).mono ?_;rintro e' y1 ⟨u,F1,rfl,oo,ll,gg⟩;obtain ⟨K2,n2,q2,K3,n3,q3,rfl⟩:=YP oo;have SN:=S0.out.grow gg;have RN:=R0.out.grow gg;have DN:=D0.out.grow gg;have zN:=gg.size;have LN:=LL.out.app gg (ownL.of (vs:=[_,_,_]) oo ll) (by omega);have GN:=gbT GG.out gg;have f2:=DN.frozen 2;have d2:=DN.cell 2;have f3:=DN.frozen 3;have d3:=DN.cell 3;have f4:=DN.frozen 4;have d4:=DN.cell 4;simp only [List.getElem?_toArray,List.getElem?_cons_succ,List.getElem?_cons_zero] at d2 d3 d4;obtain ⟨x2,hx2⟩:∃x:World,(((y1).setCell ⟨w.heap.size+1+1,2,none⟩ (.int .i64 m.c.p)).setCell ⟨w.heap.size+1+1,3,none⟩ (.slice K2 n2 q2)).setCell ⟨w.heap.size+1+1,4,none⟩ (.slice K3 n3 q3)=x:=⟨_,rfl⟩;have CH2:Chg (fun y=>y=w.heap.size+1+1) y1 x2:=by rw [← hx2];exact ((chgS (y1) (w.heap.size+1+1) 2 (.int .i64 m.c.p)).trans (chgS ((y1).setCell ⟨w.heap.size+1+1,2,none⟩ (.int .i64 m.c.p)) (w.heap.size+1+1) 3 (.slice K2 n2 q2))).trans (chgS (((y1).setCell ⟨w.heap.size+1+1,2,none⟩ (.int .i64 m.c.p)).setCell ⟨w.heap.size+1+1,3,none⟩ (.slice K2 n2 q2)) (w.heap.size+1+1) 4 (.slice K3 n3 q3))
 have D2:Hid (Blk x2 (w.heap.size+1+1) 58 #[.int .i64 m.k.p,.slice K1 n1 q1,.int .i64 m.c.p,.slice K2 n2 q2,.slice K3 n3 q3,.slice none 0 0,.slice none 0 0,.int .i64 0,.bool false]):=by rw [← hx2];exact zH ((((DN).set_ 2 (.int .i64 m.c.p)).set_ 3 (.slice K2 n2 q2)).set_ 4 (.slice K3 n3 q3))
 have S2:=zH (SN.chg CH2 (by omega));have R2:=zH (RN.chg CH2 (by omega));have L2:=zH (LN.chg CH2 (fun y hy=>by omega));have G2:=zH (gbChg GN CH2 (fun y hy=>by omega));have z2:w.heap.size+3≤x2.heap.size:=by have:=CH2.size;omega
 clear S0 R0 D0 LL GG RR oo ll gg zN z0;have S0:=S2;have R0:=R2;have D0:=D2;have LL:=L2;have GG:=G2;have z0:=z2;have RR:=zH (P0.out.grow GG.out);have s5:=S0.out.cell 5;simp only [List.getElem?_toArray,List.getElem?_cons_succ,List.getElem?_cons_zero] at s5;go_wp2_with fail;clear f2 d2 f3 d3 f4 d4 hx2 CH2 s5 SN RN DN LN GN;refine (toAuthS_z m.vs _ _ RR.out.va (by have:=HN.out;unfold EM.sz at this;omega)).mono ?_;rintro e' y2 ⟨u,F2,rfl,oo,ll,gg⟩;obtain ⟨K4,n4,q4,rfl⟩:=ZJ oo;have SN:=S0.out.grow gg;have RN:=R0.out.grow gg;have DN:=D0.out.grow gg;have zN:=gg.size;have LN:=LL.out.app gg (ownL.one oo ll) (by omega);have GN:=gbT GG.out gg;have f5:=DN.frozen 5;have d5:=DN.cell 5;simp only [List.getElem?_toArray,List.getElem?_cons_succ,List.getElem?_cons_zero] at d5;obtain ⟨x3,hx3⟩:∃x:World,(y2).setCell ⟨w.heap.size+1+1,5,none⟩ (.slice K4 n4 q4)=x:=⟨_,rfl⟩;have CH3:Chg (fun y=>y=w.heap.size+1+1) y2 x3:=by rw [← hx3];exact chgS (y2) (w.heap.size+1+1) 5 (.slice K4 n4 q4)
 have D3:Hid (Blk x3 (w.heap.size+1+1) 58 #[.int .i64 m.k.p,.slice K1 n1 q1,.int .i64 m.c.p,.slice K2 n2 q2,.slice K3 n3 q3,.slice K4 n4 q4,.slice none 0 0,.int .i64 0,.bool false]):=by rw [← hx3];exact zH ((DN).set_ 5 (.slice K4 n4 q4))
 have S3:=zH (SN.chg CH3 (by omega));have R3:=zH (RN.chg CH3 (by omega));have L3:=zH (LN.chg CH3 (fun y hy=>by omega));have G3:=zH (gbChg GN CH3 (fun y hy=>by omega));have z3:w.heap.size+3≤x3.heap.size:=by have:=CH3.size;omega
 clear S0 R0 D0 LL GG RR oo ll gg zN z0;have S0:=S3;have R0:=R3;have D0:=D3;have LL:=L3;have GG:=G3;have z0:=z3;have RR:=zH (P0.out.grow GG.out);have s6:=S0.out.cell 6;simp only [List.getElem?_toArray,List.getElem?_cons_succ,List.getElem?_cons_zero] at s6;go_wp2_with fail;clear f5 d5 hx3 CH3 s6 SN RN DN LN GN;refine (Xm m.op _ _ RR.out.opn (by have:=HN.out;unfold EM.sz at this;omega)).mono ?_;rintro e' y3 ⟨u,F3,rfl,oo,ll,gg⟩;obtain ⟨K5,n5,q5,rfl⟩:=ZJ oo;have SN:=S0.out.grow gg;have RN:=R0.out.grow gg;have DN:=D0.out.grow gg;have zN:=gg.size;have LN:=LL.out.app gg (ownL.one oo ll) (by omega);have GN:=gbT GG.out gg;have f6:=DN.frozen 6;have d6:=DN.cell 6;simp only [List.getElem?_toArray,List.getElem?_cons_succ,List.getElem?_cons_zero] at d6;obtain ⟨x4,hx4⟩:∃x:World,(y3).setCell ⟨w.heap.size+1+1,6,none⟩ (.slice K5 n5 q5)=x:=⟨_,rfl⟩;have CH4:Chg (fun y=>y=w.heap.size+1+1) y3 x4:=by rw [← hx4];exact chgS (y3) (w.heap.size+1+1) 6 (.slice K5 n5 q5)
 have D4:Hid (Blk x4 (w.heap.size+1+1) 58 #[.int .i64 m.k.p,.slice K1 n1 q1,.int .i64 m.c.p,.slice K2 n2 q2,.slice K3 n3 q3,.slice K4 n4 q4,.slice K5 n5 q5,.int .i64 0,.bool false]):=by rw [← hx4];exact zH ((DN).set_ 6 (.slice K5 n5 q5))
 have S4:=zH (SN.chg CH4 (by omega));have R4:=zH (RN.chg CH4 (by omega));have L4:=zH (LN.chg CH4 (fun y hy=>by omega));have G4:=zH (gbChg GN CH4 (fun y hy=>by omega));have z4:w.heap.size+3≤x4.heap.size:=by have:=CH4.size;omega
 have f7:=D4.out.frozen 7;have d7:=D4.out.cell 7;simp only [List.getElem?_toArray,List.getElem?_cons_succ,List.getElem?_cons_zero] at d7;have s7:=S4.out.cell 7;simp only [List.getElem?_toArray,List.getElem?_cons_succ,List.getElem?_cons_zero] at s7;obtain ⟨x5,hx5⟩:∃x:World,(x4).setCell ⟨w.heap.size+1+1,7,none⟩ (.int .i64 m.rd)=x:=⟨_,rfl⟩;have CH5:Chg (fun y=>y=w.heap.size+1+1) x4 x5:=by rw [← hx5];exact chgS (x4) (w.heap.size+1+1) 7 (.int .i64 m.rd)
 have D5:Hid (Blk x5 (w.heap.size+1+1) 58 #[.int .i64 m.k.p,.slice K1 n1 q1,.int .i64 m.c.p,.slice K2 n2 q2,.slice K3 n3 q3,.slice K4 n4 q4,.slice K5 n5 q5,.int .i64 m.rd,.bool false]):=by rw [← hx5];exact zH ((D4.out).set_ 7 (.int .i64 m.rd))
 have S5:=zH (S4.out.chg CH5 (by omega));have R5:=zH (R4.out.chg CH5 (by omega));have L5:=zH (L4.out.chg CH5 (fun y hy=>by omega));have G5:=zH (gbChg G4.out CH5 (fun y hy=>by omega));have z5:w.heap.size+3≤x5.heap.size:=by have:=CH5.size;omega
 have f8:=D5.out.frozen 8;have d8:=D5.out.cell 8;simp only [List.getElem?_toArray,List.getElem?_cons_succ,List.getElem?_cons_zero] at d8;have s8:=S5.out.cell 8;simp only [List.getElem?_toArray,List.getElem?_cons_succ,List.getElem?_cons_zero] at s8;obtain ⟨x6,hx6⟩:∃x:World,(x5).setCell ⟨w.heap.size+1+1,8,none⟩ (.bool m.bad)=x:=⟨_,rfl⟩;have CH6:Chg (fun y=>y=w.heap.size+1+1) x5 x6:=by rw [← hx6];exact chgS (x5) (w.heap.size+1+1) 8 (.bool m.bad)
 have D6:Hid (Blk x6 (w.heap.size+1+1) 58 #[.int .i64 m.k.p,.slice K1 n1 q1,.int .i64 m.c.p,.slice K2 n2 q2,.slice K3 n3 q3,.slice K4 n4 q4,.slice K5 n5 q5,.int .i64 m.rd,.bool m.bad]):=by rw [← hx6];exact zH ((D5.out).set_ 8 (.bool m.bad))
 have S6:=zH (S5.out.chg CH6 (by omega));have R6:=zH (R5.out.chg CH6 (by omega));have L6:=zH (L5.out.chg CH6 (fun y hy=>by omega));have G6:=zH (gbChg G5.out CH6 (fun y hy=>by omega));have z6:w.heap.size+3≤x6.heap.size:=by have:=CH6.size;omega
 clear S0 R0 D0 LL GG RR oo ll gg zN z0;have S0:=S6;have R0:=R6;have D0:=D6;have LL:=L6;have GG:=G6;have z0:=z6;have RR:=zH (P0.out.grow GG.out);have e0:=D0.out.cell 0;have r0:=R0.out.cell 0;have t0:=R0.out.frozen 0;have e1:=D0.out.cell 1;have r1:=R0.out.cell 1;have t1:=R0.out.frozen 1;have e2:=D0.out.cell 2;have r2:=R0.out.cell 2;have t2:=R0.out.frozen 2;have e3:=D0.out.cell 3;have r3:=R0.out.cell 3;have t3:=R0.out.frozen 3;have e4:=D0.out.cell 4;have r4:=R0.out.cell 4;have t4:=R0.out.frozen 4;have e5:=D0.out.cell 5;have r5:=R0.out.cell 5;have t5:=R0.out.frozen 5;have e6:=D0.out.cell 6;have r6:=R0.out.cell 6;have t6:=R0.out.frozen 6;have e7:=D0.out.cell 7;have r7:=R0.out.cell 7;have t7:=R0.out.frozen 7;have e8:=D0.out.cell 8;have r8:=R0.out.cell 8;have t8:=R0.out.frozen 8;simp only [List.getElem?_toArray,List.getElem?_cons_succ,List.getElem?_cons_zero] at e0 e1 e2 e3 e4 e5 e6 e7 e8 r0 r1 r2 r3 r4 r5 r6 r7 r8;have BF:=zH (Zh R0.out [.int .i64 m.k.p,.slice K1 n1 q1,.int .i64 m.c.p,.slice K2 n2 q2,.slice K3 n3 q3,.slice K4 n4 q4,.slice K5 n5 q5,.int .i64 m.rd,.bool m.bad] rfl);have CF:=Zc (w.heap.size+1) [.int .i64 m.k.p,.slice K1 n1 q1,.int .i64 m.c.p,.slice K2 n2 q2,.slice K3 n3 q3,.slice K4 n4 q4,.slice K5 n5 q5,.int .i64 m.rd,.bool m.bad] 0 x6;have hz:ownL x6.heap.size [ci m.rd,cb m.bad] [.int .i64 m.rd,.bool m.bad] x6:=((ownL.nil _ x6).pl (x:=.bool m.bad) rfl).pl (x:=.int .i64 m.rd) rfl;have AF:=((LL.out.app (gbR x6 none) hz z0).chg CF (fun y hy=>by have hy:y=_:=hy;omega)).agg;have AF:=zH AF;have GF:=zH (gbChg GG.out CF (fun y hy=>by have hy:y=_:=hy;omega));simp only [ZW,Nat.zero_add,Nat.reduceAdd] at BF GF AF;clear CF hz;go_wp2_with fail;clear f6 d6 hx4 CH4 f7 d7 s7 hx5 CH5 f8 d8 s8 hx6 CH6 SN RN DN LN GN;refine Yo Tryz.results25 (by rfl) Wg (cs:=#[.int .i64 m.k.p,.slice K1 n1 q1,.int .i64 m.c.p,.slice K2 n2 q2,.slice K3 n3 q3,.slice K4 n4 q4,.slice K5 n5 q5,.int .i64 m.rd,.bool m.bad]) BF.out (by rfl) (by rfl) ?_;obtain ⟨F,hA,hl⟩:=AF.out;exact ⟨_,F,rfl,hA,fun g hg=>by have:=hl g hg;omega,GF.out⟩
set_option maxHeartbeats 4000000 in
set_option maxRecDepth 100000 in
theorem eqEngine_k (m:EM) (v u:Value) (w:World) (h:AggR w (Zd m) v) (k:AggR w (Zd m) u) (hn:m.sz≤1048576) :
  Calls Tryz.prog 28 #[v,u] w fun e w'=>e=.returned (.bool true)∧w.grownBy w' none:=by
 obtain ⟨A,B,C,D,E,a,b,c,d,e,rfl,hR⟩:=Zo h;obtain ⟨A',B',C',D',E',a',b',c',d',e',rfl,hQ⟩:=Zo k;have HN:=zH hn;obtain ⟨x0,hx0⟩:∃x:World,(w.alloc (.cells #[.int .i64 m.k.p,.slice A m.k.al.length a,.int .i64 m.c.p,.slice B m.c.st.length b,.slice C m.c.outs.length c,.slice D m.vs.length d,.slice E m.op.length e,.int .i64 m.rd,.bool m.bad] 58)).alloc (.cells #[.int .i64 m.k.p,.slice A' m.k.al.length a',.int .i64 m.c.p,.slice B' m.c.st.length b',.slice C' m.c.outs.length c',.slice D' m.vs.length d',.slice E' m.op.length e',.int .i64 m.rd,.bool m.bad] 58)=x:=⟨_,rfl⟩;have GG:Hid (w.grownBy x0 none):=by rw [← hx0];exact gbA (gbA (gbR _ _) _) _
 have S0:Hid (Blk x0 w.heap.size 58 #[.int .i64 m.k.p,.slice A m.k.al.length a,.int .i64 m.c.p,.slice B m.c.st.length b,.slice C m.c.outs.length c,.slice D m.vs.length d,.slice E m.op.length e,.int .i64 m.rd,.bool m.bad]):=by rw [← hx0];exact (Blk.new w _ _).grow (gbA (gbR _ _) _)
 have T0:Hid (Blk x0 (w.heap.size+1) 58 #[.int .i64 m.k.p,.slice A' m.k.al.length a',.int .i64 m.c.p,.slice B' m.c.st.length b',.slice C' m.c.outs.length c',.slice D' m.vs.length d',.slice E' m.op.length e',.int .i64 m.rd,.bool m.bad]):=by rw [← hx0];exact Blk.new' _ _ _ _ (by simp)
 have RR:=zH hR;have QQ:=zH hQ;clear h k hn hR hQ
 go_enter Tryz.func28,Tryz.ntmps28
 have s0:=S0.out.cell 0;have t0:=T0.out.cell 0;have s1:=S0.out.cell 1;have t1:=T0.out.cell 1;simp only [List.getElem?_toArray,List.getElem?_cons_succ,List.getElem?_cons_zero] at s0 t0 s1 t1;go_wp2_with fail;clear s0 t0 s1 t1 hx0;refine (eqKeys_k m.k _ _ _ (RR.out.grow GG.out).ky (QQ.out.grow GG.out).ky (by have:=HN.out;unfold EM.sz at this;omega)).mono ?_;rintro e' x1 ⟨rfl,gg⟩;have S1:=zH (S0.out.grow gg);have T1:=zH (T0.out.grow gg);have G1:=zH (gbT GG.out gg);clear S0 T0 GG gg;have S0:=S1;have T0:=T1;have GG:=G1;clear S1 T1 G1;have s2:=S0.out.cell 2;have t2:=T0.out.cell 2;have s3:=S0.out.cell 3;have t3:=T0.out.cell 3;have s4:=S0.out.cell 4;have t4:=T0.out.cell 4;simp only [List.getElem?_toArray,List.getElem?_cons_succ,List.getElem?_cons_zero] at s2 t2 s3 t3 s4 t4;go_wp2_with fail;clear s2 t2 s3 t3 s4 t4;refine (eqArith_k m.c _ _ _ (RR.out.grow GG.out).ar (QQ.out.grow GG.out).ar (by have:=HN.out;unfold EM.sz at this;omega)).mono ?_;rintro e' x2 ⟨rfl,gg⟩;have S1:=zH (S0.out.grow gg);have T1:=zH (T0.out.grow gg);have G1:=zH (gbT GG.out gg);clear S0 T0 GG gg;have S0:=S1;have T0:=T1;have GG:=G1;clear S1 T1 G1;have s5:=S0.out.cell 5;have t5:=T0.out.cell 5;simp only [List.getElem?_toArray,List.getElem?_cons_succ,List.getElem?_cons_zero] at s5 t5;go_wp2_with fail;clear s5 t5;refine (eqAuthS_z m.vs _ _ _ (RR.out.grow GG.out).va (QQ.out.grow GG.out).va (by have:=HN.out;unfold EM.sz at this;omega)).mono ?_;rintro e' x3 ⟨rfl,gg⟩;have S1:=zH (S0.out.grow gg);have T1:=zH (T0.out.grow gg);have G1:=zH (gbT GG.out gg);clear S0 T0 GG gg;have S0:=S1;have T0:=T1;have GG:=G1;clear S1 T1 G1;have s6:=S0.out.cell 6;have t6:=T0.out.cell 6;simp only [List.getElem?_toArray,List.getElem?_cons_succ,List.getElem?_cons_zero] at s6 t6;go_wp2_with fail;clear s6 t6;refine (Ww m.op _ _ _ (RR.out.grow GG.out).opn (QQ.out.grow GG.out).opn (by have:=HN.out;unfold EM.sz at this;omega)).mono ?_;rintro e' x4 ⟨rfl,gg⟩;have S1:=zH (S0.out.grow gg);have T1:=zH (T0.out.grow gg);have G1:=zH (gbT GG.out gg);clear S0 T0 GG gg;have S0:=S1;have T0:=T1;have GG:=G1;clear S1 T1 G1;have s7:=S0.out.cell 7;have t7:=T0.out.cell 7;have s8:=S0.out.cell 8;have t8:=T0.out.cell 8;simp only [List.getElem?_toArray,List.getElem?_cons_succ,List.getElem?_cons_zero] at s7 t7 s8 t8;go_wp2_with fail;clear s7 t7 s8 t8;go_ret;exact ⟨rfl,GG.out⟩
set_option maxHeartbeats 4000000 in
set_option maxRecDepth 100000 in
theorem VU (m:EM) (v:Value) (l:Nat) (w:World) (h:AggR w (Zd m) v) (hl:l≤1048576) :
  Calls Tryz.prog 22 #[v,.int .i64 l] w fun e w'=>e=.returned (.int .i64 (szO l m.sz))∧w.grownBy w' none:=by
 obtain ⟨A,B,C,D,E,a,b,c,d,e,rfl,hR⟩:=Zo h;obtain ⟨x0,hx0⟩:∃x:World,w.alloc (.cells #[.int .i64 m.k.p,.slice A m.k.al.length a,.int .i64 m.c.p,.slice B m.c.st.length b,.slice C m.c.outs.length c,.slice D m.vs.length d,.slice E m.op.length e,.int .i64 m.rd,.bool m.bad] 52)=x:=⟨_,rfl⟩;have GG:Hid (w.grownBy x0 none):=by rw [← hx0];exact gbA (gbR _ _) _
 have S0:Hid (Blk x0 w.heap.size 52 #[.int .i64 m.k.p,.slice A m.k.al.length a,.int .i64 m.c.p,.slice B m.c.st.length b,.slice C m.c.outs.length c,.slice D m.vs.length d,.slice E m.op.length e,.int .i64 m.rd,.bool m.bad]):=by rw [← hx0];exact Blk.new w _ _
 have RR:=zH hR;have HX0:=zH hx0;clear h hR hx0
 by_cases b0:m.k.sz≤l
 ·have C0:=zH (ZT b0)
  have Y0:=zH b0;clear b0
  by_cases b1:m.c.sz≤l - m.k.sz
  ·have C1:=zH (ZT b1)
   have Y1:=zH b1;clear b1
   by_cases b2:szA m.vs≤l - m.k.sz - m.c.sz
   ·have C2:=zH (ZT b2)
    have Y2:=zH b2;clear b2
    by_cases b3:m.op.length≤l - m.k.sz - m.c.sz - szA m.vs
    ·have C3:=zH (ZT b3)
     have Y3:=zH b3;clear b3
     go_enter Tryz.func22,Tryz.ntmps22
     have hx0:=HX0.out;have s0:=S0.out.cell 0;have s1:=S0.out.cell 1;simp only [List.getElem?_toArray,List.getElem?_cons_succ,List.getElem?_cons_zero] at s0 s1;go_wp2_with fail;clear s0 s1 hx0;refine (Vt m.k _ (l) _ (RR.out.grow GG.out).ky (by omega)).mono ?_;rintro e' x1 ⟨rfl,gg⟩;rw [C0.out];have S1:=zH (S0.out.grow gg);have G1:=zH (gbT GG.out gg);clear S0 GG gg;have S0:=S1;have GG:=G1;clear S1 G1;have n0:¬((l - m.k.sz:Nat):Int)<0:=by omega
     have s2:=S0.out.cell 2;have s3:=S0.out.cell 3;have s4:=S0.out.cell 4;simp only [List.getElem?_toArray,List.getElem?_cons_succ,List.getElem?_cons_zero] at s2 s3 s4;go_wp2_with fail;clear s2 s3 s4;refine (Vu m.c _ (l - m.k.sz) _ (RR.out.grow GG.out).ar (by omega)).mono ?_;rintro e' x2 ⟨rfl,gg⟩;rw [C1.out];have S1:=zH (S0.out.grow gg);have G1:=zH (gbT GG.out gg);clear S0 GG gg;have S0:=S1;have GG:=G1;clear S1 G1;have n1:¬((l - m.k.sz - m.c.sz:Nat):Int)<0:=by omega
     have s5:=S0.out.cell 5;simp only [List.getElem?_toArray,List.getElem?_cons_succ,List.getElem?_cons_zero] at s5;go_wp2_with fail;clear s5;refine (Qm m.vs _ (l - m.k.sz - m.c.sz) _ (RR.out.grow GG.out).va (by omega)).mono ?_;rintro e' x3 ⟨rfl,gg⟩;rw [C2.out];have S1:=zH (S0.out.grow gg);have G1:=zH (gbT GG.out gg);clear S0 GG gg;have S0:=S1;have GG:=G1;clear S1 G1;have n2:¬((l - m.k.sz - m.c.sz - szA m.vs:Nat):Int)<0:=by omega
     have s6:=S0.out.cell 6;simp only [List.getElem?_toArray,List.getElem?_cons_succ,List.getElem?_cons_zero] at s6;go_wp2_with fail;clear s6;refine (YS m.op _ (l - m.k.sz - m.c.sz - szA m.vs) _ (RR.out.grow GG.out).opn (by omega)).mono ?_;rintro e' x4 ⟨rfl,gg⟩;rw [C3.out];have S1:=zH (S0.out.grow gg);have G1:=zH (gbT GG.out gg);clear S0 GG gg;have S0:=S1;have GG:=G1;clear S1 G1;have n3:¬((l - m.k.sz - m.c.sz - szA m.vs - m.op.length:Nat):Int)<0:=by omega
     go_wp2_with fail;go_ret;exact ⟨retI (by have:=Y0.out;have:=Y1.out;have:=Y2.out;have:=Y3.out;rw [ZT (by unfold EM.sz;omega)];unfold EM.sz;omega),GG.out⟩
    ·have C3:=zH (ZV (Nat.lt_of_not_le b3))
     have N3:=zH b3;clear b3
     go_enter Tryz.func22,Tryz.ntmps22
     have hx0:=HX0.out;have s0:=S0.out.cell 0;have s1:=S0.out.cell 1;simp only [List.getElem?_toArray,List.getElem?_cons_succ,List.getElem?_cons_zero] at s0 s1;go_wp2_with fail;clear s0 s1 hx0;refine (Vt m.k _ (l) _ (RR.out.grow GG.out).ky (by omega)).mono ?_;rintro e' x1 ⟨rfl,gg⟩;rw [C0.out];have S1:=zH (S0.out.grow gg);have G1:=zH (gbT GG.out gg);clear S0 GG gg;have S0:=S1;have GG:=G1;clear S1 G1;have n0:¬((l - m.k.sz:Nat):Int)<0:=by omega
     have s2:=S0.out.cell 2;have s3:=S0.out.cell 3;have s4:=S0.out.cell 4;simp only [List.getElem?_toArray,List.getElem?_cons_succ,List.getElem?_cons_zero] at s2 s3 s4;go_wp2_with fail;clear s2 s3 s4;refine (Vu m.c _ (l - m.k.sz) _ (RR.out.grow GG.out).ar (by omega)).mono ?_;rintro e' x2 ⟨rfl,gg⟩;rw [C1.out];have S1:=zH (S0.out.grow gg);have G1:=zH (gbT GG.out gg);clear S0 GG gg;have S0:=S1;have GG:=G1;clear S1 G1;have n1:¬((l - m.k.sz - m.c.sz:Nat):Int)<0:=by omega
     have s5:=S0.out.cell 5;simp only [List.getElem?_toArray,List.getElem?_cons_succ,List.getElem?_cons_zero] at s5;go_wp2_with fail;clear s5;refine (Qm m.vs _ (l - m.k.sz - m.c.sz) _ (RR.out.grow GG.out).va (by omega)).mono ?_;rintro e' x3 ⟨rfl,gg⟩;rw [C2.out];have S1:=zH (S0.out.grow gg);have G1:=zH (gbT GG.out gg);clear S0 GG gg;have S0:=S1;have GG:=G1;clear S1 G1;have n2:¬((l - m.k.sz - m.c.sz - szA m.vs:Nat):Int)<0:=by omega
     have s6:=S0.out.cell 6;simp only [List.getElem?_toArray,List.getElem?_cons_succ,List.getElem?_cons_zero] at s6;go_wp2_with fail;clear s6;refine (YS m.op _ (l - m.k.sz - m.c.sz - szA m.vs) _ (RR.out.grow GG.out).opn (by omega)).mono ?_;rintro e' x4 ⟨rfl,gg⟩;rw [C3.out];have S1:=zH (S0.out.grow gg);have G1:=zH (gbT GG.out gg);clear S0 GG gg;have S0:=S1;have GG:=G1;clear S1 G1;go_wp2_with fail;go_ret;exact ⟨retI (by rw [ZV];have:=N3.out;have:=Y0.out;have:=Y1.out;have:=Y2.out;unfold EM.sz;omega),GG.out⟩
   ·have C2:=zH (ZV (Nat.lt_of_not_le b2))
    have N2:=zH b2;clear b2
    go_enter Tryz.func22,Tryz.ntmps22
    have hx0:=HX0.out;have s0:=S0.out.cell 0;have s1:=S0.out.cell 1;simp only [List.getElem?_toArray,List.getElem?_cons_succ,List.getElem?_cons_zero] at s0 s1;go_wp2_with fail;clear s0 s1 hx0;refine (Vt m.k _ (l) _ (RR.out.grow GG.out).ky (by omega)).mono ?_;rintro e' x1 ⟨rfl,gg⟩;rw [C0.out];have S1:=zH (S0.out.grow gg);have G1:=zH (gbT GG.out gg);clear S0 GG gg;have S0:=S1;have GG:=G1;clear S1 G1;have n0:¬((l - m.k.sz:Nat):Int)<0:=by omega
    have s2:=S0.out.cell 2;have s3:=S0.out.cell 3;have s4:=S0.out.cell 4;simp only [List.getElem?_toArray,List.getElem?_cons_succ,List.getElem?_cons_zero] at s2 s3 s4;go_wp2_with fail;clear s2 s3 s4;refine (Vu m.c _ (l - m.k.sz) _ (RR.out.grow GG.out).ar (by omega)).mono ?_;rintro e' x2 ⟨rfl,gg⟩;rw [C1.out];have S1:=zH (S0.out.grow gg);have G1:=zH (gbT GG.out gg);clear S0 GG gg;have S0:=S1;have GG:=G1;clear S1 G1;have n1:¬((l - m.k.sz - m.c.sz:Nat):Int)<0:=by omega
    have s5:=S0.out.cell 5;simp only [List.getElem?_toArray,List.getElem?_cons_succ,List.getElem?_cons_zero] at s5;go_wp2_with fail;clear s5;refine (Qm m.vs _ (l - m.k.sz - m.c.sz) _ (RR.out.grow GG.out).va (by omega)).mono ?_;rintro e' x3 ⟨rfl,gg⟩;rw [C2.out];have S1:=zH (S0.out.grow gg);have G1:=zH (gbT GG.out gg);clear S0 GG gg;have S0:=S1;have GG:=G1;clear S1 G1;go_wp2_with fail;go_ret;exact ⟨retI (by rw [ZV];have:=N2.out;have:=Y0.out;have:=Y1.out;unfold EM.sz;omega),GG.out⟩
  ·have C1:=zH (ZV (Nat.lt_of_not_le b1))
   have N1:=zH b1;clear b1
   go_enter Tryz.func22,Tryz.ntmps22
   have hx0:=HX0.out;have s0:=S0.out.cell 0;have s1:=S0.out.cell 1;simp only [List.getElem?_toArray,List.getElem?_cons_succ,List.getElem?_cons_zero] at s0 s1;go_wp2_with fail;clear s0 s1 hx0;refine (Vt m.k _ (l) _ (RR.out.grow GG.out).ky (by omega)).mono ?_;rintro e' x1 ⟨rfl,gg⟩;rw [C0.out];have S1:=zH (S0.out.grow gg);have G1:=zH (gbT GG.out gg);clear S0 GG gg;have S0:=S1;have GG:=G1;clear S1 G1;have n0:¬((l - m.k.sz:Nat):Int)<0:=by omega
   have s2:=S0.out.cell 2;have s3:=S0.out.cell 3;have s4:=S0.out.cell 4;simp only [List.getElem?_toArray,List.getElem?_cons_succ,List.getElem?_cons_zero] at s2 s3 s4;go_wp2_with fail;clear s2 s3 s4;refine (Vu m.c _ (l - m.k.sz) _ (RR.out.grow GG.out).ar (by omega)).mono ?_;rintro e' x2 ⟨rfl,gg⟩;rw [C1.out];have S1:=zH (S0.out.grow gg);have G1:=zH (gbT GG.out gg);clear S0 GG gg;have S0:=S1;have GG:=G1;clear S1 G1;go_wp2_with fail;go_ret;exact ⟨retI (by rw [ZV];have:=N1.out;have:=Y0.out;unfold EM.sz;omega),GG.out⟩
 ·have C0:=zH (ZV (Nat.lt_of_not_le b0))
  have N0:=zH b0;clear b0
  go_enter Tryz.func22,Tryz.ntmps22
  have hx0:=HX0.out;have s0:=S0.out.cell 0;have s1:=S0.out.cell 1;simp only [List.getElem?_toArray,List.getElem?_cons_succ,List.getElem?_cons_zero] at s0 s1;go_wp2_with fail;clear s0 s1 hx0;refine (Vt m.k _ (l) _ (RR.out.grow GG.out).ky (by omega)).mono ?_;rintro e' x1 ⟨rfl,gg⟩;rw [C0.out];have S1:=zH (S0.out.grow gg);have G1:=zH (gbT GG.out gg);clear S0 GG gg;have S0:=S1;have GG:=G1;clear S1 G1;go_wp2_with fail;go_ret;exact ⟨retI (by rw [ZV];have:=N0.out;unfold EM.sz;omega),GG.out⟩
theorem VA {w:World} {m:EM} {F:List Nat} {v:Value} (h:AggO w (Zd m) F v):∃u1 u3 u4 u5 u6 F1 F3 F4 F5 F6,v=.agg #[.int .i64 m.k.p,u1,.int .i64 m.c.p,u3,u4,u5,u6,.int .i64 m.rd,.bool m.bad]∧F=[[],F1,[],F3,F4,F5,F6,[],[]].flatten∧(cints m.k.al).own w F1 u1∧(csteps m.c.st).own w F3 u3∧(cints m.c.outs).own w F4 u4∧(cauths m.vs).own w F5 u5∧(cints m.op).own w F6 u6∧(∀g∈F1,g∉F3)∧(∀g∈F1,g∉F4)∧(∀g∈F1,g∉F5)∧(∀g∈F1,g∉F6)∧(∀g∈F3,g∉F4)∧(∀g∈F3,g∉F5)∧(∀g∈F3,g∉F6)∧(∀g∈F4,g∉F5)∧(∀g∈F4,g∉F6)∧(∀g∈F5,g∉F6):=by
 obtain ⟨vs,Fs,rfl,h,rfl⟩:=h;obtain ⟨u0,vs0,F0,Fs0,rfl,rfl,h0,h,d0⟩:=OwnAll.head h;obtain ⟨u1,vs1,F1,Fs1,rfl,rfl,h1,h,d1⟩:=OwnAll.head h;obtain ⟨u2,vs2,F2,Fs2,rfl,rfl,h2,h,d2⟩:=OwnAll.head h;obtain ⟨u3,vs3,F3,Fs3,rfl,rfl,h3,h,d3⟩:=OwnAll.head h;obtain ⟨u4,vs4,F4,Fs4,rfl,rfl,h4,h,d4⟩:=OwnAll.head h;obtain ⟨u5,vs5,F5,Fs5,rfl,rfl,h5,h,d5⟩:=OwnAll.head h;obtain ⟨u6,vs6,F6,Fs6,rfl,rfl,h6,h,d6⟩:=OwnAll.head h;obtain ⟨u7,vs7,F7,Fs7,rfl,rfl,h7,h,d7⟩:=OwnAll.head h;obtain ⟨u8,vs8,F8,Fs8,rfl,rfl,h8,h,d8⟩:=OwnAll.head h;obtain ⟨rfl,rfl⟩:=OwnAll.none h;obtain ⟨rfl,rfl,_⟩:=h0;obtain ⟨rfl,rfl,_⟩:=h2;obtain ⟨rfl,rfl,_⟩:=h7;obtain ⟨rfl,rfl,_⟩:=h8;exact ⟨u1,u3,u4,u5,u6,F1,F3,F4,F5,F6,rfl,rfl,h1,h3,h4,h5,h6,fun g hg hg'=>d1 g hg (by simp [hg']),fun g hg hg'=>d1 g hg (by simp [hg']),fun g hg hg'=>d1 g hg (by simp [hg']),fun g hg hg'=>d1 g hg (by simp [hg']),fun g hg hg'=>d3 g hg (by simp [hg']),fun g hg hg'=>d3 g hg (by simp [hg']),fun g hg hg'=>d3 g hg (by simp [hg']),fun g hg hg'=>d4 g hg (by simp [hg']),fun g hg hg'=>d4 g hg (by simp [hg']),fun g hg hg'=>d5 g hg (by simp [hg'])⟩
theorem Qo {w:World} {m:EM} {u1 u3 u4 u5 u6:Value} {F1 F3 F4 F5 F6:List Nat} (h1:(cints m.k.al).own w F1 u1) (h3:(csteps m.c.st).own w F3 u3) (h4:(cints m.c.outs).own w F4 u4) (h5:(cauths m.vs).own w F5 u5) (h6:(cints m.op).own w F6 u6) (d13:∀g∈F1,g∉F3) (d14:∀g∈F1,g∉F4) (d15:∀g∈F1,g∉F5) (d16:∀g∈F1,g∉F6) (d34:∀g∈F3,g∉F4) (d35:∀g∈F3,g∉F5) (d36:∀g∈F3,g∉F6) (d45:∀g∈F4,g∉F5) (d46:∀g∈F4,g∉F6) (d56:∀g∈F5,g∉F6):AggO w (Zd m) [[],F1,[],F3,F4,F5,F6,[],[]].flatten (.agg #[.int .i64 m.k.p,u1,.int .i64 m.c.p,u3,u4,u5,u6,.int .i64 m.rd,.bool m.bad]):=⟨_,_,rfl,(OwnAll.cons (WW _ _) (OwnAll.cons h1 (OwnAll.cons (WW _ _) (OwnAll.cons h3 (OwnAll.cons h4 (OwnAll.cons h5 (OwnAll.cons h6 (OwnAll.cons (WW _ _) (OwnAll.cons (cb_own _ _) (OwnAll.nil _) (by simp)) (by simp)) (fun g hg=>by simp)) (fun g hg=>by simp [d56 g hg])) (fun g hg=>by simp [d45 g hg,d46 g hg])) (fun g hg=>by simp [d34 g hg,d35 g hg,d36 g hg])) (by simp)) (fun g hg=>by simp [d13 g hg,d14 g hg,d15 g hg,d16 g hg])) (by simp)),rfl⟩
set_option maxHeartbeats 4000000 in
set_option maxRecDepth 100000 in
theorem markEngine_k (m:EM) (v:Value) (F:List Nat) (k:Int) (w:World) (h:AggO w (Zd m) F v) (hn:m.sz≤1048576) (h0:0≤k) (h1:k≤1073741824) :
  Calls Tryz.prog 30 #[v,.int .i64 k] w fun e w'=>e=.returned (.int .i64 (m.cnt k))∧AggO w' (Zd (m.mkd k)) F v∧Chg (fun g=>g∈F) w w':=by
 obtain ⟨u1,u3,u4,u5,u6,F1,F3,F4,F5,F6,rfl,rfl,o1,o3,o4,o5,o6,d13,d14,d15,d16,d34,d35,d36,d45,d46,d56⟩:=VA h;have D13:=zH d13;have D14:=zH d14;have D15:=zH d15;have D16:=zH d16;have D34:=zH d34;have D35:=zH d35;have D36:=zH d36;have D45:=zH d45;have D46:=zH d46;have D56:=zH d56;have HF1:=zH (Um o1);have HF3:=zH (own_F3 o3);have HF4:=zH (Um o4);have V1:Hid (∀g∈[[],F1].flatten,g<w.heap.size):=zH (fun g hg=>CS.lt _ o1 g (by simpa using hg));have V2:Hid (∀g∈[[],F3,F4].flatten,g<w.heap.size):=zH (fun g hg=>by simp at hg;rcases hg with hg | hg;exact CS.lt _ o3 g hg;exact CS.lt _ o4 g hg);have V5:Hid (∀g∈F5,g<w.heap.size):=zH (CS.lt _ o5);have V6:Hid (∀g∈F6,g<w.heap.size):=zH (CS.lt _ o6);have k0:m.k.cnt k=k+m.k.al.length:=rfl;have k1:∀q,m.c.cnt q=q+3*m.c.st.length+m.c.outs.length:=fun _=>rfl;have hz:m.k.al.length+(m.c.st.length+m.c.outs.length)+(m.vs.length+auS m.vs m.vs.length)+m.op.length≤1048576:=hn;have kb0:0≤m.k.cnt k∧m.k.cnt k≤1073741824+1048576:=by rw [k0];omega
 have kb1:0≤m.c.cnt (m.k.cnt k)∧m.c.cnt (m.k.cnt k)≤1073741824+8388608:=by rw [k1,k0];omega
 have HK0:=zH k0;have HK1:=zH k1;clear k0 k1;obtain ⟨c0,hc0⟩:∃x,m.k.cnt k=x:=⟨_,rfl⟩;obtain ⟨c1,hc1⟩:∃x,m.c.cnt (m.k.cnt k)=x:=⟨_,rfl⟩;have HC0:=zH hc0;have HC1:=zH (show m.c.cnt c0=c1 by rw [← hc0];exact hc1);rw [hc0] at kb0;rw [hc1] at kb1;clear hc0 hc1;have G0:=zH (gbA (gbR w none) (.cells #[.int .i64 m.k.p,u1,.int .i64 m.c.p,u3,u4,u5,u6,.int .i64 m.rd,.bool m.bad] 58));have B0:=zH (Blk.new w 58 #[.int .i64 m.k.p,u1,.int .i64 m.c.p,u3,u4,u5,u6,.int .i64 m.rd,.bool m.bad]);obtain ⟨x0,hx0⟩:∃x:World,w.alloc (.cells #[.int .i64 m.k.p,u1,.int .i64 m.c.p,u3,u4,u5,u6,.int .i64 m.rd,.bool m.bad] 58)=x:=⟨_,rfl⟩;rw [hx0] at G0 B0;have M0:Hid (Chg (fun g=>g∈[[],F1,[],F3,F4,F5,F6,[],[]].flatten) x0 x0):=Chg.refl _ _;have PK:=zH (AggO.grow (XN o1) G0.out);have PA:=zH (AggO.grow (WF o3 o4 d34) G0.out);have P5:=zH (Zj _ o5 G0.out);have P6:=zH (Zj _ o6 G0.out);clear h hn o1 o3 o4 o5 o6 d13 d14 d15 d16 d34 d35 d36 d45 d46 d56
 go_enter Tryz.func30,Tryz.ntmps30
 have s0:=B0.out.cell 0;have s1:=B0.out.cell 1;simp only [List.getElem?_toArray,List.getElem?_cons_succ,List.getElem?_cons_zero] at s0 s1;go_wp2_with fail;clear s0 s1 hx0;refine (markKeys_k m.k _ _ k _ PK.out (by unfold KM.sz;omega) (by omega) (by omega)).mono ?_;rintro e' x1 ⟨rfl,oo,gg⟩;rw [HC0.out];have NN:=zH oo
 have EE:=zH (AggO.chg PA.out gg (fun g hg hg'=>by
  have q1:g∈F3∨g∈F4:=by simpa using hg
  have q2:g∈F1:=by simpa using hg'
  rcases q1 with h1 | h1 <;> have h2:=q2 <;> first | exact D13.out g h2 h1 | exact D14.out g h2 h1))
 clear PA;have PA:=EE;clear EE
 have EE:=zH (ZO _ P5.out gg (fun g hg hg'=>by
  have q1:g∈F5:=by simpa using hg
  have q2:g∈F1:=by simpa using hg'
  have h1:=q1;have h2:=q2
  exact D15.out g h2 h1))
 clear P5;have P5:=EE;clear EE
 have EE:=zH (ZO _ P6.out gg (fun g hg hg'=>by
  have q1:g∈F6:=by simpa using hg
  have q2:g∈F1:=by simpa using hg'
  have h1:=q1;have h2:=q2
  exact D16.out g h2 h1))
 clear P6;have P6:=EE;clear EE;clear PK;have PK:=NN;clear NN;have B1:=zH (ZP B0.out gg (fun hg=>by have:=V1.out _ hg;omega));have M1:=zH (M0.out.trans (gg.mono (fun g hg=>by simp at hg ⊢;exact .inl hg)));clear B0 M0 oo gg;have B0:=B1;have M0:=M1;clear B1 M1;have s2:=B0.out.cell 2;have s3:=B0.out.cell 3;have s4:=B0.out.cell 4;simp only [List.getElem?_toArray,List.getElem?_cons_succ,List.getElem?_cons_zero] at s2 s3 s4;go_wp2_with fail;clear s2 s3 s4;refine (UV m.c _ _ c0 _ PA.out (by unfold AM.sz;omega) (by omega) (by omega)).mono ?_;rintro e' x2 ⟨rfl,oo,gg⟩;rw [HC1.out];have NN:=zH oo
 have EE:=zH (AggO.chg PK.out gg (fun g hg hg'=>by
  have q1:g∈F1:=by simpa using hg
  have q2:g∈F3∨g∈F4:=by simpa using hg'
  have h1:=q1 <;> rcases q2 with h2 | h2 <;> first | exact D13.out g h1 h2 | exact D14.out g h1 h2))
 clear PK;have PK:=EE;clear EE
 have EE:=zH (ZO _ P5.out gg (fun g hg hg'=>by
  have q1:g∈F5:=by simpa using hg
  have q2:g∈F3∨g∈F4:=by simpa using hg'
  have h1:=q1 <;> rcases q2 with h2 | h2 <;> first | exact D35.out g h2 h1 | exact D45.out g h2 h1))
 clear P5;have P5:=EE;clear EE
 have EE:=zH (ZO _ P6.out gg (fun g hg hg'=>by
  have q1:g∈F6:=by simpa using hg
  have q2:g∈F3∨g∈F4:=by simpa using hg'
  have h1:=q1 <;> rcases q2 with h2 | h2 <;> first | exact D36.out g h2 h1 | exact D46.out g h2 h1))
 clear P6;have P6:=EE;clear EE;clear PA;have PA:=NN;clear NN;have B1:=zH (ZP B0.out gg (fun hg=>by have:=V2.out _ hg;omega));have M1:=zH (M0.out.trans (gg.mono (fun g hg=>by simp at hg ⊢;rcases hg with hg | hg <;> simp [hg])));clear B0 M0 oo gg;have B0:=B1;have M0:=M1;clear B1 M1;have s5:=B0.out.cell 5;simp only [List.getElem?_toArray,List.getElem?_cons_succ,List.getElem?_cons_zero] at s5;go_wp2_with fail;clear s5;refine (Qn m.vs _ F5 c1 _ P5.out (by unfold szA;omega) (by omega) (by omega)).mono ?_;rintro e' x3 ⟨rfl,oo,gg⟩;have NN:=zH oo
 have EE:=zH (AggO.chg PK.out gg (fun g hg hg'=>by
  have q1:g∈F1:=by simpa using hg
  have q2:g∈F5:=by simpa using hg'
  have h1:=q1;have h2:=q2
  exact D15.out g h1 h2))
 clear PK;have PK:=EE;clear EE
 have EE:=zH (AggO.chg PA.out gg (fun g hg hg'=>by
  have q1:g∈F3∨g∈F4:=by simpa using hg
  have q2:g∈F5:=by simpa using hg'
  rcases q1 with h1 | h1 <;> have h2:=q2 <;> first | exact D35.out g h1 h2 | exact D45.out g h1 h2))
 clear PA;have PA:=EE;clear EE
 have EE:=zH (ZO _ P6.out gg (fun g hg hg'=>by
  have q1:g∈F6:=by simpa using hg
  have q2:g∈F5:=by simpa using hg'
  have h1:=q1;have h2:=q2
  exact D56.out g h2 h1))
 clear P6;have P6:=EE;clear EE;clear P5;have P5:=NN;clear NN;have B1:=zH (ZP B0.out gg (fun hg=>by have:=V5.out _ hg;omega));have M1:=zH (M0.out.trans (gg.mono (fun g hg=>by simp at hg ⊢;simp [hg])));clear B0 M0 oo gg;have B0:=B1;have M0:=M1;clear B1 M1;have s6:=B0.out.cell 6;simp only [List.getElem?_toArray,List.getElem?_cons_succ,List.getElem?_cons_zero] at s6;go_wp2_with fail;clear s6;refine (Yh m.op _ F6 (c1+(auS m.vs m.vs.length:Nat)) _ P6.out (by omega) (by omega) (by omega)).mono ?_;rintro e' x4 ⟨rfl,oo,gg⟩;have NN:=zH oo
 have EE:=zH (AggO.chg PK.out gg (fun g hg hg'=>by
  have q1:g∈F1:=by simpa using hg
  have q2:g∈F6:=by simpa using hg'
  have h1:=q1;have h2:=q2
  exact D16.out g h1 h2))
 clear PK;have PK:=EE;clear EE
 have EE:=zH (AggO.chg PA.out gg (fun g hg hg'=>by
  have q1:g∈F3∨g∈F4:=by simpa using hg
  have q2:g∈F6:=by simpa using hg'
  rcases q1 with h1 | h1 <;> have h2:=q2 <;> first | exact D36.out g h1 h2 | exact D46.out g h1 h2))
 clear PA;have PA:=EE;clear EE
 have EE:=zH (ZO _ P5.out gg (fun g hg hg'=>by
  have q1:g∈F5:=by simpa using hg
  have q2:g∈F6:=by simpa using hg'
  have h1:=q1;have h2:=q2
  exact D56.out g h1 h2))
 clear P5;have P5:=EE;clear EE;clear P6;have P6:=NN;clear NN;have B1:=zH (ZP B0.out gg (fun hg=>by have:=V6.out _ hg;omega));have M1:=zH (M0.out.trans (gg.mono (fun g hg=>by simp at hg ⊢;simp [hg])));clear B0 M0 oo gg;have B0:=B1;have M0:=M1;clear B1 M1;go_wp2_with fail;go_ret;obtain ⟨t1,G1',e1,_,r1⟩:=Wd PK.out;injection e1 with e1;injection e1 with e1;injection e1 with _ e1;injection e1 with e1 _;subst e1;have hG1:=Um r1;obtain ⟨t3,t4,G3',G4',e2,_,r3,r4,_⟩:=XI PA.out;injection e2 with e2;injection e2 with e2;injection e2 with _ e2;injection e2 with e3 e2;injection e2 with e4 _;subst e3;subst e4;have hG3:=own_F3 r3;have hG4:=Um r4;rw [hG1,← HF1.out] at r1;rw [hG3,← HF3.out] at r3;rw [hG4,← HF4.out] at r4;have hM:=M0.out;have r5:=P5.out;have r6:=P6.out;rw [← HC1.out,← HC0.out] at r5 r6;rw [← HC0.out] at r3 r4;refine ⟨retI (by rw [← HC1.out,← HC0.out];rfl),Qo (m:=m.mkd k) r1 r3 r4 r5 r6 D13.out D14.out D15.out D16.out D34.out D35.out D36.out D45.out D46.out D56.out,⟨hM.os.trans G0.out.os,hM.tape.trans G0.out.tape,hM.output.trans G0.out.output,Nat.le_trans G0.out.size hM.size,fun i hi hs=>(hM.block i (Nat.lt_of_lt_of_le hi G0.out.size) hs).trans (G0.out.block i hi (by simp))⟩⟩
theorem Xt {w:World} {m:EM} {v:Value} (h:AggR w (Zd m) v):∃u1 u2 u3 u4 u5,v=.agg #[.int .i64 m.k.p,u1,.int .i64 m.c.p,u2,u3,u4,u5,.int .i64 m.rd,.bool m.bad]∧(cints m.k.al).rd w u1∧(csteps m.c.st).rd w u2∧(cints m.c.outs).rd w u3∧(cauths m.vs).rd w u4∧(cints m.op).rd w u5:=by
 obtain ⟨vs,rfl,h⟩:=h;obtain ⟨u0,vs0,rfl,h0,h⟩:=RdAll.head h;obtain ⟨u1,vs1,rfl,h1,h⟩:=RdAll.head h;obtain ⟨u2,vs2,rfl,h2,h⟩:=RdAll.head h;obtain ⟨u3,vs3,rfl,h3,h⟩:=RdAll.head h;obtain ⟨u4,vs4,rfl,h4,h⟩:=RdAll.head h;obtain ⟨u5,vs5,rfl,h5,h⟩:=RdAll.head h;obtain ⟨u6,vs6,rfl,h6,h⟩:=RdAll.head h;obtain ⟨u7,vs7,rfl,h7,h⟩:=RdAll.head h;obtain ⟨u8,vs8,rfl,h8,h⟩:=RdAll.head h;obtain rfl:=RdAll.none h;obtain rfl:=QB h0;obtain rfl:=QB h2;obtain rfl:=QB h7;obtain rfl:=cb_rd h8;exact ⟨u1,u3,u4,u5,u6,rfl,h1,h3,h4,h5,h6⟩
theorem cengine_mk {w:World} {m:EM} {u1 u2 u3 u4 u5:Value} (h1:(cints m.k.al).rd w u1) (h2:(csteps m.c.st).rd w u2) (h3:(cints m.c.outs).rd w u3) (h4:(cauths m.vs).rd w u4) (h5:(cints m.op).rd w u5):AggR w (Zd m) (.agg #[.int .i64 m.k.p,u1,.int .i64 m.c.p,u2,u3,u4,u5,.int .i64 m.rd,.bool m.bad]) :=
 ⟨_,rfl,RdAll.cons (ci_mk _ _) (RdAll.cons h1 (RdAll.cons (ci_mk _ _) (RdAll.cons h2 (RdAll.cons h3 (RdAll.cons h4 (RdAll.cons h5 (RdAll.cons (ci_mk _ _) (RdAll.cons (cb_mk _ _) (RdAll.nil _)))))))))⟩
theorem YE {w:World} {m:EM} {F:List Nat} {v:Value} (h:AggO w (Zd m) F v):∃(A1:Option Addr) (n1 s1:Nat) (A2:Option Addr) (n2 s2:Nat) (A3:Option Addr) (n3 s3:Nat) (A4:Option Addr) (n4 s4:Nat) (A5:Option Addr) (n5 s5:Nat),v=.agg #[.int .i64 m.k.p,.slice A1 n1 s1,.int .i64 m.c.p,.slice A2 n2 s2,.slice A3 n3 s3,.slice A4 n4 s4,.slice A5 n5 s5,.int .i64 m.rd,.bool m.bad]:=by
 obtain ⟨A,B,C,D,E,a,b,c,d,e,hv,_⟩:=Zo h.rd;exact ⟨A,_,a,B,_,b,C,_,c,D,_,d,E,_,e,hv⟩
theorem EM.cnt_bd {m:EM} (h:m.sz≤1048576):1≤m.cnt 1∧m.cnt 1≤16777216:=by
 have hz:m.k.al.length+(m.c.st.length+m.c.outs.length)+(m.vs.length+auS m.vs m.vs.length)+m.op.length≤1048576:=h;have hc:m.cnt 1=1+m.k.al.length+3*m.c.st.length+m.c.outs.length+(auS m.vs m.vs.length:Nat)+m.op.length:=rfl;rw [hc];omega
def EM.wf (m:EM):Prop:=m.k.wf∧m.c.wf∧(∀x∈m.vs,x.wf)∧(∀z∈m.op,i64w z)∧i64w m.rd
theorem EM.ewf {m:EM} (h:m.wf) (hz:m.sz≤1048576):ewf m:=by
 have hz:m.k.al.length+(m.c.st.length+m.c.outs.length)+(m.vs.length+auS m.vs m.vs.length)+m.op.length≤1048576:=hz;obtain ⟨h1,h2,h3,h4,h5⟩:=h;refine ⟨⟨h1.1,by omega⟩,⟨h2,by omega,by omega⟩,fun a ha => ?_,by omega,by omega,h5⟩;have h6:=len_auS m.vs a ha;have h7:a.sz=a.sh.length+a.mc.length:=rfl;exact ⟨by omega,by omega⟩
end Go.Proofs.YthaadgdeadbhkaaGreat
