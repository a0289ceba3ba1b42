/-
  AuthNew of the reference.
-/
import Derived.Test.YthaadgdeadbhkaaGreatMgFnExactCountOutcomes31
open Go.RowKit
set_option linter.unusedVariables false
set_option linter.unusedSimpArgs false
namespace Go.Proofs.YthaadgdeadbhkaaGreat
theorem ckeys_chg {w w':World} {S:Nat→Prop} {k:KM} {p:Int} {A:Option Addr} {n c:Nat} (h:AggR w (ckeys k) (.agg #[.int .i64 p,.slice A n c])) (q:Chg S w w') (hs:∀b,A=some b→¬S b.block):AggR w' (ckeys k) (.agg #[.int .i64 p,.slice A n c]):=by
  obtain ⟨A',c',e,h1,h2,h3⟩:=ZG h;injection e with e;injection e with e;injection e with e0 e;injection e with e1 _;injection e0 with e0 e0';injection e1 with e1 e2 e3;subst e1;subst e2;subst e3;subst e0';exact QY (UA (Chg.rd h3 q hs) h1 h2)
def rowG (lo gS Wn n:Nat) (L:List Int) (v:Value) (w:World):Prop:=∃A c,v=.slice A n c∧w.ownsRow lo 3 1 (.slice A n c) n (L.map (Value.int .i64))∧∀b,(Value.slice A n c).ownBlock=some b→b=gS∨Wn≤b
theorem rowG_st {lo gS Wn n:Nat} {L:List Int}:stable (rowG lo gS Wn n L):=fun v w w' ⟨A,c,h1,h2,h3⟩ hg=>⟨A,c,h1,Zj h2 hg,h3⟩
theorem rowG_chg {lo gS Wn n:Nat} {L:List Int} {v:Value} {w w':World} {S:Nat→Prop} (h:rowG lo gS Wn n L v w) (k:Chg S w w') (h1:∀y,S y→y≠gS) (h2:∀y,S y→y<Wn):rowG lo gS Wn n L v w':=by
  obtain ⟨A,c,e,ho,hb⟩:=h;refine ⟨A,c,e,Chg.own ho k (fun b hb' hs => ?_),hb⟩
  rcases hb b hb' with h3 | h3
  · exact h1 b hs h3
  · have:=h2 b hs;omega
theorem lit1X_chg {Wn:Nat} {e:TypeId} {cs:Array Value} {v:Value} {w w':World} {S:Nat→Prop} (h:lit1X Wn e cs v w) (k:Chg S w w') (h2:∀y,S y→y<Wn):lit1X Wn e cs v w':=by
  obtain ⟨g,e1,hg,B⟩:=h;exact ⟨g,e1,hg,B.chg k (fun hs=>by have:=h2 g hs;omega)⟩
def apart (v u:Value):Prop:=∀g,v.ownBlock=some g→u.ownBlock≠some g
def pairL (l:List Value):Prop:=∃(A B:Option Addr) (n c k d:Nat),l=[.agg #[.slice A n c,.slice B k d],.slice A n c,.slice B k d]
def blkP (g:Nat) (v:Value) (w:World):Prop:=∃(A B:Option Addr) (n c k d:Nat),v=.agg #[.slice A n c,.slice B k d]∧Blk w g 80 #[.slice A n c,.slice B k d]
def TSA (Wn lo gS gM g6 g7 gK n:Nat) (p x f1 d1 kk y f2 d2:Int) (s m kv:Value) (t0 t1:Int) (L1 L2:List Int):List Fact :=
  [onT 51 (isV s),onT 52 (isV (.pointer (some ⟨gK,0,none⟩))),onT 53 (isV (.int .i64 p)),onT 54 (isV (.int .i64 x)),onT 55 (isV (.pointer (some ⟨gK,0,none⟩))),onT 56 (isV (.int .i64 p)),onT 57 (isV s),onT 58 (isV (.int .i64 f1)),onT 59 (isV (.int .i64 d1)),onT 60 (lit1X Wn 3 #[.int .i64 d1]),onT 61 (rowG lo gS Wn n L1),
   onT 62 (isV m),onT 63 (isV (.pointer (some ⟨gK,0,none⟩))),onT 64 (isV (.int .i64 p)),onT 65 (isV (.pointer (some ⟨gK,0,none⟩))),onT 66 (isV (.int .i64 p)),onT 67 (isV (.int .i64 x)),onT 68 (isV kv),onT 69 (isV (.int .i64 kk)),onT 70 (isV (.int .i64 y)),onT 71 (isV (.pointer (some ⟨gK,0,none⟩))),onT 72 (isV (.int .i64 p)),onT 73 (isV m),onT 74 (isV (.int .i64 f2)),onT 75 (isV (.int .i64 d2)),onT 76 (lit1X Wn 3 #[.int .i64 d2]),onT 77 (rowG lo gM Wn n L2),
   ⟨[78,61,77],fun l _=>pairL l⟩,onT 79 (isV (.agg #[.int .i64 t0,.int .i64 t1])),⟨[78],fun l w=>blkP g6 (l.getD 0 undef) w⟩,⟨[],fun _ w=>Blk w g7 41 #[.int .i64 t0,.int .i64 t1]⟩]
section
variable {Wn lo gS gM g6 g7 gK n:Nat} {p x f1 d1 kk y f2 d2:Int} {s m kv:Value} {t0 t1:Int} {L1 L2:List Int}
theorem TSA_st:Zw (TSA Wn lo gS gM g6 g7 gK n p x f1 d1 kk y f2 d2 s m kv t0 t1 L1 L2):=by
  unfold TSA;intro F hF;simp only [List.mem_cons,List.not_mem_nil,or_false] at hF
  rcases hF with rfl | rfl | rfl | rfl | rfl | rfl | rfl | rfl | rfl | rfl | rfl | rfl | rfl | rfl | rfl | rfl | rfl | rfl | rfl | rfl | rfl | rfl | rfl | rfl | rfl | rfl | rfl | rfl | rfl | rfl | rfl
  all_goals first | exact Zh (Zb _) | exact Zh lit1X_st | exact Zh rowG_st | skip
  · exact fun l w w' h _=>h
  · rintro l w w' ⟨A,B,n,c,k,d,h1,h2⟩ hg
    exact ⟨A,B,n,c,k,d,h1,h2.grow hg⟩
  · exact fun l w w' h hg=>Blk.grow h hg
theorem Ki {f:Tmp→Value} {w w':World} {j:Nat} {S:Nat→Prop} (k:Chg S w w') (hW:∀y,S y→y<Wn) (h10:j≠10→∀y,S y→y≠gS) (h26:j≠26→∀y,S y→y≠gM) (h29:j≠29→∀y,S y→y≠g6) (h30:j≠30→∀y,S y→y≠g7) :
    keeps f w w' j (TSA Wn lo gS gM g6 g7 gK n p x f1 d1 kk y f2 d2 s m kv t0 t1 L1 L2) 0:=by
  simp only [TSA,keeps,and_true];refine ⟨fun _ h=>h,fun _ h=>h,fun _ h=>h,fun _ h=>h,fun _ h=>h,fun _ h=>h,fun _ h=>h,fun _ h=>h,fun _ h=>h,fun _ h=>lit1X_chg h k hW,fun e h=>rowG_chg h k (h10 (fun e'=>e (by omega))) hW,fun _ h=>h,fun _ h=>h,fun _ h=>h,fun _ h=>h,fun _ h=>h,fun _ h=>h,fun _ h=>h,fun _ h=>h,fun _ h=>h,fun _ h=>h,fun _ h=>h,fun _ h=>h,fun _ h=>h,fun _ h=>h,fun _ h=>lit1X_chg h k hW,fun e h=>rowG_chg h k (h26 (fun e'=>e (by omega))) hW,fun _ h=>h,fun _ h=>h,fun e h => ?_,fun e h=>Blk.chg h k (fun hs=>h30 (fun e'=>e (by omega)) _ hs rfl)⟩;obtain ⟨A,B,n,c,k',d,h1,h2⟩:=h;exact ⟨A,B,n,c,k',d,h1,h2.chg k (fun hs=>h29 (fun e'=>e (by omega)) _ hs rfl)⟩
end
set_option maxHeartbeats 2000000 in
set_option maxRecDepth 100000 in
theorem VA (k:KM) (P s a:Nat) (x:Int) (kv:Value) (w0:World) (h:AggR w0 (ckeys k) kv) (wk:kwf k) (hk:keysB k=true) (hP:k.p=P) (hx:elemB k.p x=true) (hs:s<4294967296) (ha:a≤900000) :
    Calls Tryz.prog 89 #[kv,.int .i64 x,.agg #[.int .i64 s,.int .i64 a]] w0 fun e w'=>∃v,e=.returned (.tuple #[v,.agg #[.int .i64 s,.int .i64 ((a+(k.al.length - 1)+(k.al.length - 1):Nat):Int)]])∧autF w0.heap.size (ZL k P s a x) v w'∧w0.grownBy w' none:=by
  obtain ⟨A,c,rfl,hc,hm,hI⟩:=ZG h;obtain ⟨p,al⟩:=k;simp only at hP;subst hP;obtain ⟨kf,ke,n1,n5⟩:=Yc hk;obtain ⟨p2,p101⟩:=ZC kf;simp only at n1 n5 ke kf p2 p101;obtain ⟨m,hm1⟩:∃m,al.length=m+1:=⟨al.length - 1,by omega⟩;have HM1:=zH hm1;simp only at hc hI hx ⊢;rw [hm1] at h hc hI n1 n5 ⊢;rw [Nat.add_sub_cancel];obtain ⟨w1,hw1⟩:∃y:World,(((w0.alloc (.cells #[.int .i64 P,.slice A (m+1) c] 34)).alloc (.cells #[.int .i64 s,.int .i64 a] 41)).alloc (.cells #[.slice none 0 0,.slice none 0 0] 80)).alloc (.cells #[.int .i64 0,.int .i64 0] 41)=y:=⟨_,rfl⟩;have G1:Hid (w0.grownBy w1 none):=by rw [← hw1];exact gbA (gbA (gbA (gbA (gbR _ _) _) _) _) _
  have z1:Hid (w1.heap.size=w0.heap.size+4):=by rw [← hw1];exact zH (by simp)
  have D0:Hid (Blk w1 w0.heap.size 34 #[.int .i64 P,.slice A (m+1) c]):=by rw [← hw1];exact (((Blk.new w0 _ _).grow (gbA (gbR _ _) _)).grow (gbA (gbR _ _) _)).grow (gbA (gbR _ _) _)
  have D1:Hid (Blk w1 (w0.heap.size+1) 41 #[.int .i64 s,.int .i64 a]):=by rw [← hw1];exact ((Blk.new' _ _ _ _ (by simp)).grow (gbA (gbR _ _) _)).grow (gbA (gbR _ _) _)
  have D2:Hid (Blk w1 (w0.heap.size+1+1) 80 #[.slice none 0 0,.slice none 0 0]):=by rw [← hw1];exact (Blk.new' _ _ _ _ (by simp)).grow (gbA (gbR _ _) _)
  have D3:Hid (Blk w1 (w0.heap.size+1+1+1) 41 #[.int .i64 0,.int .i64 0]):=by rw [← hw1];exact Blk.new' _ _ _ _ (by simp)
  have LA:Hid (∀b,A=some b→b.block<w0.heap.size):=zH (fun b hb=>by
    obtain ⟨b',o',e',hb',_⟩:=hI.at_ (show 0<m+1 by omega)
    rw [hb] at e';injection e' with e';rw [e'];exact hb')
  have HK:=zH (AggR.grow h G1.out);have IK:=zH (hI.grow G1.out);have WK:=zH wk;have KB:=zH hk;have EX:=zH hx;have KE:=zH ke;have KF:=zH kf;clear h hI wk hk hx ke kf hm1
  go_enter Tryz.func89,Tryz.ntmps89
  have k0:=D0.out.cell 0;have k1:=D0.out.cell 1;have t0:=D1.out.cell 0;have t1:=D1.out.cell 1;simp at k0 k1 t0 t1;go_wp2_with fail;clear hw1 k0 k1 t0 t1;refine (YP ⟨P,al⟩ _ _ HK.out WK.out).mono ?_;rintro e w2 ⟨rfl,g2⟩;rw [KB.out];have D0':=zH (D0.out.grow g2);have D1':=zH (D1.out.grow g2);have Q2:=zH g2;have k0:=D0'.out.cell 0;have k1:=D0'.out.cell 1;have t0:=D1'.out.cell 0;have t1:=D1'.out.cell 1;simp at k0 k1 t0 t1;clear g2;go_wp2_with fail;refine (ZN P x _ (by omega)).mono ?_;rintro e w3 ⟨rfl,rfl⟩;rw [EX.out];go_wp2_with fail;refine (Ky s a _ hs ha).mono ?_;rintro e w3 ⟨rfl,g3⟩;have g13:=gbT Q2.out g3;clear k0 k1 t0 t1 D0' D1' g3 Q2;have D0':=zH (D0.out.grow g13);have D1':=zH (D1.out.grow g13);have D2':=zH (D2.out.grow g13);have D3':=zH (D3.out.grow g13);have IK':=zH (IK.out.grow g13);have HK':=zH (AggR.grow HK.out g13);have G3:=zH (gbT G1.out g13);have z3:w0.heap.size+4≤w3.heap.size:=by have:=z1.out;have:=g13.size;omega
  clear g13 D0 D1 D2 D3 IK HK G1 z1;have D0:=D0';have D1:=D1';have em:((m+1:Nat):Int) - 1=(m:Int):=by omega
  have k0:=D0.out.cell 0;have k1:=D0.out.cell 1;have t0:=D1.out.cell 0;have t1:=D1.out.cell 1;simp at k0 k1 t0 t1;go_wp2_with fail;clear k0 k1 t0 t1 D0 D1;refine (Vn s a P m _ hs (by omega) (by omega) (by omega) (by omega)).mono ?_;rintro e w4 ⟨v4,rfl,o4,g4⟩;obtain ⟨A1,c1,rfl,_,_⟩:=ZB o4;obtain ⟨T1,hT1⟩:∃T,a+m=T:=⟨_,rfl⟩;rw [hT1];have z4:=g4.size;obtain ⟨wp,hwp⟩:∃y:World,w4.alloc (.cells #[.int .i64 s,.int .i64 (T1:Int)] 41)=y:=⟨_,rfl⟩;have ga:w4.grownBy wp none:=by rw [← hwp];exact gbA (gbR _ _) _
  have gp:=gbT g4 ga;have D0:=zH (D0'.out.grow gp);have D1:=zH (D1'.out.grow gp);have D2:=zH (D2'.out.grow gp);have D3:=zH (D3'.out.grow gp);have IK:=zH (IK'.out.grow gp);have HK:=zH (AggR.grow HK'.out gp);have GP:=zH (gbT G3.out gp);have O4:=zH (ZE (Zj o4 ga) z3);have U4:Hid (∀g,(Value.slice A1 m c1).ownBlock=some g→g<wp.heap.size):=zH (fun g hg=>(O4.out.lt g hg).2);have zp:w0.heap.size+4≤wp.heap.size:=by have:=ga.size;omega
  have HT1:=zH hT1;have bT1:T1≤900004:=by omega
  have k0:=(D0'.out.grow g4).cell 0;have k1:=(D0'.out.grow g4).cell 1;simp at k0 k1;have q0:=fun o=>kA k0 o;have q1:=fun o=>kA k1 o;have HWP:=zH hwp;clear o4 g4 ga gp hwp hT1 D0' D1' D2' D3' IK' HK' G3;go_wp2_with fail;rw [HWP.out];clear k0 k1 q0 q1 HWP;refine (Vn s T1 P m wp hs (by omega) (by omega) (by omega) (by omega)).mono ?_;rintro e w5 ⟨v5,rfl,o5,g5⟩;obtain ⟨A2,c2,rfl,_,_⟩:=ZB o5;obtain ⟨T2,hT2⟩:∃T,T1+m=T:=⟨_,rfl⟩;rw [hT2];obtain ⟨wq,hwq⟩:∃y:World,w5.alloc (.cells #[.int .i64 s,.int .i64 (T2:Int)] 41)=y:=⟨_,rfl⟩;have ga:w5.grownBy wq none:=by rw [← hwq];exact gbA (gbR _ _) _
  have gp:=gbT g5 ga;have B3:=zH (D0.out.grow gp);have B6:=zH (D2.out.grow gp);have B7:=zH (D3.out.grow gp);have IKq:=zH (IK.out.grow gp);have HKq:=zH (AggR.grow HK.out gp);have GQ:=zH (gbT GP.out gp);have O4q:=zH (Zj O4.out gp);have O5q:=zH (Zj o5 ga);have BT:Hid (Blk wq w5.heap.size 41 #[.int .i64 s,.int .i64 (T2:Int)]):=by rw [← hwq];exact zH (Blk.new _ _ _)
  have zq:wp.heap.size≤wq.heap.size:=gp.size;have z5:=g5.size;have z5q:w5.heap.size<wq.heap.size:=by rw [← hwq];simp
  have U5:Hid (∀g,(Value.slice A2 m c2).ownBlock=some g→wp.heap.size≤g∧g<w5.heap.size):=zH (fun g hg=>o5.lt g hg);have HT2:=zH hT2;have k0:=(D0.out.grow g5).cell 0;have k1:=(D0.out.grow g5).cell 1;simp at k0 k1;have q0:=fun o=>kA k0 o;have q1:=fun o=>kA k1 o;have HWQ:=zH hwq;clear o5 g5 ga gp hwq hT2 D0 D1 D2 D3 IK HK GP O4;go_wp2_with fail;rw [HWQ.out];clear k0 k1 q0 q1 HWQ;obtain ⟨gT,hgT⟩:∃g,w5.heap.size=g:=⟨_,rfl⟩;rw [hgT] at BT z5 z5q U5 ⊢;obtain ⟨L1,hL1⟩:∃L,tapeL s a P m=L:=⟨_,rfl⟩;obtain ⟨L2,hL2⟩:∃L,tapeL s T1 P m=L:=⟨_,rfl⟩;have HL1:=zH hL1;have HL2:=zH hL2;have EL1:Hid (elemsB (P:Int) L1=true):=by rw [← hL1];exact zH (VK KF.out (by omega))
  have EL2:Hid (elemsB (P:Int) L2=true):=by rw [← hL2];exact zH (VK KF.out (by omega))
  rw [hL1] at O4q;rw [hL2] at O5q;obtain ⟨f1,hf1⟩:∃z,fsum (P:Int) L1=z:=⟨_,rfl⟩;obtain ⟨f2,hf2⟩:∃z,fsum (P:Int) L2=z:=⟨_,rfl⟩;obtain ⟨kk,hkk⟩:∃z,fsum (P:Int) al=z:=⟨_,rfl⟩;obtain ⟨d1,hd1⟩:∃z,(x - f1) % (P:Int)=z:=⟨_,rfl⟩;obtain ⟨y,hy⟩:∃z,(x*kk) % (P:Int)=z:=⟨_,rfl⟩;obtain ⟨d2,hd2⟩:∃z,(y - f2) % (P:Int)=z:=⟨_,rfl⟩;have HF1:=zH hf1;have HF2:=zH hf2;have HKK:=zH hkk;have HD1:=zH hd1;have HY:=zH hy;have HD2:=zH hd2;have EF1:Hid (elemB (P:Int) f1=true):=by rw [← hf1];exact zH (Yl KF.out _)
  have EF2:Hid (elemB (P:Int) f2=true):=by rw [← hf2];exact zH (Yl KF.out _)
  have EKK:Hid (elemB (P:Int) kk=true):=by rw [← hkk];exact zH (Yl KF.out _)
  have EY:Hid (elemB (P:Int) y=true):=by rw [← hy];exact zH (Yg KF.out _)
  obtain ⟨gS,hgS⟩:∃g,(Value.slice A1 m c1).ownBlock.getD wq.heap.size=g:=⟨_,rfl⟩;obtain ⟨gM,hgM⟩:∃g,(Value.slice A2 m c2).ownBlock.getD wq.heap.size=g:=⟨_,rfl⟩
  have gS1:w0.heap.size+4≤gS∧(∀g,(Value.slice A1 m c1).ownBlock=some g→g=gS∧gS<wp.heap.size)∧gS≠gT∧(gS<wp.heap.size∨gS=wq.heap.size):=by
    cases ho:(Value.slice A1 m c1).ownBlock with
    | none=>rw [ho] at hgS;simp at hgS;subst hgS;exact ⟨by omega,by simp,by omega,.inr rfl⟩
    | some g=>rw [ho] at hgS;simp at hgS;subst hgS;have h1:=(O4q.out.lt g ho).1;have h2:=U4.out g ho;exact ⟨h1,fun g' hg'=>by injection hg' with hg';exact ⟨hg'.symm,h2⟩,by omega,.inl h2⟩
  have gM1:w0.heap.size+4≤gM∧(∀g,(Value.slice A2 m c2).ownBlock=some g→g=gM∧gM<wq.heap.size)∧gM≠gT∧wp.heap.size≤gM:=by
    cases ho:(Value.slice A2 m c2).ownBlock with
    | none=>rw [ho] at hgM;simp at hgM;subst hgM;exact ⟨by omega,by simp,by omega,by omega⟩
    | some g=>rw [ho] at hgM;simp at hgM;subst hgM;obtain ⟨h1,h2⟩:=U5.out g ho;exact ⟨by omega,fun g' hg'=>by injection hg' with hg';exact ⟨hg'.symm,by omega⟩,by omega,h1⟩
  have GS1:=zH gS1.2.1;have GM1:=zH gM1.2.1;have gSl:=gS1.1;have gMl:=gM1.1;have gST:=gS1.2.2.1;have gSW:=gS1.2.2.2;have gMT:=gM1.2.2.1;have gMp:=gM1.2.2.2;clear gS1 gM1 hgS hgM hgT hf1 hf2 hkk hd1 hy hd2 hL1 hL2 em
  have HX:Hid (∀w4,Chg (fun b=>∃s,(s,b)∈[(10,gS),(26,gM),(29,w0.heap.size+1+1),(30,w0.heap.size+1+1+1)]) wq.drew w4→Chg (fun b=>b=gS∨b=gM∨b=w0.heap.size+1+1∨b=w0.heap.size+1+1+1) wq w4):=zH (fun w4 hG=>chgDr (hG.mono (fun b hb=>by
    obtain ⟨s,hs⟩:=hb;simp only [List.mem_cons,List.not_mem_nil,or_false,Prod.mk.injEq] at hs
    rcases hs with hs | hs | hs | hs
    · exact .inl hs.2
    · exact .inr (.inl hs.2)
    · exact .inr (.inr (.inl hs.2))
    · exact .inr (.inr (.inr hs.2)))))
  refine region_reg7 (TSA wq.heap.size (w0.heap.size+4) gS gM (w0.heap.size+1+1) (w0.heap.size+1+1+1) w0.heap.size (m+1) P x f1 d1 kk y f2 d2 (.slice A1 m c1) (.slice A2 m c2) (.agg #[.int .i64 P,.slice A (m+1) c]) s T2 (L1 ++ [d1]) (L2 ++ [d2])) [⟨10,61,26,77,apart⟩] [(10,gS),(26,gM),(29,w0.heap.size+1+1),(30,w0.heap.size+1+1+1)] (by kernel_rfl) (by kernel_rfl) (by kernel_rfl) (by kernel_rfl) TSA_st ?_ ?_
  · simp only [hops7,and_true]
    refine ⟨?_, ?_, ?_, ?_, ?_, ?_, ?_, ?_, ?_, ?_, ?_, ?_, ?_, ?_, ?_, ?_, ?_, ?_, ?_, ?_, ?_, ?_, ?_, ?_, ?_, ?_, ?_, ?_, ?_, ?_, ?_⟩;rotate_left 7
    · refine XJ rfl ?_
      intro f w4 hG pre old hd
      have O1:w4.ownsRow (w0.heap.size+4) 3 1 (.slice A1 m c1) m (L1.map (Value.int .i64)):=by
        refine Chg.own (S:=fun b=>b≠gS) (Zj O4q.out (gbD (gbR wq none))) ⟨hG.os,hG.tape,hG.output,hG.size,fun i hi hs => ?_⟩ (fun b hb hs=>hs (GS1.out b hb).1);have hi':i=gS:=Classical.not_not.1 hs;subst hi';simp at hi
        exact pre _ (by simpa using hi) (fun s hs=>by
          simp only [List.mem_cons,List.not_mem_nil,or_false,Prod.mk.injEq] at hs
          rcases hs with hs | hs | hs | hs
          · rw [hs.1];kernel_rfl
          · omega
          · omega
          · omega)
      have I1:=zH (show Ints w4 A1 m L1 from Rd.ofOwn O1);clear O1;simp [depsF,bindE,List.filter_cons,Zz,Zq,Zr,Zs,ZA,ZW,TSA,fAt,Zy,isV] at hd;simp [puts,dsts,Act.put,hd];clear hd hG pre old;go_wp2_with fail;refine (XV P A1 m c1 L1 _ EL1.out I1.out (by omega)).mono ?_;rintro e w10 ⟨rfl,rfl⟩;rw [HF1.out];go_wp2_with fail;exact ⟨_,rfl,by simp [TSA,fAt,Zy,Zn,isV],Or.inl (gbR _ _)⟩
    · refine XJ rfl ?_
      intro f w4 hG pre old hd;simp [depsF,bindE,List.filter_cons,Zz,Zq,Zr,Zs,ZA,ZW,TSA,fAt,Zy,isV] at hd;simp [puts,dsts,Act.put,hd];clear hd hG pre old;go_wp2_with fail;refine (WD P x f1 _ EX.out EF1.out).mono ?_;rintro e w10 ⟨rfl,g10⟩;rw [HD1.out];have G10:=zH g10;clear g10;go_wp2_with fail;exact ⟨_,rfl,by simp [TSA,fAt,Zy,Zn,isV],Or.inl G10.out⟩
    · refine XJ rfl ?_
      intro f w4 hG pre old hd;have hz4:=hG.size;simp at hz4;simp [depsF,bindE,List.filter_cons,Zz,Zq,Zr,Zs,ZA,ZW,TSA,fAt,Zy,isV] at hd;simp [puts,dsts,Act.put,hd];have E9:=zH hd;clear hd hG pre old;go_wp2_with fail;exact ⟨_,rfl,⟨_,rfl,hz4,by first | exact Blk.new _ _ _ | (rw [← E9.out];exact Blk.new _ _ _)⟩,Or.inl (gbA (gbR _ _) _)⟩
    · intro f w4 hG pre old hd _
      have O1:w4.ownsRow (w0.heap.size+4) 3 1 (.slice A1 m c1) m (L1.map (Value.int .i64)):=by
        refine Chg.own (S:=fun b=>b≠gS) (Zj O4q.out (gbD (gbR wq none))) ⟨hG.os,hG.tape,hG.output,hG.size,fun i hi hs => ?_⟩ (fun b hb hs=>hs (GS1.out b hb).1);have hi':i=gS:=Classical.not_not.1 hs;subst hi';simp at hi
        exact pre _ (by simpa using hi) (fun s hs=>by
          simp only [List.mem_cons,List.not_mem_nil,or_false,Prod.mk.injEq] at hs
          rcases hs with hs | hs | hs | hs
          · rw [hs.1];kernel_rfl
          · omega
          · omega
          · omega)
      have hz4:=hG.size;simp at hz4;clear hG pre old;simp [depsF,bindE,List.filter_cons,Zz,Zq,Zr,Zs,ZA,ZW,TSA,fAt,Zy,isV] at hd;obtain ⟨e1,⟨g9,e2,hg9,B9⟩,-⟩:=hd;have n0:=B9.cell 0;simp at n0;simp [puts,dsts,Act.put,e1,e2];refine Xt w4 ZZ rfl (.tmp 51) (.tmp 60) rfl (w0.heap.size+4) _ _ _ O1 rfl ⟨g9,0,none⟩ 1 1 [.int .i64 d1] rfl rfl ?_ (by simp [Value.oneCell']) (by unfold maxLen;omega) (by omega) (by omega) ?_
      · intro j u hu
        have hadd:(⟨g9,0,none⟩:Addr).add j=⟨g9,j,none⟩:=by unfold Addr.add;split <;> simp_all
        rw [hadd]
        match j,hu with
        | 0,hu=>simp at hu;rw [n0,hu]
        | j+1,hu=>simp at hu
      intro v' w6 o8 g8 k8;obtain ⟨A8,c8,rfl,_,_⟩:=ZB o8
      have R8:rowG (w0.heap.size+4) gS wq.heap.size (m+1) (L1 ++ [d1]) (.slice A8 (m+1) c8) w6:=⟨A8,c8,rfl,by rw [List.map_append];exact o8,fun b hb=>by
        rcases k8 b hb with h6 | h6
        · exact .inl (GS1.out b h6.symm).1
        · exact .inr (by omega)⟩
      have Z8:w4.grownBy w6 none∨(Chg (fun b=>wq.heap.size≤b∨(10,b)∈[(10,gS),(26,gM),(29,w0.heap.size+1+1),(30,w0.heap.size+1+1+1)]) w4 w6∧keeps f w4 w6 10 (TSA wq.heap.size (w0.heap.size+4) gS gM (w0.heap.size+1+1) (w0.heap.size+1+1+1) w0.heap.size (m+1) P x f1 d1 kk y f2 d2 (.slice A1 m c1) (.slice A2 m c2) (.agg #[.int .i64 P,.slice A (m+1) c]) s T2 (L1 ++ [d1]) (L2 ++ [d2])) 0):=by
        cases ho:(Value.slice A1 m c1).ownBlock with
        | none=>rw [ho] at g8;exact .inl g8
        | some b =>
          rw [ho] at g8;obtain ⟨rfl,hlt⟩:=GS1.out b ho;have hc:Chg (fun z=>z=b) w4 w6:=Chg.of g8 (fun z hz=>by injection hz with hz;exact hz.symm);exact .inr ⟨hc.mono (fun z hz=>by subst hz;exact .inr (by simp)),Ki hc (fun z hz=>by subst hz;omega) (fun e z hz=>by subst hz;omega) (fun e z hz=>by subst hz;omega) (fun e z hz=>by subst hz;omega) (fun e z hz=>by subst hz;omega)⟩
      have P8:prHop (TSA wq.heap.size (w0.heap.size+4) gS gM (w0.heap.size+1+1) (w0.heap.size+1+1+1) w0.heap.size (m+1) P x f1 d1 kk y f2 d2 (.slice A1 m c1) (.slice A2 m c2) (.agg #[.int .i64 P,.slice A (m+1) c]) s T2 (L1 ++ [d1]) (L2 ++ [d2])) [⟨10,61,26,77,apart⟩] f w4 10 (.slice A8 (m+1) c8):=by
        intro p hp;simp only [List.mem_cons,List.not_mem_nil,or_false] at hp;subst hp;refine ⟨fun _ ⟨A7,c7,e7,o7,b7⟩ => ?_,fun e=>absurd e (by decide)⟩;have e7:f 77=_:=e7;show apart _ (f 77);rw [e7];intro b hb hb';have h1:=(o7.lt b hb').2;have h2:=b7 b hb';exact (k8 b hb).elim (fun h3=>by obtain ⟨h4,h5⟩:=GS1.out b h3.symm;omega) (fun h3=>by omega)
      have P8:=zH P8;have R8:=zH R8;have Z8:=zH Z8;clear o8 g8 k8 B9 n0 O1;go_wp2_with fail;exact ⟨_,rfl,R8.out,Z8.out.imp id (fun h=>⟨h.1.mono (fun z hz=>by simpa using hz),h.2⟩),P8.out⟩
    rotate_left 7
    · refine XJ rfl ?_
      intro f w4 hG pre old hd;have hGx:=HX.out w4 hG;have K4:=zH (ckeys_chg HKq.out hGx (fun b hb e=>by have:=LA.out b hb;omega));simp [depsF,bindE,List.filter_cons,Zz,Zq,Zr,Zs,ZA,ZW,TSA,fAt,Zy,isV] at hd;simp [puts,dsts,Act.put,hd];clear hd hG pre old hGx;go_wp2_with fail;refine (QA ⟨P,al⟩ _ _ K4.out KB.out).mono ?_;rintro e w10 ⟨rfl,g10⟩;have G10:=zH g10;clear g10;have e9:fsum (KM.mk (P:Int) al).p (KM.mk (P:Int) al).al=kk:=HKK.out;rw [e9];clear e9;go_wp2_with fail;exact ⟨_,rfl,by simp [TSA,fAt,Zy,Zn,isV],Or.inl G10.out⟩
    · refine XJ rfl ?_
      intro f w4 hG pre old hd;simp [depsF,bindE,List.filter_cons,Zz,Zq,Zr,Zs,ZA,ZW,TSA,fAt,Zy,isV] at hd;simp [puts,dsts,Act.put,hd];clear hd hG pre old;go_wp2_with fail;refine (WE P x kk _ EX.out EKK.out).mono ?_;rintro e w10 ⟨rfl,g10⟩;rw [HY.out];have G10:=zH g10;clear g10;go_wp2_with fail;exact ⟨_,rfl,by simp [TSA,fAt,Zy,Zn,isV],Or.inl G10.out⟩
    rotate_left 3
    · refine XJ rfl ?_
      intro f w4 hG pre old hd
      have O2:w4.ownsRow (w0.heap.size+4) 3 1 (.slice A2 m c2) m (L2.map (Value.int .i64)):=by
        refine Chg.own (S:=fun b=>b≠gM) (Zj (ZE O5q.out zp) (gbD (gbR wq none))) ⟨hG.os,hG.tape,hG.output,hG.size,fun i hi hs => ?_⟩ (fun b hb hs=>hs (GM1.out b hb).1);have hi':i=gM:=Classical.not_not.1 hs;subst hi';simp at hi
        exact pre _ (by simpa using hi) (fun s hs=>by
          simp only [List.mem_cons,List.not_mem_nil,or_false,Prod.mk.injEq] at hs
          rcases hs with hs | hs | hs | hs
          · omega
          · rw [hs.1];kernel_rfl
          · omega
          · omega)
      have I1:=zH (show Ints w4 A2 m L2 from Rd.ofOwn O2);clear O2;simp [depsF,bindE,List.filter_cons,Zz,Zq,Zr,Zs,ZA,ZW,TSA,fAt,Zy,isV] at hd;simp [puts,dsts,Act.put,hd];clear hd hG pre old;go_wp2_with fail;refine (XV P A2 m c2 L2 _ EL2.out I1.out (by omega)).mono ?_;rintro e w10 ⟨rfl,rfl⟩;rw [HF2.out];go_wp2_with fail;exact ⟨_,rfl,by simp [TSA,fAt,Zy,Zn,isV],Or.inl (gbR _ _)⟩
    · refine XJ rfl ?_
      intro f w4 hG pre old hd;simp [depsF,bindE,List.filter_cons,Zz,Zq,Zr,Zs,ZA,ZW,TSA,fAt,Zy,isV] at hd;simp [puts,dsts,Act.put,hd];clear hd hG pre old;go_wp2_with fail;refine (WD P y f2 _ EY.out EF2.out).mono ?_;rintro e w10 ⟨rfl,g10⟩;rw [HD2.out];have G10:=zH g10;clear g10;go_wp2_with fail;exact ⟨_,rfl,by simp [TSA,fAt,Zy,Zn,isV],Or.inl G10.out⟩
    · refine XJ rfl ?_
      intro f w4 hG pre old hd;have hz4:=hG.size;simp at hz4;simp [depsF,bindE,List.filter_cons,Zz,Zq,Zr,Zs,ZA,ZW,TSA,fAt,Zy,isV] at hd;simp [puts,dsts,Act.put,hd];have E9:=zH hd;clear hd hG pre old;go_wp2_with fail;exact ⟨_,rfl,⟨_,rfl,hz4,by first | exact Blk.new _ _ _ | (rw [← E9.out];exact Blk.new _ _ _)⟩,Or.inl (gbA (gbR _ _) _)⟩
    · intro f w4 hG pre old hd _
      have O2:w4.ownsRow (w0.heap.size+4) 3 1 (.slice A2 m c2) m (L2.map (Value.int .i64)):=by
        refine Chg.own (S:=fun b=>b≠gM) (Zj (ZE O5q.out zp) (gbD (gbR wq none))) ⟨hG.os,hG.tape,hG.output,hG.size,fun i hi hs => ?_⟩ (fun b hb hs=>hs (GM1.out b hb).1);have hi':i=gM:=Classical.not_not.1 hs;subst hi';simp at hi
        exact pre _ (by simpa using hi) (fun s hs=>by
          simp only [List.mem_cons,List.not_mem_nil,or_false,Prod.mk.injEq] at hs
          rcases hs with hs | hs | hs | hs
          · omega
          · rw [hs.1];kernel_rfl
          · omega
          · omega)
      have hz4:=hG.size;simp at hz4;clear hG pre old;simp [depsF,bindE,List.filter_cons,Zz,Zq,Zr,Zs,ZA,ZW,TSA,fAt,Zy,isV] at hd;obtain ⟨e1,⟨g9,e2,hg9,B9⟩,-⟩:=hd;have n0:=B9.cell 0;simp at n0;simp [puts,dsts,Act.put,e1,e2];refine Xt w4 ZZ rfl (.tmp 62) (.tmp 76) rfl (w0.heap.size+4) _ _ _ O2 rfl ⟨g9,0,none⟩ 1 1 [.int .i64 d2] rfl rfl ?_ (by simp [Value.oneCell']) (by unfold maxLen;omega) (by omega) (by omega) ?_
      · intro j u hu
        have hadd:(⟨g9,0,none⟩:Addr).add j=⟨g9,j,none⟩:=by unfold Addr.add;split <;> simp_all
        rw [hadd]
        match j,hu with
        | 0,hu=>simp at hu;rw [n0,hu]
        | j+1,hu=>simp at hu
      intro v' w6 o8 g8 k8;obtain ⟨A8,c8,rfl,_,_⟩:=ZB o8
      have R8:rowG (w0.heap.size+4) gM wq.heap.size (m+1) (L2 ++ [d2]) (.slice A8 (m+1) c8) w6:=⟨A8,c8,rfl,by rw [List.map_append];exact o8,fun b hb=>by
        rcases k8 b hb with h6 | h6
        · exact .inl (GM1.out b h6.symm).1
        · exact .inr (by omega)⟩
      have Z8:w4.grownBy w6 none∨(Chg (fun b=>wq.heap.size≤b∨(26,b)∈[(10,gS),(26,gM),(29,w0.heap.size+1+1),(30,w0.heap.size+1+1+1)]) w4 w6∧keeps f w4 w6 26 (TSA wq.heap.size (w0.heap.size+4) gS gM (w0.heap.size+1+1) (w0.heap.size+1+1+1) w0.heap.size (m+1) P x f1 d1 kk y f2 d2 (.slice A1 m c1) (.slice A2 m c2) (.agg #[.int .i64 P,.slice A (m+1) c]) s T2 (L1 ++ [d1]) (L2 ++ [d2])) 0):=by
        cases ho:(Value.slice A2 m c2).ownBlock with
        | none=>rw [ho] at g8;exact .inl g8
        | some b =>
          rw [ho] at g8;obtain ⟨rfl,hlt⟩:=GM1.out b ho;have hc:Chg (fun z=>z=b) w4 w6:=Chg.of g8 (fun z hz=>by injection hz with hz;exact hz.symm);exact .inr ⟨hc.mono (fun z hz=>by subst hz;exact .inr (by simp)),Ki hc (fun z hz=>by subst hz;omega) (fun e z hz=>by subst hz;omega) (fun e z hz=>by subst hz;omega) (fun e z hz=>by subst hz;omega) (fun e z hz=>by subst hz;omega)⟩
      have P8:prHop (TSA wq.heap.size (w0.heap.size+4) gS gM (w0.heap.size+1+1) (w0.heap.size+1+1+1) w0.heap.size (m+1) P x f1 d1 kk y f2 d2 (.slice A1 m c1) (.slice A2 m c2) (.agg #[.int .i64 P,.slice A (m+1) c]) s T2 (L1 ++ [d1]) (L2 ++ [d2])) [⟨10,61,26,77,apart⟩] f w4 26 (.slice A8 (m+1) c8):=by
        intro p hp;simp only [List.mem_cons,List.not_mem_nil,or_false] at hp;subst hp;refine ⟨fun e=>absurd e (by decide),fun _ ⟨A7,c7,e7,o7,b7⟩ => ?_⟩;have e7:f 61=_:=e7;show apart (f 61) _;rw [e7];intro b hb' hb;have h1:=(o7.lt b hb').2;have h2:=b7 b hb';exact (k8 b hb).elim (fun h3=>by obtain ⟨h4,h5⟩:=GM1.out b h3.symm;omega) (fun h3=>by omega)
      have P8:=zH P8;have R8:=zH R8;have Z8:=zH Z8;clear o8 g8 k8 B9 n0 O2;go_wp2_with fail;exact ⟨_,rfl,R8.out,Z8.out.imp id (fun h=>⟨h.1.mono (fun z hz=>by simpa using hz),h.2⟩),P8.out⟩
    · refine XJ rfl ?_
      intro f w4 hG pre old hd;simp [depsF,bindE,List.filter_cons,Zz,Zq,Zr,Zs,ZA,ZW,TSA,fAt,Zy,isV] at hd;obtain ⟨⟨A8,c8,e1,_⟩,⟨A9,c9,e2,_⟩⟩:=hd;simp [puts,dsts,Act.put,e1,e2];clear hG pre old;go_wp2_with fail;exact ⟨_,rfl,⟨A8,A9,m+1,c8,m+1,c9,by simp [TSA,fAt,Zn,upd,e1,e2]⟩,Or.inl (gbR _ _)⟩
    rotate_left 1
    · refine XJ rfl ?_
      intro f w4 hG pre old hd;simp [depsF,bindE,List.filter_cons,Zz,Zq,Zr,Zs,ZA,ZW,TSA,fAt,Zy,isV] at hd;have h27:pairL [f 78,f 61,f 77]:=hd.1;obtain ⟨A8,A9,n8,c8,n9,c9,e8⟩:=h27;simp only [List.cons.injEq,and_true] at e8;obtain ⟨e78,e61,e77⟩:=e8
      have R4:Blk w4 (w0.heap.size+1+1) 80 #[.slice none 0 0,.slice none 0 0]:=by
        have h9:=B6.out;unfold Blk at h9 ⊢;rw [← h9]
        exact pre _ (by have:=B6.out.lt;simpa using this) (fun s hs=>by
          simp only [List.mem_cons,List.not_mem_nil,or_false,Prod.mk.injEq] at hs
          rcases hs with hs | hs | hs | hs
          · omega
          · omega
          · rw [hs.1];kernel_rfl
          · omega)
      have f0:=R4.frozen 0;have f1':=R4.frozen 1;have b0:=R4.cell 0;have b1:=R4.cell 1;simp at b0 b1;have CH:=Za (w0.heap.size+1+1) [.slice A8 n8 c8,.slice A9 n9 c9] 0 w4;have RS:=Zd R4 [.slice A8 n8 c8,.slice A9 n9 c9] rfl;have hK:=(Ki (Wn:=wq.heap.size) (lo:=w0.heap.size+4) (gS:=gS) (gM:=gM) (g6:=w0.heap.size+1+1) (g7:=w0.heap.size+1+1+1) (gK:=w0.heap.size) (n:=m+1) (p:=P) (x:=x) (f1:=f1) (d1:=d1) (kk:=kk) (y:=y) (f2:=f2) (d2:=d2) (s:=.slice A1 m c1) (m:=.slice A2 m c2) (kv:=.agg #[.int .i64 P,.slice A (m+1) c]) (t0:=s) (t1:=T2) (L1:=L1 ++ [d1]) (L2:=L2 ++ [d2]) (f:=f) (j:=29) CH (fun z hz=>by have hz:z=_:=hz;subst hz;omega) (fun e z hz=>by have hz:z=_:=hz;subst hz;omega) (fun e z hz=>by have hz:z=_:=hz;subst hz;omega) (fun e z hz=>by have hz:z=_:=hz;subst hz;omega) (fun e z hz=>by have hz:z=_:=hz;subst hz;omega));have CM:=CH.mono (T:=fun b=>wq.heap.size≤b∨(29,b)∈[(10,gS),(26,gM),(29,w0.heap.size+1+1),(30,w0.heap.size+1+1+1)]) (fun z hz=>by have hz:z=_:=hz;subst hz;exact .inr (by simp));simp only [Zm,Nat.zero_add,Nat.reduceAdd] at hK CM;have HK9:=zH hK;have HCM:=zH CM;have HRS:=zH RS;clear CH hK CM RS R4 hd hG pre old;simp [puts,dsts,Act.put,e78];go_wp2_with fail;exact ⟨rfl,⟨.bool false,A8,A9,n8,c8,n9,c9,e78,HRS.out⟩,Or.inr ⟨by simpa using HCM.out,HK9.out⟩⟩
    · refine XJ rfl ?_
      intro f w4 hG pre old hd;simp [depsF,bindE,List.filter_cons,Zz,Zq,Zr,Zs,ZA,ZW,TSA,fAt,Zy,isV] at hd;have e79:=hd.1
      have R4:Blk w4 (w0.heap.size+1+1+1) 41 #[.int .i64 0,.int .i64 0]:=by
        have h9:=B7.out;unfold Blk at h9 ⊢;rw [← h9]
        exact pre _ (by have:=B7.out.lt;simpa using this) (fun s hs=>by
          simp only [List.mem_cons,List.not_mem_nil,or_false,Prod.mk.injEq] at hs
          rcases hs with hs | hs | hs | hs
          · omega
          · omega
          · omega
          · rw [hs.1];kernel_rfl)
      have f0:=R4.frozen 0;have f1':=R4.frozen 1;have b0:=R4.cell 0;have b1:=R4.cell 1;simp at b0 b1;have CH:=Za (w0.heap.size+1+1+1) [.int .i64 s,.int .i64 T2] 0 w4;have RS:=Zd R4 [.int .i64 s,.int .i64 T2] rfl;have hK:=(Ki (Wn:=wq.heap.size) (lo:=w0.heap.size+4) (gS:=gS) (gM:=gM) (g6:=w0.heap.size+1+1) (g7:=w0.heap.size+1+1+1) (gK:=w0.heap.size) (n:=m+1) (p:=P) (x:=x) (f1:=f1) (d1:=d1) (kk:=kk) (y:=y) (f2:=f2) (d2:=d2) (s:=.slice A1 m c1) (m:=.slice A2 m c2) (kv:=.agg #[.int .i64 P,.slice A (m+1) c]) (t0:=s) (t1:=T2) (L1:=L1 ++ [d1]) (L2:=L2 ++ [d2]) (f:=f) (j:=30) CH (fun z hz=>by have hz:z=_:=hz;subst hz;omega) (fun e z hz=>by have hz:z=_:=hz;subst hz;omega) (fun e z hz=>by have hz:z=_:=hz;subst hz;omega) (fun e z hz=>by have hz:z=_:=hz;subst hz;omega) (fun e z hz=>by have hz:z=_:=hz;subst hz;omega));have CM:=CH.mono (T:=fun b=>wq.heap.size≤b∨(30,b)∈[(10,gS),(26,gM),(29,w0.heap.size+1+1),(30,w0.heap.size+1+1+1)]) (fun z hz=>by have hz:z=_:=hz;subst hz;exact .inr (by simp));simp only [Zm,Nat.zero_add,Nat.reduceAdd] at hK CM;have HK9:=zH hK;have HCM:=zH CM;have HRS:=zH RS;clear CH hK CM RS R4 hd hG pre old;simp [puts,dsts,Act.put,e79];go_wp2_with fail;exact ⟨rfl,⟨.bool false,HRS.out⟩,Or.inr ⟨by simpa using HCM.out,HK9.out⟩⟩
    all_goals
      refine XJ rfl ?_;intro f w4 hG pre old hd;have hGx:=HX.out w4 hG;have k0:=(B3.out.chg hGx (by omega)).cell 0;have k1:=(B3.out.chg hGx (by omega)).cell 1;have k2:=(BT.out.chg hGx (by omega)).cell 0;have k3:=(BT.out.chg hGx (by omega)).cell 1;simp at k0 k1 k2 k3;clear hGx hG pre old;simp [depsF,bindE,List.filter_cons,Zz,Zq,Zr,Zs,ZA,ZW,TSA,fAt,Zy,isV] at hd
      first | simp [puts,dsts,Act.put,hd] | simp [puts,dsts,Act.put]
      try clear hd
      go_wp2_with fail;exact ⟨_,rfl,by simp [TSA,fAt,Zy,Zn,isV],Or.inl (gbR _ _)⟩
  intro f w6 hG hd hpr;have h10:=Yh hd (i:=10) rfl;have h26:=Yh hd (i:=26) rfl;have h27:=Yh hd (i:=27) rfl;have h29:=Yh hd (i:=29) rfl;have h30:=Yh hd (i:=30) rfl;have hap:=hpr _ (List.mem_cons_self ..);have h10:rowG (w0.heap.size+4) gS wq.heap.size (m+1) (L1 ++ [d1]) (f 61) w6:=h10;have h26:rowG (w0.heap.size+4) gM wq.heap.size (m+1) (L2 ++ [d2]) (f 77) w6:=h26;have h27:pairL [f 78,f 61,f 77]:=h27;have h29:blkP (w0.heap.size+1+1) (f 78) w6:=h29;have h30:Blk w6 (w0.heap.size+1+1+1) 41 #[.int .i64 s,.int .i64 T2]:=h30;have hap:apart (f 61) (f 77):=hap;obtain ⟨A8,A9,n8,c8,n9,c9,e8⟩:=h27;simp only [List.cons.injEq,and_true] at e8;obtain ⟨e78,e61,e77⟩:=e8;rw [e61] at h10 hap;rw [e77] at h26 hap;rw [e78] at h29;obtain ⟨B8,B9,q8,d8,q9,d9,e9,B29⟩:=h29;injection e9 with e9;injection e9 with e9;injection e9 with e90 e9;injection e9 with e91 _;rw [← e90,← e91] at B29;clear e90 e91;obtain ⟨_,_,e9,o10,_⟩:=h10;injection e9 with e90 e91 e92;subst e90;subst e91;subst e92;obtain ⟨_,_,e9,o26,_⟩:=h26;injection e9 with e90 e91 e92;subst e90;subst e91;subst e92;have AU:=row2.agg (L:=L1 ++ [d1]) (M:=L2 ++ [d2]) ⟨row1.of o10,row1.of o26,hap⟩;have AU:=zH (show autF (w0.heap.size+4) ⟨L1 ++ [d1],L2 ++ [d2]⟩ _ w6 from AU);have GZ:=zH (gbChg GQ.out (HX.out w6 hG) (fun z hz=>by rcases hz with hz | hz | hz | hz <;> omega));have BA:=zH B29;have BU:=zH h30;simp only [puts,dsts,Act.put,zB,zC,zA,zD,zE];clear hd hpr hG h30 hap e78 e61 e77 o10 o26 B29;go_wp2_with fail;refine ret_cc Tryz.results89 (by rfl) stAuth (cs:=#[.slice A8 (m+1) c8,.slice A9 (m+1) c9]) BA.out (by rfl) (by rfl) stTape (ds:=#[.int .i64 s,.int .i64 T2]) BU.out (by rfl) (by rfl) ?_;refine ⟨.agg #[.slice A8 (m+1) c8,.slice A9 (m+1) c9], ?_, ?_,GZ.out⟩
  · have h1:=HT1.out;have h2:=HT2.out;rw [show (a:Int)+(m:Int)+(m:Int)=(T2:Int) by omega]
  · have e:ZL ⟨(P:Int),al⟩ P s a x=⟨L1 ++ [d1],L2 ++ [d2]⟩:=by
      have hM:=HM1.out;unfold ZL;simp only;rw [hM,Nat.add_sub_cancel,HL1.out,HT1.out,HL2.out,HKK.out,HY.out];unfold shareL;rw [HF1.out,HD1.out,HF2.out,HD2.out]
    rw [e];exact autF.lo AU.out (by omega)
end Go.Proofs.YthaadgdeadbhkaaGreat
