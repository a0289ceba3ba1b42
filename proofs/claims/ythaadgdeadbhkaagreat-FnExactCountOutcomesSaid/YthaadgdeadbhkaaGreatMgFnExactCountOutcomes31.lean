/-
 EngineRun: the region that makes the engine (printed by wip/gen_run1.py).
-/
import Derived.Test.YthaadgdeadbhkaaGreatMgFnExactCountOutcomes30
open Go.RowKit
set_option linter.unusedVariables false
set_option linter.unusedSimpArgs false
namespace Go.Proofs.YthaadgdeadbhkaaGreat
attribute [local simp] depsC dstAt kAt bindE List.filter_cons Zz Zq Zr Zs ZA ZW puts dsts Act.put
def Wr (lo:Nat) (m:EM) (ok:Bool) (v:Value) (w:World):Prop:=∃A B C D E a b c d e,v=.tuple #[.agg #[.int .i64 m.k.p,.slice A m.k.al.length a,.int .i64 m.c.p,.slice B m.c.st.length b,.slice C m.c.outs.length c,.slice D m.vs.length d,.slice E m.op.length e,.int .i64 m.rd,.bool m.bad],.bool ok]∧aggF lo (Zf m) (.agg #[.int .i64 m.k.p,.slice A m.k.al.length a,.int .i64 m.c.p,.slice B m.c.st.length b,.slice C m.c.outs.length c,.slice D m.vs.length d,.slice E m.op.length e,.int .i64 m.rd,.bool m.bad]) w
theorem Xe {lo:Nat} {m:EM} {ok:Bool}:stable (Wr lo m ok):=fun v w w' ⟨A,B,C,D,E,a,b,c,d,e,h1,h2⟩ hg=>⟨A,B,C,D,E,a,b,c,d,e,h1,YG _ _ _ h2 hg⟩
theorem Jc {lo g:Nat} {m:EM} {ok:Bool} {v:Value} {w w':World} {T:TypeId} {cs:Array Value} (h:Wr lo m ok v w) (B:Blk w g T cs) (k:Chg (fun y=>y=g) w w') (hT:T∉[3,102,80]):Wr lo m ok v w':=by
 obtain ⟨A,B',C,D,E,a,b,c,d,e,h1,h2⟩:=h;exact ⟨A,B',C,D,E,a,b,c,d,e,h1,aggF.far h2 B k hT⟩
set_option maxHeartbeats 1000000 in
set_option maxRecDepth 1000000 in
theorem specrun1_c (k:KM) (c:AM) (m0:EM) (ok:Bool) (KA A1 A2 I:Option Addr) (kc n1 n2 ni ci gk ga gt:Nat) (s a:Int) (sd:Nat) (w2:World)
  (BK:Blk w2 gk 34 #[.int .i64 k.p,.slice KA k.al.length kc]) (BA:Blk w2 ga 38 #[.int .i64 c.p,.slice A1 c.st.length n1,.slice A2 c.outs.length n2]) (BT:Blk w2 gt 41 #[.int .i64 s,.int .i64 a])
  (HF:∀w4:World,w2.grownBy w4 none→Calls Tryz.prog 40 #[.agg #[.int .i64 s,.int .i64 a],.int .i64 1] w4 fun e w'=>e=.returned (.agg #[.int .i64 sd,.int .i64 0])∧w4.grownBy w' none)
  (HN:∀w4:World,w2.grownBy w4 none→Calls Tryz.prog 39 #[.agg #[.int .i64 k.p,.slice KA k.al.length kc],.agg #[.int .i64 c.p,.slice A1 c.st.length n1,.slice A2 c.outs.length n2],.slice I ni ci,.agg #[.int .i64 sd,.int .i64 0]] w4 fun e w'=>∃v,e=.returned (.tuple #[v,.bool ok])∧aggF w4.heap.size (Zf m0) v w'∧w4.grownBy w' none)
  (Q:Exit→Act→World→Prop) (s0 s1 s3 s4 s7 s9 s10 s11 s12 s13 s14 s15 s16 s17 s18 s19 s20 s21 s22 s23 s24 s25 s26 s27 s28 s29 s30 s31 s32 s33 s34 s35 s36 s37 s38 s39 s40 s41 s42 s43 s44 s45 s46 s47 s48 s49 s50 s51 s52 s53 s54 s55 s56 s57 s58 s59 s60 s61 s62 s63 s64 s65 s66 s67 s68 s69 s70 s71 s72 s73 s74 s75 s76 s77 s78 s79 s80 s81 s82 s83 s84 s85 s86 s87 s88 s89 s90 s91 s92 s93 s94 s95 s96 s97:Value)
  (hQ:∀(v21 v22 v23 v24 v25 v26 v27 v28 v29:Value) (w':World) (g12:Nat),w2.heap.size≤g12→sofF w2.heap.size 58 (Zf m0) g12 w'→w2.grownBy w' none→Q .normal (⟨List.toArray (s0 :: s1 :: (.slice I ni ci) :: s3 :: s4 :: (.pointer (some ⟨gk,0,none⟩)) :: (.pointer (some ⟨ga,0,none⟩)) :: s7 :: (.pointer (some ⟨gt,0,none⟩)) :: s9 :: s10 :: s11 :: (.pointer (some ⟨g12,0,none⟩)) :: (.bool ok) :: s14 :: s15 :: s16 :: s17 :: s18 :: s19 :: s20 :: v21 :: v22 :: v23 :: v24 :: v25 :: v26 :: v27 :: v28 :: v29 :: s30 :: s31 :: s32 :: s33 :: s34 :: s35 :: s36 :: s37 :: s38 :: s39 :: s40 :: s41 :: s42 :: s43 :: s44 :: s45 :: s46 :: s47 :: s48 :: s49 :: s50 :: s51 :: s52 :: s53 :: s54 :: s55 :: s56 :: s57 :: s58 :: s59 :: s60 :: s61 :: s62 :: s63 :: s64 :: s65 :: s66 :: s67 :: s68 :: s69 :: s70 :: s71 :: s72 :: s73 :: s74 :: s75 :: s76 :: s77 :: s78 :: s79 :: s80 :: s81 :: s82 :: s83 :: s84 :: s85 :: s86 :: s87 :: s88 :: s89 :: s90 :: s91 :: s92 :: s93 :: s94 :: s95 :: s96 :: s97 :: []),[]⟩:Act) w') :
  Code.wp Tryz.prog (regNo Tryz.f9 1) Q (⟨List.toArray (s0 :: s1 :: (.slice I ni ci) :: s3 :: s4 :: (.pointer (some ⟨gk,0,none⟩)) :: (.pointer (some ⟨ga,0,none⟩)) :: s7 :: (.pointer (some ⟨gt,0,none⟩)) :: s9 :: s10 :: s11 :: s12 :: s13 :: s14 :: s15 :: s16 :: s17 :: s18 :: s19 :: s20 :: s21 :: s22 :: s23 :: s24 :: s25 :: s26 :: s27 :: s28 :: s29 :: s30 :: s31 :: s32 :: s33 :: s34 :: s35 :: s36 :: s37 :: s38 :: s39 :: s40 :: s41 :: s42 :: s43 :: s44 :: s45 :: s46 :: s47 :: s48 :: s49 :: s50 :: s51 :: s52 :: s53 :: s54 :: s55 :: s56 :: s57 :: s58 :: s59 :: s60 :: s61 :: s62 :: s63 :: s64 :: s65 :: s66 :: s67 :: s68 :: s69 :: s70 :: s71 :: s72 :: s73 :: s74 :: s75 :: s76 :: s77 :: s78 :: s79 :: s80 :: s81 :: s82 :: s83 :: s84 :: s85 :: s86 :: s87 :: s88 :: s89 :: s90 :: s91 :: s92 :: s93 :: s94 :: s95 :: s96 :: s97 :: []),[]⟩:Act) w2:=by
 conv=>arg 2;whnf
 have HQ:=zH hQ;have HF:=zH HF;have HN:=zH HN;have k0:=BK.cell 0;have k1:=BK.cell 1;have x0:=BA.cell 0;have x1:=BA.cell 1;have x2:=BA.cell 2;have y0:=BT.cell 0;have y1:=BT.cell 1;simp at k0 k1 x0 x1 x2 y0 y1;have K0:=zH k0;have K1:=zH k1;have X0:=zH x0;have X1:=zH x1;have X2:=zH x2;have Y0:=zH y0;have Y1:=zH y1;clear k0 k1 x0 x1 x2 y0 y1 BK BA BT hQ
 refine Zg [.rd (.agg #[.int .i64 k.p,.slice KA k.al.length kc]),.rd (.agg #[.int .i64 c.p,.slice A1 c.st.length n1,.slice A2 c.outs.length n2]),.rd (.slice I ni ci),.rd (.agg #[.int .i64 s,.int .i64 a]),.fl (isV (.agg #[.int .i64 sd,.int .i64 0])),.fl (Wr w2.heap.size m0 ok),.fl (Wr w2.heap.size m0 ok),.fl (aggF w2.heap.size (Zf m0)),.rd (.bool ok),.ch,.ch,.ch] (fun x=>w2.heap.size≤x)
  [⟨[],fun _ w'=>w2.drew.grownBy w' none⟩,
   ⟨[12],fun l w'=>(∃g,l.getD 0 undef=.pointer (some ⟨g,0,none⟩)∧w2.heap.size≤g∧Blk w' g 58 #[.int .i64 0,.slice none 0 0,.int .i64 0,.slice none 0 0,.slice none 0 0,.slice none 0 0,.slice none 0 0,.int .i64 0,.bool false])∧w2.grownBy w' none⟩,
   ⟨[12],fun l w'=>(∃g,l.getD 0 undef=.pointer (some ⟨g,0,none⟩)∧w2.heap.size≤g∧sofF w2.heap.size 58 (Zf m0) g w')∧w2.grownBy w' none⟩,
   ⟨[12,13],fun l w'=>(∃g,l.getD 0 undef=.pointer (some ⟨g,0,none⟩)∧l.getD 1 undef=.bool ok∧w2.heap.size≤g∧sofF w2.heap.size 58 (Zf m0) g w')∧w2.grownBy w' none⟩]
  (by kernel_rfl) (by kernel_rfl) (by kernel_rfl) 3 (by kernel_rfl) ?_ (gbR _ _) rfl ?_ ?_
 ·have hst:Zw [⟨[],fun _ w'=>w2.drew.grownBy w' none⟩,⟨[12],fun l w'=>(∃g,l.getD 0 undef=.pointer (some ⟨g,0,none⟩)∧w2.heap.size≤g∧Blk w' g 58 #[.int .i64 0,.slice none 0 0,.int .i64 0,.slice none 0 0,.slice none 0 0,.slice none 0 0,.slice none 0 0,.int .i64 0,.bool false])∧w2.grownBy w' none⟩,⟨[12],fun l w'=>(∃g,l.getD 0 undef=.pointer (some ⟨g,0,none⟩)∧w2.heap.size≤g∧sofF w2.heap.size 58 (Zf m0) g w')∧w2.grownBy w' none⟩,⟨[12,13],fun l w'=>(∃g,l.getD 0 undef=.pointer (some ⟨g,0,none⟩)∧l.getD 1 undef=.bool ok∧w2.heap.size≤g∧sofF w2.heap.size 58 (Zf m0) g w')∧w2.grownBy w' none⟩]:=by
   refine Zc (fun l w1 w2 h hg=>gbT h hg) ?_;refine Zc (Zo fun l w1 w2 ⟨⟨g,h1,h2,h3⟩,h4⟩ hg=>⟨⟨g,h1,h2,h3.grow hg⟩,gbT h4 hg⟩) ?_;refine Zc (Zo fun l w1 w2 ⟨⟨g,h1,h2,h3⟩,h4⟩ hg=>⟨⟨g,h1,h2,h3.grow hg⟩,gbT h4 hg⟩) ?_;exact Zc (Zo fun l w1 w2 ⟨⟨g,h1,h1',h2,h3⟩,h4⟩ hg=>⟨⟨g,h1,h1',h2,h3.grow hg⟩,gbT h4 hg⟩) ZX
  simp only [flOk,true_and,and_true];exact ⟨⟨Zb _,hst⟩,⟨Xe,hst⟩,⟨Xe,hst⟩,⟨YG,hst⟩⟩
 ·simp only [hopsK,hopK,Kd.next,and_true]
  refine ⟨?_, ?_, ?_, ?_, ?_, ?_, ?_, ?_, ?_, ?_, ?_, ?_⟩;rotate_left 4
  ·intro f w4 hG hd
   have hg4:=gbChg (gbD (gbR w2 none)) hG (fun y hy=>hy);have hz4:=hg4.size
   (try simp at hd)
   (first | simp [hd] | simp)
   clear hd;go_wp2_with fail;refine (HF.out w4 hg4).mono ?_;rintro e w6 ⟨rfl,g6⟩;have G6:=zH g6;clear g6;go_wp2_with fail;exact ⟨_,rfl,rfl,G6.out⟩
  ·intro f w4 hG hd
   have hg4:=gbChg (gbD (gbR w2 none)) hG (fun y hy=>hy);have hz4:=hg4.size
   (try simp at hd)
   simp only [isV] at hd
   (first | simp [hd] | simp)
   clear hd;go_wp2_with fail;refine (HN.out w4 hg4).mono ?_;rintro e w6 ⟨v6,rfl,o6,g6⟩;obtain ⟨A',B',C',D',E',a',b',c',d',e',rfl⟩:=o6.eng;obtain ⟨F6,o6,l6⟩:=o6;have O6:Hid (Wr w2.heap.size m0 ok _ w6):=zH ⟨A',B',C',D',E',a',b',c',d',e',rfl,F6,o6,fun x hx=>Nat.le_trans hz4 (l6 x hx)⟩;have G6:=zH g6;clear o6 g6 l6;go_wp2_with fail;exact ⟨_,rfl,O6.out,G6.out⟩
  ·intro f w4 hG hd
   have hg4:=gbChg (gbD (gbR w2 none)) hG (fun y hy=>hy);have hz4:=hg4.size
   (try simp at hd)
   obtain ⟨A',B',C',D',E',a',b',c',d',e',e9,o6⟩:=hd;simp [puts,dsts,Act.put,e9];go_wp2_with fail;exact ⟨_,rfl,⟨A',B',C',D',E',a',b',c',d',e',rfl,o6⟩,gbR _ _⟩
  ·intro f w4 hG hd
   have hg4:=gbChg (gbD (gbR w2 none)) hG (fun y hy=>hy);have hz4:=hg4.size
   (try simp at hd)
   obtain ⟨A',B',C',D',E',a',b',c',d',e',e9,o6⟩:=hd;simp [puts,dsts,Act.put,e9];go_wp2_with fail;exact ⟨_,rfl,o6,gbR _ _⟩
  ·intro f w4 hG hd
   have hg4:=gbChg (gbD (gbR w2 none)) hG (fun y hy=>hy)
   (try simp at hd)
   obtain ⟨A',B',C',D',E',a',b',c',d',e',e9,o6⟩:=hd;simp [puts,dsts,Act.put,e9];go_wp2_with fail;exact ⟨rfl,rfl⟩
  ·intro f w4 hG hI hd
   have hg4:=gbChg (gbD (gbR w2 none)) hG (fun y hy=>hy);have hz4:=hg4.size;clear hd;simp [puts,dsts,Act.put];go_wp2_with fail;exact ⟨_,rfl,⟨⟨_,rfl,hz4,Blk.new _ _ _⟩,gbA hg4 _⟩,⟨chgA _ _,by simp [keepsC,dstAt];exact ⟨JG,fun h=>Xe _ _ _ h (gbA (gbR _ _) _),fun h=>Xe _ _ _ h (gbA (gbR _ _) _),fun h=>YG _ _ _ h (gbA (gbR _ _) _)⟩⟩⟩
  ·intro f w4 hG hI hd
   have hg4:=gbChg (gbD (gbR w2 none)) hG (fun y hy=>hy);have hz4:=hg4.size;obtain ⟨⟨g9,e12,hg9,R4⟩,hI⟩:=hI;have e12:f 12=.pointer (some ⟨g9,0,none⟩):=e12
   (try simp at hd)
   have h40:aggF w2.heap.size (Zf m0) (f 28) w4:=by first | exact hd | exact hd.1 | exact hd.2 | exact hd.2.1
   clear hd;obtain ⟨A9,B9,C9,D9,E9,a9,b9,c9,d9,e9,e40⟩:=h40.eng;rw [e40] at h40;obtain ⟨F4,o4,l4⟩:=h40;obtain ⟨f0,f1,f2,f3,f4,f5,f6,f7,f8⟩:=R4.f9;obtain ⟨b0,b1,b2,b3,b4,b5,b6,b7,b8⟩:=R4.c9;have hgF:=WR (Yr _) o4 R4 (by decide);have RS:=SOF.store R4 (us:=[.int .i64 m0.k.p,.slice A9 m0.k.al.length a9,.int .i64 m0.c.p,.slice B9 m0.c.st.length b9,.slice C9 m0.c.outs.length c9,.slice D9 m0.vs.length d9,.slice E9 m0.op.length e9,.int .i64 m0.rd,.bool m0.bad]) rfl o4 hgF;have CH:=Za g9 [.int .i64 m0.k.p,.slice A9 m0.k.al.length a9,.int .i64 m0.c.p,.slice B9 m0.c.st.length b9,.slice C9 m0.c.outs.length c9,.slice D9 m0.vs.length d9,.slice E9 m0.op.length e9,.int .i64 m0.rd,.bool m0.bad] 0 w4;have K1:=zH (fun v (h:Wr w2.heap.size m0 ok v w4)=>Jc h R4 CH (by decide));have K2:=zH (fun v (h:aggF w2.heap.size (Zf m0) v w4)=>aggF.far h R4 CH (by decide));have GS:=Zu hg4 CH hg9;have CS:=CH.mono (T:=fun x=>w2.heap.size≤x) (fun y hy=>by rw [hy];exact hg9);simp only [Zm,Nat.zero_add,Nat.reduceAdd] at RS GS CS K1 K2;have RS:=zH RS;have GS:=zH GS;have CS:=zH CS;clear CH hI o4;simp [puts,dsts,Act.put,e12,e40];clear R4;go_wp2_with fail;refine ⟨rfl,⟨.bool false,⟨g9,e12,hg9,F4,RS.out,l4⟩,GS.out⟩,CS.out, ?_⟩;simp [keepsC,dstAt];exact ⟨JG,K1.out _,K1.out _,K2.out _⟩
  ·intro f w4 hG hI hd
   have hg4:=gbChg (gbD (gbR w2 none)) hG (fun y hy=>hy);have hz4:=hg4.size;obtain ⟨⟨g9,e12,hg9,hs9⟩,hI⟩:=hI
   (try simp at hd)
   (first | simp [hd] | simp)
   clear hd;go_wp2_with fail;exact ⟨.bool ok,rfl,⟨g9,e12,rfl,hg9,hs9⟩,hI⟩
  all_goals
   intro f w4 hG hd;have hg4:=gbChg (gbD (gbR w2 none)) hG (fun y hy=>hy);have k0:=gbk hg4 (K0.out);have k1:=gbk hg4 (K1.out);have k2:=gbk hg4 (X0.out);have k3:=gbk hg4 (X1.out);have k4:=gbk hg4 (X2.out);have k5:=gbk hg4 (Y0.out);have k6:=gbk hg4 (Y1.out)
   (try simp at hd)
   (first | simp [hd] | simp)
   clear hd;go_wp2_with fail;exact ⟨rfl,rfl⟩
 intro f w3 hI hd;simp only [puts,dsts,Act.put,zB,zC,zA,zD,zE];obtain ⟨⟨g12,e12a,e13a,hg12,hs12⟩,hg3⟩:=hI;have e12:f 12=.pointer (some ⟨g12,0,none⟩):=e12a;have e13:f 13=.bool ok:=e13a;rw [e12,e13];have HQ2:=HQ.out;clear hd;apply HQ2
 ·exact hg12
 ·exact hs12
 ·exact hg3
set_option maxHeartbeats 1000000 in
set_option maxRecDepth 1000000 in
theorem implrun1_c (k:KM) (c:AM) (m0:EM) (ok:Bool) (KA A1 A2 I:Option Addr) (kc n1 n2 ni ci gk ga gt:Nat) (s a:Int) (sd:Nat) (w2:World)
  (BK:Blk w2 gk 34 #[.int .i64 k.p,.slice KA k.al.length kc]) (BA:Blk w2 ga 38 #[.int .i64 c.p,.slice A1 c.st.length n1,.slice A2 c.outs.length n2]) (BT:Blk w2 gt 41 #[.int .i64 s,.int .i64 a])
  (HF:∀w4:World,w2.grownBy w4 none→Calls Tryz.prog 51 #[.agg #[.int .i64 s,.int .i64 a],.int .i64 1] w4 fun e w'=>e=.returned (.agg #[.int .i64 sd,.int .i64 0])∧w4.grownBy w' none)
  (HN:∀w4:World,w2.grownBy w4 none→Calls Tryz.prog 50 #[.agg #[.int .i64 k.p,.slice KA k.al.length kc],.agg #[.int .i64 c.p,.slice A1 c.st.length n1,.slice A2 c.outs.length n2],.slice I ni ci,.agg #[.int .i64 sd,.int .i64 0]] w4 fun e w'=>∃v,e=.returned (.tuple #[v,.bool ok])∧aggF w4.heap.size (Zf m0) v w'∧w4.grownBy w' none)
  (Q:Exit→Act→World→Prop) (s0 s1 s3 s4 s7 s9 s10 s11 s12 s13 s14 s15 s16 s17 s18 s19 s20 s21 s22 s23 s24 s25 s26 s27 s28 s29 s30 s31 s32 s33 s34 s35 s36 s37 s38 s39 s40 s41 s42 s43 s44 s45 s46 s47 s48 s49 s50 s51 s52 s53 s54 s55 s56 s57 s58 s59 s60 s61 s62 s63 s64 s65 s66 s67 s68 s69 s70 s71 s72 s73 s74 s75 s76 s77 s78 s79 s80 s81 s82 s83 s84 s85 s86 s87 s88 s89 s90 s91 s92 s93 s94 s95 s96 s97 s98 s99 s100 s101 s102 s103 s104 s105 s106 s107 s108 s109 s110 s111 s112 s113 s114 s115 s116 s117 s118 s119 s120 s121:Value)
  (hQ:∀(v33 v34 v35 v36 v37 v38 v39 v40 v41:Value) (w':World) (g12:Nat),w2.heap.size≤g12→sofF w2.heap.size 58 (Zf m0) g12 w'→w2.grownBy w' none→Q .normal (⟨List.toArray (s0 :: s1 :: (.slice I ni ci) :: s3 :: s4 :: (.pointer (some ⟨gk,0,none⟩)) :: (.pointer (some ⟨ga,0,none⟩)) :: s7 :: (.pointer (some ⟨gt,0,none⟩)) :: s9 :: s10 :: s11 :: (.pointer (some ⟨g12,0,none⟩)) :: (.bool ok) :: s14 :: s15 :: s16 :: s17 :: s18 :: s19 :: s20 :: s21 :: s22 :: s23 :: s24 :: s25 :: s26 :: s27 :: s28 :: s29 :: s30 :: s31 :: s32 :: v33 :: v34 :: v35 :: v36 :: v37 :: v38 :: v39 :: v40 :: v41 :: s42 :: s43 :: s44 :: s45 :: s46 :: s47 :: s48 :: s49 :: s50 :: s51 :: s52 :: s53 :: s54 :: s55 :: s56 :: s57 :: s58 :: s59 :: s60 :: s61 :: s62 :: s63 :: s64 :: s65 :: s66 :: s67 :: s68 :: s69 :: s70 :: s71 :: s72 :: s73 :: s74 :: s75 :: s76 :: s77 :: s78 :: s79 :: s80 :: s81 :: s82 :: s83 :: s84 :: s85 :: s86 :: s87 :: s88 :: s89 :: s90 :: s91 :: s92 :: s93 :: s94 :: s95 :: s96 :: s97 :: s98 :: s99 :: s100 :: s101 :: s102 :: s103 :: s104 :: s105 :: s106 :: s107 :: s108 :: s109 :: s110 :: s111 :: s112 :: s113 :: s114 :: s115 :: s116 :: s117 :: s118 :: s119 :: s120 :: s121 :: []),[]⟩:Act) w') :
  Code.wp Tryz.prog (regNo Tryz.f14 3) Q (⟨List.toArray (s0 :: s1 :: (.slice I ni ci) :: s3 :: s4 :: (.pointer (some ⟨gk,0,none⟩)) :: (.pointer (some ⟨ga,0,none⟩)) :: s7 :: (.pointer (some ⟨gt,0,none⟩)) :: s9 :: s10 :: s11 :: s12 :: s13 :: s14 :: s15 :: s16 :: s17 :: s18 :: s19 :: s20 :: s21 :: s22 :: s23 :: s24 :: s25 :: s26 :: s27 :: s28 :: s29 :: s30 :: s31 :: s32 :: s33 :: s34 :: s35 :: s36 :: s37 :: s38 :: s39 :: s40 :: s41 :: s42 :: s43 :: s44 :: s45 :: s46 :: s47 :: s48 :: s49 :: s50 :: s51 :: s52 :: s53 :: s54 :: s55 :: s56 :: s57 :: s58 :: s59 :: s60 :: s61 :: s62 :: s63 :: s64 :: s65 :: s66 :: s67 :: s68 :: s69 :: s70 :: s71 :: s72 :: s73 :: s74 :: s75 :: s76 :: s77 :: s78 :: s79 :: s80 :: s81 :: s82 :: s83 :: s84 :: s85 :: s86 :: s87 :: s88 :: s89 :: s90 :: s91 :: s92 :: s93 :: s94 :: s95 :: s96 :: s97 :: s98 :: s99 :: s100 :: s101 :: s102 :: s103 :: s104 :: s105 :: s106 :: s107 :: s108 :: s109 :: s110 :: s111 :: s112 :: s113 :: s114 :: s115 :: s116 :: s117 :: s118 :: s119 :: s120 :: s121 :: []),[]⟩:Act) w2:=by
 conv=>arg 2;whnf
 have HQ:=zH hQ;have HF:=zH HF;have HN:=zH HN;have k0:=BK.cell 0;have k1:=BK.cell 1;have x0:=BA.cell 0;have x1:=BA.cell 1;have x2:=BA.cell 2;have y0:=BT.cell 0;have y1:=BT.cell 1;simp at k0 k1 x0 x1 x2 y0 y1;have K0:=zH k0;have K1:=zH k1;have X0:=zH x0;have X1:=zH x1;have X2:=zH x2;have Y0:=zH y0;have Y1:=zH y1;clear k0 k1 x0 x1 x2 y0 y1 BK BA BT hQ
 refine Zg [.rd (.agg #[.int .i64 k.p,.slice KA k.al.length kc]),.rd (.agg #[.int .i64 c.p,.slice A1 c.st.length n1,.slice A2 c.outs.length n2]),.rd (.slice I ni ci),.rd (.agg #[.int .i64 s,.int .i64 a]),.fl (isV (.agg #[.int .i64 sd,.int .i64 0])),.fl (Wr w2.heap.size m0 ok),.fl (Wr w2.heap.size m0 ok),.fl (aggF w2.heap.size (Zf m0)),.rd (.bool ok),.ch,.ch,.ch] (fun x=>w2.heap.size≤x)
  [⟨[],fun _ w'=>w2.drew.grownBy w' none⟩,
   ⟨[12],fun l w'=>(∃g,l.getD 0 undef=.pointer (some ⟨g,0,none⟩)∧w2.heap.size≤g∧Blk w' g 58 #[.int .i64 0,.slice none 0 0,.int .i64 0,.slice none 0 0,.slice none 0 0,.slice none 0 0,.slice none 0 0,.int .i64 0,.bool false])∧w2.grownBy w' none⟩,
   ⟨[12],fun l w'=>(∃g,l.getD 0 undef=.pointer (some ⟨g,0,none⟩)∧w2.heap.size≤g∧sofF w2.heap.size 58 (Zf m0) g w')∧w2.grownBy w' none⟩,
   ⟨[12,13],fun l w'=>(∃g,l.getD 0 undef=.pointer (some ⟨g,0,none⟩)∧l.getD 1 undef=.bool ok∧w2.heap.size≤g∧sofF w2.heap.size 58 (Zf m0) g w')∧w2.grownBy w' none⟩]
  (by kernel_rfl) (by kernel_rfl) (by kernel_rfl) 3 (by kernel_rfl) ?_ (gbR _ _) rfl ?_ ?_
 ·have hst:Zw [⟨[],fun _ w'=>w2.drew.grownBy w' none⟩,⟨[12],fun l w'=>(∃g,l.getD 0 undef=.pointer (some ⟨g,0,none⟩)∧w2.heap.size≤g∧Blk w' g 58 #[.int .i64 0,.slice none 0 0,.int .i64 0,.slice none 0 0,.slice none 0 0,.slice none 0 0,.slice none 0 0,.int .i64 0,.bool false])∧w2.grownBy w' none⟩,⟨[12],fun l w'=>(∃g,l.getD 0 undef=.pointer (some ⟨g,0,none⟩)∧w2.heap.size≤g∧sofF w2.heap.size 58 (Zf m0) g w')∧w2.grownBy w' none⟩,⟨[12,13],fun l w'=>(∃g,l.getD 0 undef=.pointer (some ⟨g,0,none⟩)∧l.getD 1 undef=.bool ok∧w2.heap.size≤g∧sofF w2.heap.size 58 (Zf m0) g w')∧w2.grownBy w' none⟩]:=by
   refine Zc (fun l w1 w2 h hg=>gbT h hg) ?_;refine Zc (Zo fun l w1 w2 ⟨⟨g,h1,h2,h3⟩,h4⟩ hg=>⟨⟨g,h1,h2,h3.grow hg⟩,gbT h4 hg⟩) ?_;refine Zc (Zo fun l w1 w2 ⟨⟨g,h1,h2,h3⟩,h4⟩ hg=>⟨⟨g,h1,h2,h3.grow hg⟩,gbT h4 hg⟩) ?_;exact Zc (Zo fun l w1 w2 ⟨⟨g,h1,h1',h2,h3⟩,h4⟩ hg=>⟨⟨g,h1,h1',h2,h3.grow hg⟩,gbT h4 hg⟩) ZX
  simp only [flOk,true_and,and_true];exact ⟨⟨Zb _,hst⟩,⟨Xe,hst⟩,⟨Xe,hst⟩,⟨YG,hst⟩⟩
 ·simp only [hopsK,hopK,Kd.next,and_true]
  refine ⟨?_, ?_, ?_, ?_, ?_, ?_, ?_, ?_, ?_, ?_, ?_, ?_⟩;rotate_left 4
  ·intro f w4 hG hd
   have hg4:=gbChg (gbD (gbR w2 none)) hG (fun y hy=>hy);have hz4:=hg4.size
   (try simp at hd)
   (first | simp [hd] | simp)
   clear hd;go_wp2_with fail;refine (HF.out w4 hg4).mono ?_;rintro e w6 ⟨rfl,g6⟩;have G6:=zH g6;clear g6;go_wp2_with fail;exact ⟨_,rfl,rfl,G6.out⟩
  ·intro f w4 hG hd
   have hg4:=gbChg (gbD (gbR w2 none)) hG (fun y hy=>hy);have hz4:=hg4.size
   (try simp at hd)
   simp only [isV] at hd
   (first | simp [hd] | simp)
   clear hd;go_wp2_with fail;refine (HN.out w4 hg4).mono ?_;rintro e w6 ⟨v6,rfl,o6,g6⟩;obtain ⟨A',B',C',D',E',a',b',c',d',e',rfl⟩:=o6.eng;obtain ⟨F6,o6,l6⟩:=o6;have O6:Hid (Wr w2.heap.size m0 ok _ w6):=zH ⟨A',B',C',D',E',a',b',c',d',e',rfl,F6,o6,fun x hx=>Nat.le_trans hz4 (l6 x hx)⟩;have G6:=zH g6;clear o6 g6 l6;go_wp2_with fail;exact ⟨_,rfl,O6.out,G6.out⟩
  ·intro f w4 hG hd
   have hg4:=gbChg (gbD (gbR w2 none)) hG (fun y hy=>hy);have hz4:=hg4.size
   (try simp at hd)
   obtain ⟨A',B',C',D',E',a',b',c',d',e',e9,o6⟩:=hd;simp [puts,dsts,Act.put,e9];go_wp2_with fail;exact ⟨_,rfl,⟨A',B',C',D',E',a',b',c',d',e',rfl,o6⟩,gbR _ _⟩
  ·intro f w4 hG hd
   have hg4:=gbChg (gbD (gbR w2 none)) hG (fun y hy=>hy);have hz4:=hg4.size
   (try simp at hd)
   obtain ⟨A',B',C',D',E',a',b',c',d',e',e9,o6⟩:=hd;simp [puts,dsts,Act.put,e9];go_wp2_with fail;exact ⟨_,rfl,o6,gbR _ _⟩
  ·intro f w4 hG hd
   have hg4:=gbChg (gbD (gbR w2 none)) hG (fun y hy=>hy)
   (try simp at hd)
   obtain ⟨A',B',C',D',E',a',b',c',d',e',e9,o6⟩:=hd;simp [puts,dsts,Act.put,e9];go_wp2_with fail;exact ⟨rfl,rfl⟩
  ·intro f w4 hG hI hd
   have hg4:=gbChg (gbD (gbR w2 none)) hG (fun y hy=>hy);have hz4:=hg4.size;clear hd;simp [puts,dsts,Act.put];go_wp2_with fail;exact ⟨_,rfl,⟨⟨_,rfl,hz4,Blk.new _ _ _⟩,gbA hg4 _⟩,⟨chgA _ _,by simp [keepsC,dstAt];exact ⟨JG,fun h=>Xe _ _ _ h (gbA (gbR _ _) _),fun h=>Xe _ _ _ h (gbA (gbR _ _) _),fun h=>YG _ _ _ h (gbA (gbR _ _) _)⟩⟩⟩
  ·intro f w4 hG hI hd
   have hg4:=gbChg (gbD (gbR w2 none)) hG (fun y hy=>hy);have hz4:=hg4.size;obtain ⟨⟨g9,e12,hg9,R4⟩,hI⟩:=hI;have e12:f 12=.pointer (some ⟨g9,0,none⟩):=e12
   (try simp at hd)
   have h40:aggF w2.heap.size (Zf m0) (f 40) w4:=by first | exact hd | exact hd.1 | exact hd.2 | exact hd.2.1
   clear hd;obtain ⟨A9,B9,C9,D9,E9,a9,b9,c9,d9,e9,e40⟩:=h40.eng;rw [e40] at h40;obtain ⟨F4,o4,l4⟩:=h40;obtain ⟨f0,f1,f2,f3,f4,f5,f6,f7,f8⟩:=R4.f9;obtain ⟨b0,b1,b2,b3,b4,b5,b6,b7,b8⟩:=R4.c9;have hgF:=WR (Yr _) o4 R4 (by decide);have RS:=SOF.store R4 (us:=[.int .i64 m0.k.p,.slice A9 m0.k.al.length a9,.int .i64 m0.c.p,.slice B9 m0.c.st.length b9,.slice C9 m0.c.outs.length c9,.slice D9 m0.vs.length d9,.slice E9 m0.op.length e9,.int .i64 m0.rd,.bool m0.bad]) rfl o4 hgF;have CH:=Za g9 [.int .i64 m0.k.p,.slice A9 m0.k.al.length a9,.int .i64 m0.c.p,.slice B9 m0.c.st.length b9,.slice C9 m0.c.outs.length c9,.slice D9 m0.vs.length d9,.slice E9 m0.op.length e9,.int .i64 m0.rd,.bool m0.bad] 0 w4;have K1:=zH (fun v (h:Wr w2.heap.size m0 ok v w4)=>Jc h R4 CH (by decide));have K2:=zH (fun v (h:aggF w2.heap.size (Zf m0) v w4)=>aggF.far h R4 CH (by decide));have GS:=Zu hg4 CH hg9;have CS:=CH.mono (T:=fun x=>w2.heap.size≤x) (fun y hy=>by rw [hy];exact hg9);simp only [Zm,Nat.zero_add,Nat.reduceAdd] at RS GS CS K1 K2;have RS:=zH RS;have GS:=zH GS;have CS:=zH CS;clear CH hI o4;simp [puts,dsts,Act.put,e12,e40];clear R4;go_wp2_with fail;refine ⟨rfl,⟨.bool false,⟨g9,e12,hg9,F4,RS.out,l4⟩,GS.out⟩,CS.out, ?_⟩;simp [keepsC,dstAt];exact ⟨JG,K1.out _,K1.out _,K2.out _⟩
  ·intro f w4 hG hI hd
   have hg4:=gbChg (gbD (gbR w2 none)) hG (fun y hy=>hy);have hz4:=hg4.size;obtain ⟨⟨g9,e12,hg9,hs9⟩,hI⟩:=hI
   (try simp at hd)
   (first | simp [hd] | simp)
   clear hd;go_wp2_with fail;exact ⟨.bool ok,rfl,⟨g9,e12,rfl,hg9,hs9⟩,hI⟩
  all_goals
   intro f w4 hG hd;have hg4:=gbChg (gbD (gbR w2 none)) hG (fun y hy=>hy);have k0:=gbk hg4 (K0.out);have k1:=gbk hg4 (K1.out);have k2:=gbk hg4 (X0.out);have k3:=gbk hg4 (X1.out);have k4:=gbk hg4 (X2.out);have k5:=gbk hg4 (Y0.out);have k6:=gbk hg4 (Y1.out)
   (try simp at hd)
   (first | simp [hd] | simp)
   clear hd;go_wp2_with fail;exact ⟨rfl,rfl⟩
 intro f w3 hI hd;simp only [puts,dsts,Act.put,zB,zC,zA,zD,zE];obtain ⟨⟨g12,e12a,e13a,hg12,hs12⟩,hg3⟩:=hI;have e12:f 12=.pointer (some ⟨g12,0,none⟩):=e12a;have e13:f 13=.bool ok:=e13a;rw [e12,e13];have HQ2:=HQ.out;clear hd;apply HQ2
 ·exact hg12
 ·exact hs12
 ·exact hg3
end Go.Proofs.YthaadgdeadbhkaaGreat
namespace Go.Proofs.YthaadgdeadbhkaaGreat
structure Pr where
 i:Nat
 di:Tmp
 j:Nat
 dj:Tmp
 R:Value→Value→Prop
def prOk (ops:Array Oper) (ps:List Pr):Bool:=ps.all fun p=>(((ops[p.i]?).bind (·.dst)) == some p.di)&&(((ops[p.j]?).bind (·.dst)) == some p.dj)&&p.i != p.j
def prHop (T:List Fact) (ps:List Pr) (f:Tmp→Value) (w:World) (k:Nat) (v:Value):Prop:=∀p∈ps,(p.i=k→(fAt T p.j).at_ f w→p.R v (f p.dj))∧(p.j=k→(fAt T p.i).at_ f w→p.R (f p.di) v)
def hop7 (P:Program) (ops:Array Oper) (T:List Fact) (ps:List Pr) (W:World) (a0:Act) (touch:List (Nat × Nat)) (o:Oper) (k:Nat):Prop :=
 ∀(f:Tmp→Value) (w:World),Chg (fun b=>∃s,(s,b)∈touch) W w→(∀b,b<W.heap.size→(∀s,(s,b)∈touch→aheadB ops s k=true)→w.heap[b]?=W.heap[b]?)→(∀d,oldB ops k d=true→d∈dsts ops→f d=a0.tmps.getD d undef)→depsF T f w (bindE o)→(∀p∈ps,aheadB ops k p.i=true→aheadB ops k p.j=true→p.i≠k→p.j≠k→p.R (f p.di) (f p.dj)) →
  wpList P ops (Only fun a' w'=>∃v,a'=(puts a0 (dsts ops) f).put o.dst v∧(fAt T k).at_ (upd f o.dst v) w'∧(w.grownBy w' none∨(Chg (fun b=>W.heap.size≤b∨(k,b)∈touch) w w'∧keeps f w w' k T 0))∧prHop T ps f w k v) [o] (puts a0 (dsts ops) f) w
def hops7 (P:Program) (ops:Array Oper) (T:List Fact) (ps:List Pr) (W:World) (a0:Act) (touch:List (Nat × Nat)):List Oper→Nat→Prop
 | [],_=>True
 | o :: l,k=>hop7 P ops T ps W a0 touch o k∧hops7 P ops T ps W a0 touch l (k+1)
section
variable {P:Program} {ops:Array Oper} {T:List Fact} {ps:List Pr} {W:World} {a0:Act} {touch:List (Nat × Nat)} {Q:Exit→Act→World→Prop}
theorem only1_mono {o:Oper} {a:Act} {w:World} {K K':Act→World→Prop} (h:∀a' w',K a' w'→K' a' w') (h1:wpList P ops (Only K) [o] a w):wpList P ops (Only K') [o] a w:=by
 unfold wpList at h1 ⊢
 split
 ·rename_i hw
  rw [if_pos hw] at h1
  rcases h1 with h1 | h1
  ·exact .inl (We (Oper.wp_mono (fun a' w' hk=>h a' w' hk) h1))
  ·exact (XI h1.2).elim
 ·rename_i hw
  rw [if_neg hw] at h1;exact h _ _ h1
theorem XJ {o:Oper} {k:Nat} (hn:(ps.all fun p=>p.i != k&&p.j != k)=true) (h:hop6 P ops T W a0 touch o k):hop7 P ops T ps W a0 touch o k:=by
 intro f w h1 h2 h3 h4 _;refine only1_mono (fun a' w' ⟨v,e1,e2,e3⟩=>⟨v,e1,e2,e3,fun p hp => ?_⟩) (h f w h1 h2 h3 h4);have:=List.all_eq_true.1 hn p hp;simp at this;exact ⟨fun e=>absurd e this.1,fun e=>absurd e this.2⟩
theorem QD {listed:Array Bool} (hc:∀k o,ops[k]?=some o→listed.getD k false=true→∀e∈bindE o,listed.getD e.on false=true) {i j:Nat} {o:Oper} (ho:ops[i]?=some o) (hil:i<listed.size) (hwait:∀e∈bindE o,listed.getD e.on false=true) (h:aheadB ops i j=true) (hne:j≠i):listed.getD j false=true:=by
 have lset:∀k,k≠i→(listed.setIfInBounds i true).getD k false=listed.getD k false:=fun k hk=>by
  simp only [Array.getD_eq_getD_getElem?,Array.getElem?_setIfInBounds,Ne.symm hk,if_false]
 have lold:∀k,listed.getD k false=true→(listed.setIfInBounds i true).getD k false=true:=fun k hk=>by
  by_cases e:k=i
  ·subst e;simp [hil]
  ·rw [lset k e];exact hk
 cases hj:listed.getD j false with
 | true=>rfl
 | false =>
  exfalso
  have h1:=Vg (ops:=ops) (listed:=listed.setIfInBounds i true) (fun k ok hk hl e he=>by
   by_cases hik:k=i
   ·subst hik
    obtain rfl:ok=o:=by rw [ho] at hk;injection hk with hk;exact hk.symm
    exact lold _ (hwait e he)
   ·rw [lset k hik] at hl
    exact lold _ (hc k ok hk hl e he)) (s:=i) (k:=j) (by rw [lset j hne];exact hj) h
  simp [hil] at h1
theorem hops7_at:∀{l:List Oper} {k i:Nat} {o:Oper},hops7 P ops T ps W a0 touch l k→l[i]?=some o→hop7 P ops T ps W a0 touch o (k+i)
 | [],_,_,_,_,h=>by simp at h
 | x :: l,k,0,o,h,hi=>by simp at hi;subst hi;exact h.1
 | x :: l,k,i+1,o,h,hi=>by
  simp at hi;have:=hops7_at (k:=k+1) (i:=i) h.2 hi
  rwa [show k+1+i=k+(i+1) by omega] at this
def GPr (ps:List Pr) (listed:Array Bool) (a:Act):Prop:=∀p∈ps,listed.getD p.i false=true→listed.getD p.j false=true→p.R (a.tmps.getD p.di undef) (a.tmps.getD p.dj undef)
theorem reg7_any (K:RegOk ops T) (hps:prOk ops ps=true) (hsz:∀d∈dsts ops,d<a0.tmps.size) (hst:Zw T) (hh:hops7 P ops T ps W a0 touch ops.toList 0)
  (fin:∀(f:Tmp→Value) (w:World),Chg (fun b=>∃s,(s,b)∈touch) W w→knowsF T f w T→(∀p∈ps,p.R (f p.di) (f p.dj))→Q .normal (puts a0 (dsts ops) f) w) :
  ∀(fuel:Nat) (listed:Array Bool) (a:Act) (w:World),GInv6 ops T W a0 touch listed a w→GPr ps listed a→listed.toList.countP (fun b=>!b)≤fuel→wpAny P .any ops Q fuel listed a w:=by
 have hpo:∀p∈ps,(∃o,ops[p.i]?=some o∧o.dst=some p.di)∧(∃o,ops[p.j]?=some o∧o.dst=some p.dj)∧p.i≠p.j:=fun p hp=>by
  have:=List.all_eq_true.1 hps p hp;simp only [Bool.and_eq_true,beq_iff_eq,bne_iff_ne] at this;obtain ⟨⟨h1,h2⟩,h3⟩:=this;refine ⟨?_, ?_,h3⟩
  ·cases ho:ops[p.i]? with
   | none=>rw [ho] at h1;cases h1
   | some o=>rw [ho] at h1;exact ⟨o,rfl,h1⟩
  ·cases ho:ops[p.j]? with
   | none=>rw [ho] at h2;cases h2
   | some o=>rw [ho] at h2;exact ⟨o,rfl,h2⟩
 have done:∀(listed:Array Bool) (a:Act) (w:World),GInv6 ops T W a0 touch listed a w→GPr ps listed a→Region.ready .any ops listed=[]→Q .normal a w:=fun listed a w h hp hr=>by
  rw [h.is];refine fin _ w h.g (Ux fun F hF => ?_) fun p hpp => ?_
  ·obtain ⟨k,hk⟩:=List.mem_iff_getElem?.1 hF
   have hkl:k<ops.size:=Nat.lt_of_lt_of_le (List.getElem?_eq_some_iff.1 hk).1 K.len;have:=h.facts k ops[k] (Array.getElem?_eq_getElem hkl) (YN K h.sz hr (k+1) k (by omega) hkl);unfold fAt at this;rw [hk] at this;exact this
  ·obtain ⟨⟨o,ho,_⟩,⟨o',ho',_⟩,_⟩:=hpo p hpp
   have hi:=(Array.getElem?_eq_some_iff.1 ho).1;have hj:=(Array.getElem?_eq_some_iff.1 ho').1;exact hp p hpp (YN K h.sz hr (p.i+1) p.i (by omega) hi) (YN K h.sz hr (p.j+1) p.j (by omega) hj)
 intro fuel
 induction fuel with
 | zero =>
  intro listed a w h hp hc
  have hr:Region.ready .any ops listed=[]:=by
   cases hr:Region.ready .any ops listed with
   | nil=>rfl
   | cons i l =>
    exfalso
    have hi:=(mem_ready.1 (show i∈Region.ready .any ops listed by rw [hr];exact List.mem_cons_self ..)).1;have h0:listed.toList.countP (fun b=>!b)=0:=by omega
    rw [List.countP_eq_zero] at h0
    have hlt:i<listed.size:=by
     rcases Nat.lt_or_ge i listed.size with h1 | h1
     ·exact h1
     ·simp [Array.getElem?_eq_none h1] at hi
    have hv:listed[i]=false:=by simpa [hlt] using hi
    have:=h0 listed[i] (Array.getElem_mem_toList hlt);simp [hv] at this
  exact ⟨hr,done listed a w h hp hr⟩
 | succ fuel ih =>
  intro listed a w h hp hc;refine ⟨fun hr=>done listed a w h hp hr,fun i hi => ?_⟩;obtain ⟨hl,o,ho,hall⟩:=mem_ready.1 hi
  have hwait:∀e∈bindE o,listed.getD e.on false=true:=fun e he=>by
   obtain ⟨h1,h2⟩:=bind_mem.1 he;exact hall e (by simpa using h1) h2
  have hlt:i<listed.size:=by rw [h.sz];exact (Array.getElem?_eq_some_iff.1 ho).1
  have hun:listed.getD i false=false:=by
   simp [hlt] at hl ⊢;exact hl
  have hop:=hops7_at hh (i:=i) (by simpa using ho);rw [Nat.zero_add] at hop
  have h1:=hop (fun d=>a.tmps.getD d undef) w h.g (fun b hb hs=>h.pre b hb fun s hs'=>Vg h.closed hun (hs s hs')) (fun d hd hm=>h.old_ hun hd hm) (QW fun e he=>by
   have h2:=hwait e he;have h3:=K.early i o ho e he;have h4:e.on<ops.size:=by have:=(Array.getElem?_eq_some_iff.1 ho).1;omega
   exact h.facts e.on _ (Array.getElem?_eq_getElem h4) h2) (fun p hpp q1 q2 q3 q4=>hp p hpp (QD h.closed ho hlt hwait q1 q3) (QD h.closed ho hlt hwait q2 q4))
  rw [← h.is] at h1;unfold wpOp;simp only [ho]
  have lset:∀k,k≠i→(listed.setIfInBounds i true).getD k false=listed.getD k false:=fun k hk=>by
   simp only [Array.getD_eq_getD_getElem?,Array.getElem?_setIfInBounds,Ne.symm hk,if_false]
  have hdlt:∀d,o.dst=some d→d<a.tmps.size:=fun d hd=>by rw [h.tz];exact hsz d (YM ho hd)
  have next:∀a' w',(∃v,a'=a.put o.dst v∧(fAt T i).at_ (upd (fun d=>a.tmps.getD d undef) o.dst v) w'∧(w.grownBy w' none∨(Chg (fun b=>W.heap.size≤b∨(i,b)∈touch) w w'∧keeps (fun d=>a.tmps.getD d undef) w w' i T 0))∧prHop T ps (fun d=>a.tmps.getD d undef) w i v)→wpAny P .any ops Q fuel (listed.setIfInBounds i true) a' w':=fun a' w' ⟨v,ha,hv,hg,hpr⟩=>by
   subst ha;refine ih _ _ _ (h.step K hsz hst ho hun hwait hv hg) (fun p hpp l1 l2 => ?_) (Ww hc hl);obtain ⟨⟨oi,hoi,hdi⟩,⟨oj,hoj,hdj⟩,hij⟩:=hpo p hpp;have gi:=Vd a o.dst v p.di hdlt;have gj:=Vd a o.dst v p.dj hdlt;rw [gi,gj];have hop':=hpr p hpp
   by_cases e1:p.i=i
   ·subst e1
    rw [lset p.j (fun e=>hij e.symm)] at l2;rw [ho] at hoi;injection hoi with hoi;subst hoi;have ne:o.dst≠some p.dj:=fun e=>Ym K.nodup (l:=ops.toList) (i:=p.i) (j:=p.j) (by simpa using ho) (by simpa using hoj) hij (by rw [e]) hdj;rw [Xi _ _ _ _ ne,hdi];have hx:upd (fun d=>a.tmps.getD d undef) (some p.di) v p.di=v:=by simp [Zn]
    rw [hx];exact hop'.1 rfl (h.facts p.j oj hoj l2)
   ·rw [lset p.i e1] at l1
    have ne:o.dst≠some p.di:=fun e=>Ym K.nodup (l:=ops.toList) (i:=p.i) (j:=i) (by simpa using hoi) (by simpa using ho) e1 hdi e;rw [Xi _ _ _ _ ne]
    by_cases e2:p.j=i
    ·subst e2
     rw [ho] at hoj;injection hoj with hoj;subst hoj;rw [hdj];have hx:upd (fun d=>a.tmps.getD d undef) (some p.dj) v p.dj=v:=by simp [Zn]
     rw [hx];exact hop'.2 rfl (h.facts p.i oi hoi l1)
    ·rw [lset p.j e2] at l2
     have ne':o.dst≠some p.dj:=fun e=>Ym K.nodup (l:=ops.toList) (i:=p.j) (j:=i) (by simpa using hoj) (by simpa using ho) e2 hdj e;rw [Xi _ _ _ _ ne'];exact hp p hpp l1 l2
  unfold wpList at h1
  split
  ·rename_i hw
   rw [if_pos hw] at h1
   rcases h1 with h1 | h1
   ·exact .inl (We (Oper.wp_mono next h1))
   ·exact (XI h1.2).elim
  ·rename_i hw
   rw [if_neg hw] at h1;exact next _ _ h1
theorem region_reg7 {id:Nat} {w:World} (T:List Fact) (ps:List Pr) (touch:List (Nat × Nat)) (hm:P.follows .mixedOrders=true) (hB:regB ops (T.map (·.ts))=true) (hps:prOk ops ps=true) (hsz:(dsts ops).all (fun d=>d<a0.tmps.size)=true) (hst:Zw T)
  (hh:hops7 P ops T ps w.drew a0 touch ops.toList 0)
  (fin:∀(f:Tmp→Value) (w':World),Chg (fun b=>∃s,(s,b)∈touch) w.drew w'→knowsF T f w' T→(∀p∈ps,p.R (f p.di) (f p.dj))→Q .normal (puts a0 (dsts ops) f) w'):(Code.region id ops true).wp P Q a0 w:=by
 refine wp_region_any hm (reg7_any (W:=w.drew) (T:=T) (ps:=ps) (RegOk.of hB) hps (fun d hd=>by simpa using List.all_eq_true.1 hsz d hd) hst hh fin ops.size _ a0 _ ⟨Chg.refl _ _,fun _ _ _=>rfl,fun _ _ _ _ _ _=>rfl,by simp,rfl,rfl,fun _ _=>rfl, ?_, ?_⟩ ?_ ?_)
 ·intro k o hk hl
  simp only [Array.getD_eq_getD_getElem?,Array.getElem?_replicate] at hl
  split at hl <;> simp at hl
 ·intro k o hk hl
  simp only [Array.getD_eq_getD_getElem?,Array.getElem?_replicate] at hl
  split at hl <;> simp at hl
 ·intro p hp hl
  simp only [Array.getD_eq_getD_getElem?,Array.getElem?_replicate] at hl
  split at hl <;> simp at hl
 ·have:=List.countP_le_length (p:=fun b:Bool=>!b) (l:=(Array.replicate ops.size false).toList)
  simpa using this
end
end Go.Proofs.YthaadgdeadbhkaaGreat
