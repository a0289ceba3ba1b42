/-
 The values that EngineNew fills in,place by place;a new list of Auths.
-/
import Derived.Test.YthaadgdeadbhkaaGreatMgFnExactCountOutcomes24
open Go.RowKit
set_option linter.unusedVariables false
set_option linter.unusedSimpArgs false
namespace Go.Proofs.YthaadgdeadbhkaaGreat
def fillV (k:KM) (c:AM) (P s:Nat) (ins:List Int) (j:Nat):List AuM:=(List.range c.st.length).map fun i=>if i<j then initV k c P s ins i else noA
theorem fillV_len (k:KM) (c:AM) (P s:Nat) (ins:List Int) (j:Nat):(fillV k c P s ins j).length=c.st.length:=by simp [fillV]
theorem fillV_zero (k:KM) (c:AM) (P s:Nat) (ins:List Int):fillV k c P s ins 0=List.replicate c.st.length noA:=by
 unfold fillV;apply List.ext_getElem
 ·simp
 ·intro i h1 h2
  simp
theorem fillV_all (k:KM) (c:AM) (P s:Nat) (ins:List Int):fillV k c P s ins c.st.length=initL k c P s ins:=by
 unfold fillV initL;apply List.map_congr_left;intro i hi;rw [if_pos (List.mem_range.1 hi)]
theorem fillV_set (k:KM) (c:AM) (P s:Nat) (ins:List Int) {j:Nat} (hj:j<c.st.length):(fillV k c P s ins j).set j (initV k c P s ins j)=fillV k c P s ins (j+1):=by
 unfold fillV;apply List.ext_getElem
 ·simp
 ·intro i h1 h2
  rw [List.getElem_set];simp only [List.getElem_map,List.getElem_range]
  by_cases e:j=i
  ·subst e
   rw [if_pos rfl,if_pos (by omega)]
  ·rw [if_neg e]
   by_cases h:i<j
   ·rw [if_pos h,if_pos (by omega)]
   ·rw [if_neg h,if_neg (by omega)]
theorem fillV_same (k:KM) (c:AM) (P s:Nat) (ins:List Int) {j:Nat} (h:initV k c P s ins j=noA):fillV k c P s ins (j+1)=fillV k c P s ins j:=by
 unfold fillV;apply List.map_congr_left;intro i hi
 by_cases e:i=j
 ·subst e
  rw [if_pos (by omega),if_neg (by omega),h]
 ·by_cases h':i<j
  ·rw [if_pos (by omega),if_pos h']
  ·rw [if_neg (by omega),if_neg h']
theorem KX (z:Value) (n:Nat):(madeCells #[z,z] (n*2)).toList=List.replicate (n*2) z:=by
 apply List.ext_getElem?;intro j
 by_cases hj:j<n*2
 ·have h2:j % 2=0∨j % 2=1:=by omega
  rcases h2 with h2 | h2 <;> simp [madeCells,hj,h2]
 ·simp [madeCells,hj]
theorem flat_noA (n:Nat):(List.replicate n noA).flatMap cauth=List.replicate (n*2) (cints []):=by
 induction n with
 | zero=>rfl
 | succ n ih =>
  rw [List.replicate_succ,List.flatMap_cons,ih,show (n+1)*2=n*2+1+1 by omega,List.replicate_succ,List.replicate_succ];rfl
theorem YS (w:World):(cints []).own w [] (.slice none 0 0):=Ya (World.ownsRow_nil w 0 _ 1)
theorem KZ (w:World):∀n:Nat,OwnAll w (List.replicate n (cints [])) (List.replicate n (.slice none 0 0)) (List.replicate n [])
 | 0=>OwnAll.nil w
 | n+1=>by
  rw [List.replicate_succ,List.replicate_succ,List.replicate_succ];exact OwnAll.cons (YS w) (KZ w n) (by simp)
theorem flat_rep_nil {α:Type} (n:Nat):(List.replicate n ([]:List α)).flatten=[]:=by
 induction n with
 | zero=>rfl
 | succ n ih=>rw [List.replicate_succ,List.flatten_cons,ih];rfl
theorem cauths_made {w:World} {g n:Nat} {lo:Nat} (h:w.ownsRow lo 80 2 (.slice (some ⟨g,0,none⟩) n n) n (List.replicate (n*2) (.slice none 0 0))):(cauths (List.replicate n noA)).own w [g] (.slice (some ⟨g,0,none⟩) n n):=by
 refine ⟨n,_,List.replicate (n*2) [], ?_,ZE h (Nat.zero_le _), ?_, ?_,by simp⟩
 ·rw [flat_noA,List.length_replicate]
 ·rw [flat_noA];exact KZ w _
 ·rw [flat_rep_nil];rfl
def valF (lo n:Nat) (v:Value) (w:World):Prop:=∃g,v=.slice (some ⟨g,0,none⟩) n n∧lo≤g∧(cauths (List.replicate n noA)).own w [g] v
theorem valF_st {lo n:Nat}:stable (valF lo n):=fun v w w' ⟨g,h1,h2,h3⟩ hg=>⟨g,h1,h2,Zi _ h3 hg⟩
def engN (k:KM) (c:AM) (n:Nat):EM:=⟨k,c,List.replicate n noA,[],0,false⟩
def engZ (lo:Nat) (m:EM) (u:Value) (w:World):Prop:=∃A n c B q d C r e D o i,u=.agg #[.int .i64 m.k.p,.slice A n c,.int .i64 m.c.p,.slice B q d,.slice C r e,.slice D o i,.slice none 0 0,.int .i64 m.rd,.bool m.bad]∧aggF lo (Zf m) (.agg #[.int .i64 m.k.p,.slice A n c,.int .i64 m.c.p,.slice B q d,.slice C r e,.slice D o i,.slice none 0 0,.int .i64 m.rd,.bool m.bad]) w
theorem engZ.grow {lo:Nat} {m:EM} {u:Value} {w w':World} (h:engZ lo m u w) (hg:w.grownBy w' none):engZ lo m u w':=by
 obtain ⟨A,n,c,B,q,d,C,r,e,E,o,i,e1,h1⟩:=h;exact ⟨A,n,c,B,q,d,C,r,e,E,o,i,e1,h1.grow hg⟩
theorem ka_ty (k:KM) (m:AM):∀c∈ckeys k ++ carith m,tyd [3,102] c:=by
 intro c hc;simp only [List.mem_cons,List.mem_append,List.not_mem_nil,or_false] at hc
 rcases hc with (rfl | rfl) | rfl | rfl | rfl
 ·exact KP
 ·exact Xd (by simp)
 ·exact KP
 ·exact Xd (by simp)
 ·exact Xd (by simp)
theorem engZ.of {lo n:Nat} {k:KM} {c:AM} {u v x:Value} {w:World} (h:keyArL lo k c u v w) (hv:valF lo n x w):∃A n1 c1 B q d C r e g,u=.agg #[.int .i64 k.p,.slice A n1 c1]∧v=.agg #[.int .i64 c.p,.slice B q d,.slice C r e]∧x=.slice (some ⟨g,0,none⟩) n n∧engZ lo (engN k c n) (.agg #[.int .i64 k.p,.slice A n1 c1,.int .i64 c.p,.slice B q d,.slice C r e,.slice (some ⟨g,0,none⟩) n n,.slice none 0 0,.int .i64 0,.bool false]) w:=by
 obtain ⟨A,n1,c1,B,q,d,C,r,e,rfl,rfl,Fs,h1,h2⟩:=h;obtain ⟨g,rfl,hg,hv⟩:=hv
 have hgT:∃cur z,w.heap[g]?=some (.cells cur 80 z):=by
  obtain ⟨n',vs,Gs,a1,a2,a3,a4,a5⟩:=hv
  rcases a2.2 with ⟨e,_⟩ | ⟨g',cap,cur,e,_,e1,_⟩
  ·cases e
  ·injection e with e
   injection e with e;injection e with e;subst e;exact ⟨_,_,e1⟩
 have hdis:g∉Fs.flatten:=by
  intro hx;obtain ⟨cur,T,z,e1,e2⟩:=KQ h1 (ka_ty k c) g hx;obtain ⟨cur',z',e3⟩:=hgT;rw [e3] at e1;injection e1 with e1;injection e1 with _ e1 _;rw [← e1] at e2
  revert e2
  decide
 have hz:OwnAll w [ci 0,cb false] [.int .i64 0,.bool false] [[],[]]:=OwnAll.cons (Qu w 0) (OwnAll.cons (cb_own w false) (OwnAll.nil _) (by simp)) (by simp);have h5:OwnAll w [cauths (List.replicate n noA),cints [],ci 0,cb false] [.slice (some ⟨g,0,none⟩) n n,.slice none 0 0,.int .i64 0,.bool false] [[g],[],[],[]]:=OwnAll.cons hv (OwnAll.cons (YS w) hz (by simp)) (by simp)
 have h6:=h1.append h5 (fun y hy hy'=>by
  simp at hy';subst hy'
  exact hdis hy)
 refine ⟨A,n1,c1,B,q,d,C,r,e,g,rfl,rfl,rfl,A,n1,c1,B,q,d,C,r,e,_,_,_,rfl,_,⟨_,_,rfl,h6,rfl⟩,fun y hy => ?_⟩;rw [List.flatten_append] at hy
 rcases List.mem_append.1 hy with hy | hy
 ·exact h2 y hy
 ·simp at hy
  omega
def eng0L:List Value:=[.int .i64 0,.slice none 0 0,.int .i64 0,.slice none 0 0,.slice none 0 0,.slice none 0 0,.slice none 0 0,.int .i64 0,.bool false]
noncomputable def newB (k:KM) (c:AM) (ins:List Int) (s a:Int):Bool:=keysB k&&arithB c&&(k.p == c.p)&&((ins.length:Int) == 60)&&elemsB c.p ins&&tapeB s a&&!decide (900000<a)
set_option maxHeartbeats 4000000 in
set_option maxRecDepth 100000 in
theorem QO (k:KM) (c:AM) (I:Option Addr) (ni ci:Nat) (ins:List Int) (s a:Int) (kv cv:Value) (w0:World) (h:AggR w0 (ckeys k) kv) (hc:AggR w0 (carith c) cv) (hi:Ints w0 I ni ins) (wk:kwf k) (wc:amwf c) (hn:ni≤1048576) (hs:i64w a) (hb:newB k c ins s a=false) :
  Calls Tryz.prog 50 #[kv,cv,.slice I ni ci,.agg #[.int .i64 s,.int .i64 a]] w0 fun e w'=>e=.returned (.tuple #[.agg #[.int .i64 0,.slice none 0 0,.int .i64 0,.slice none 0 0,.slice none 0 0,.slice none 0 0,.slice none 0 0,.int .i64 0,.bool false],.bool false])∧w0.grownBy w' none:=by
 obtain ⟨KA,kc,rfl,_,_,_⟩:=ZG h;obtain ⟨u1,u2,rfl,c1,c2⟩:=Zt hc;obtain ⟨A1,n1,rfl,_,_,_⟩:=ZP (s:=3) (fun _=>rfl) (by omega) c1;obtain ⟨A2,n2,rfl,_,_,_⟩:=Zx c2;obtain ⟨w1,hw1⟩:∃y:World,(((w0.alloc (.cells #[.int .i64 k.p,.slice KA k.al.length kc] 34)).alloc (.cells #[.int .i64 c.p,.slice A1 c.st.length n1,.slice A2 c.outs.length n2] 38)).alloc (.cells #[.int .i64 s,.int .i64 a] 41)).alloc (.cells #[.int .i64 0,.slice none 0 0,.int .i64 0,.slice none 0 0,.slice none 0 0,.slice none 0 0,.slice none 0 0,.int .i64 0,.bool false] 58)=y:=⟨_,rfl⟩;have GB:Hid (w0.grownBy w1 none):=by rw [← hw1];exact gbA (gbA (gbA (gbA (gbR _ _) _) _) _) _
 have D0:Hid (Blk w1 w0.heap.size 34 #[.int .i64 k.p,.slice KA k.al.length kc]):=by rw [← hw1];exact (((Blk.new w0 _ _).grow (gbA (gbR _ _) _)).grow (gbA (gbR _ _) _)).grow (gbA (gbR _ _) _)
 have D1:Hid (Blk w1 (w0.heap.size+1) 38 #[.int .i64 c.p,.slice A1 c.st.length n1,.slice A2 c.outs.length n2]):=by rw [← hw1];exact ((Blk.new' _ _ _ _ (by simp)).grow (gbA (gbR _ _) _)).grow (gbA (gbR _ _) _)
 have D2:Hid (Blk w1 (w0.heap.size+1+1) 41 #[.int .i64 s,.int .i64 a]):=by rw [← hw1];exact (Blk.new' _ _ _ _ (by simp)).grow (gbA (gbR _ _) _)
 have D8:Hid (Blk w1 (w0.heap.size+1+1+1) 58 #[.int .i64 0,.slice none 0 0,.int .i64 0,.slice none 0 0,.slice none 0 0,.slice none 0 0,.slice none 0 0,.int .i64 0,.bool false]):=by rw [← hw1];exact Blk.new' _ _ _ _ (by simp)
 have HK:=zH (AggR.grow h GB.out);have HC:=zH (AggR.grow hc GB.out);have HI:=zH (hi.grow GB.out);have HL:=zH hi.len;have WK:=zH wk;have WC:=zH wc;have HB:Hid (newB k c ins s a=(keysB k&&arithB c&&(k.p == c.p)&&((ins.length:Int) == 60)&&elemsB c.p ins&&tapeB s a&&!decide (900000<a))):=rfl;rw [hb] at HB;clear h hc hi wk wc c1 c2 hb;have hcp:=WC.out.wf.1;obtain ⟨hcp1,hcp2⟩:=hcp;obtain ⟨hs1,hs2⟩:=hs
 go_enter Tryz.func50,Tryz.ntmps50
 have k0:=D0.out.cell 0;have k1:=D0.out.cell 1;have x0:=D1.out.cell 0;have x1:=D1.out.cell 1;have x2:=D1.out.cell 2;have y0:=D2.out.cell 0;have y1:=D2.out.cell 1;simp at k0 k1 x0 x1 x2 y0 y1;go_wp2_with fail;obtain ⟨gR,hgR'⟩:∃g,w0.heap.size+1+1+1=g:=⟨_,rfl⟩;have hgR:w0.heap.size≤gR:=by omega
 rw [hgR'] at D8 ⊢;clear hgR' hw1 k0 k1 x0 x1 x2 y0 y1;refine (YQ k _ _ HK.out WK.out).mono ?_;rintro e w2 ⟨rfl,g2⟩
 cases b1:keysB k
 ·skip
  have GZ:=gbT GB.out (g2);have RZ:=D8.out.grow (g2);obtain ⟨f0,f1,f2,f3,f4,f5,f6,f7,f8⟩:=RZ.f9;obtain ⟨b0,b1,b2,b3,b4,b5,b6,b7,b8⟩:=RZ.c9;have RS:=Zd RZ eng0L rfl;have GS:=Zu GZ (Za gR eng0L 0 _) hgR;simp only [Zm,eng0L,Nat.zero_add,Nat.reduceAdd] at RS GS;have RS:=zH RS;have GS:=zH GS;clear RZ GZ;go_wp2_with fail;refine Xq Tryz.results50 (by rfl) Yu (cs:=#[.int .i64 0,.slice none 0 0,.int .i64 0,.slice none 0 0,.slice none 0 0,.slice none 0 0,.slice none 0 0,.int .i64 0,.bool false]) RS.out (by rfl) (by rfl) ?_;exact ⟨rfl,GS.out⟩
 have x0:=(D1.out.grow g2).cell 0;have x1:=(D1.out.grow g2).cell 1;have x2:=(D1.out.grow g2).cell 2;simp at x0 x1 x2;have G2:=zH g2;clear g2;go_wp2_with fail;clear x0 x1 x2;refine (ZU c _ _ (AggR.grow HC.out G2.out) WC.out.wf).mono ?_;rintro e w3 ⟨rfl,g3⟩;have g3:=gbT G2.out g3;clear G2
 cases b2:arithB c
 ·skip
  have GZ:=gbT GB.out (g3);have RZ:=D8.out.grow (g3);obtain ⟨f0,f1,f2,f3,f4,f5,f6,f7,f8⟩:=RZ.f9;obtain ⟨b0,b1,b2,b3,b4,b5,b6,b7,b8⟩:=RZ.c9;have RS:=Zd RZ eng0L rfl;have GS:=Zu GZ (Za gR eng0L 0 _) hgR;simp only [Zm,eng0L,Nat.zero_add,Nat.reduceAdd] at RS GS;have RS:=zH RS;have GS:=zH GS;clear RZ GZ;go_wp2_with fail;refine Xq Tryz.results50 (by rfl) Yu (cs:=#[.int .i64 0,.slice none 0 0,.int .i64 0,.slice none 0 0,.slice none 0 0,.slice none 0 0,.slice none 0 0,.int .i64 0,.bool false]) RS.out (by rfl) (by rfl) ?_;exact ⟨rfl,GS.out⟩
 have G3:=zH g3;have k0:=(D0.out.grow g3).cell 0;have x0:=(D1.out.grow g3).cell 0;simp at k0 x0
 cases b3:(k.p == c.p)
 ·have n3:(k.p != c.p)=true:=by rw [bne,b3];rfl
  clear b3;have GZ:=gbT GB.out (g3);have RZ:=D8.out.grow (g3);obtain ⟨f0,f1,f2,f3,f4,f5,f6,f7,f8⟩:=RZ.f9;obtain ⟨b0,b1,b2,b3,b4,b5,b6,b7,b8⟩:=RZ.c9;have RS:=Zd RZ eng0L rfl;have GS:=Zu GZ (Za gR eng0L 0 _) hgR;simp only [Zm,eng0L,Nat.zero_add,Nat.reduceAdd] at RS GS;have RS:=zH RS;have GS:=zH GS;clear RZ GZ;go_wp2_with fail;refine Xq Tryz.results50 (by rfl) Yu (cs:=#[.int .i64 0,.slice none 0 0,.int .i64 0,.slice none 0 0,.slice none 0 0,.slice none 0 0,.slice none 0 0,.int .i64 0,.bool false]) RS.out (by rfl) (by rfl) ?_;exact ⟨rfl,GS.out⟩
 have n3:(k.p != c.p)=false:=by rw [bne,b3];rfl
 have hl:(ins.length:Int)=(ni:Int):=by rw [HL.out]
 rw [hl] at HB;clear hl
 cases b4:((ni:Int) == 60)
 ·have n4:((ni:Int) != 60)=true:=by rw [bne,b4];rfl
  clear b3 b4;have GZ:=gbT GB.out (g3);have RZ:=D8.out.grow (g3);obtain ⟨f0,f1,f2,f3,f4,f5,f6,f7,f8⟩:=RZ.f9;obtain ⟨b0,b1,b2,b3,b4,b5,b6,b7,b8⟩:=RZ.c9;have RS:=Zd RZ eng0L rfl;have GS:=Zu GZ (Za gR eng0L 0 _) hgR;simp only [Zm,eng0L,Nat.zero_add,Nat.reduceAdd] at RS GS;have RS:=zH RS;have GS:=zH GS;clear RZ GZ;go_wp2_with fail;refine Xq Tryz.results50 (by rfl) Yu (cs:=#[.int .i64 0,.slice none 0 0,.int .i64 0,.slice none 0 0,.slice none 0 0,.slice none 0 0,.slice none 0 0,.int .i64 0,.bool false]) RS.out (by rfl) (by rfl) ?_;exact ⟨rfl,GS.out⟩
 have n4:((ni:Int) != 60)=false:=by rw [bne,b4];rfl
 rw [b1,b2,b3,b4] at HB;clear b1 b2 b3 b4 g3;go_wp2_with fail;clear n3 n4 k0 x0;refine (Zp c.p I ni ci ins w3 hcp2 hcp1 (HI.out.grow G3.out) (by omega)).mono ?_;rintro e w4 ⟨rfl,rfl⟩
 cases b5:elemsB c.p ins
 ·skip
  have GZ:=gbT GB.out (G3.out);have RZ:=D8.out.grow (G3.out);obtain ⟨f0,f1,f2,f3,f4,f5,f6,f7,f8⟩:=RZ.f9;obtain ⟨b0,b1,b2,b3,b4,b5,b6,b7,b8⟩:=RZ.c9;have RS:=Zd RZ eng0L rfl;have GS:=Zu GZ (Za gR eng0L 0 _) hgR;simp only [Zm,eng0L,Nat.zero_add,Nat.reduceAdd] at RS GS;have RS:=zH RS;have GS:=zH GS;clear RZ GZ;go_wp2_with fail;refine Xq Tryz.results50 (by rfl) Yu (cs:=#[.int .i64 0,.slice none 0 0,.int .i64 0,.slice none 0 0,.slice none 0 0,.slice none 0 0,.slice none 0 0,.int .i64 0,.bool false]) RS.out (by rfl) (by rfl) ?_;exact ⟨rfl,GS.out⟩
 rw [b5] at HB;clear b5;have y0:=(D2.out.grow G3.out).cell 0;have y1:=(D2.out.grow G3.out).cell 1;simp at y0 y1;go_wp2_with fail;clear y0 y1;refine (Yj s a _).mono ?_;rintro e w4 ⟨rfl,g4⟩;have g4:=gbT G3.out g4
 cases b6:tapeB s a
 ·skip
  have GZ:=gbT GB.out (g4);have RZ:=D8.out.grow (g4);obtain ⟨f0,f1,f2,f3,f4,f5,f6,f7,f8⟩:=RZ.f9;obtain ⟨b0,b1,b2,b3,b4,b5,b6,b7,b8⟩:=RZ.c9;have RS:=Zd RZ eng0L rfl;have GS:=Zu GZ (Za gR eng0L 0 _) hgR;simp only [Zm,eng0L,Nat.zero_add,Nat.reduceAdd] at RS GS;have RS:=zH RS;have GS:=zH GS;clear RZ GZ;go_wp2_with fail;refine Xq Tryz.results50 (by rfl) Yu (cs:=#[.int .i64 0,.slice none 0 0,.int .i64 0,.slice none 0 0,.slice none 0 0,.slice none 0 0,.slice none 0 0,.int .i64 0,.bool false]) RS.out (by rfl) (by rfl) ?_;exact ⟨rfl,GS.out⟩
 rw [b6] at HB;have y1:=(D2.out.grow g4).cell 1;simp at y1
 have hb:(900000:Int)<a:=by
  have:=HB.out;simp at this;omega
 have GZ:=gbT GB.out (g4);have RZ:=D8.out.grow (g4);obtain ⟨f0,f1,f2,f3,f4,f5,f6,f7,f8⟩:=RZ.f9;obtain ⟨b0,b1,b2,b3,b4,b5,b6,b7,b8⟩:=RZ.c9;have RS:=Zd RZ eng0L rfl;have GS:=Zu GZ (Za gR eng0L 0 _) hgR;simp only [Zm,eng0L,Nat.zero_add,Nat.reduceAdd] at RS GS;have RS:=zH RS;have GS:=zH GS;clear RZ GZ;go_wp2_with fail;refine Xq Tryz.results50 (by rfl) Yu (cs:=#[.int .i64 0,.slice none 0 0,.int .i64 0,.slice none 0 0,.slice none 0 0,.slice none 0 0,.slice none 0 0,.int .i64 0,.bool false]) RS.out (by rfl) (by rfl) ?_;exact ⟨rfl,GS.out⟩
end Go.Proofs.YthaadgdeadbhkaaGreat
