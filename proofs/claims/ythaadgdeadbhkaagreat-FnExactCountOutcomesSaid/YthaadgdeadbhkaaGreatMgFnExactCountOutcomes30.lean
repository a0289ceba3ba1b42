/-
 EngineRun of the program.
-/
import Derived.Test.YthaadgdeadbhkaaGreatMgFnExactCountOutcomes29
open Go.RowKit
set_option linter.unusedVariables false
set_option linter.unusedSimpArgs false
namespace Go.Proofs.YthaadgdeadbhkaaGreat
attribute [local simp] depsC dstAt kAt bindE List.filter_cons Zz Zq Zr Zs ZA ZW puts dsts Act.put
def errS (n:Nat) (zs:List Int) (v:Value) (w:World):Prop:=∃A c,v=.slice A n c∧Ints w A n zs
theorem Ints.cut {w:World} {A:Option Addr} {n:Nat} {zs:List Int} (h:Ints w A n zs) {x m:Nat} (hk:x+m≤n):Ints w (A.map fun a=>a.add x) m ((zs.drop x).take m):=by
 by_cases hm:m=0
 ·subst hm;rw [List.take_zero];exact Ints.none'
 ·obtain ⟨b,o,rfl,_⟩:=h.at_ (by omega)
  have hadd:(⟨b,o,none⟩:Addr).add x=⟨b,o+x,none⟩:=by unfold Addr.add;split <;> simp_all
  rw [Option.map_some,hadd];exact h.part hk
theorem JB {w:World} {A:Option Addr} {n c:Nat} {zs es:List Int} (h:Ints w A n zs) {x m q:Nat} (hq:q=m) (hk:x+m≤n) (he:(zs.drop x).take m=es):errS m es (.slice (A.map fun a=>a.add x) q c) w:=by
 subst hq;rw [← he];exact ⟨_,_,rfl,h.cut hk⟩
theorem JC {w:World} {A:Option Addr} {c q:Nat} {zs es:List Int} (hq:q=0) (he:zs.take 0=es):errS 0 es (.slice A q c) w:=by
 rw [← he,List.take_zero,hq];exact ⟨_,_,rfl,Ints.none'⟩
theorem Vz {n:Nat} {zs:List Int}:stable (errS n zs):=fun v w w' ⟨A,c,h1,h2⟩ hg=>⟨A,c,h1,h2.grow hg⟩
def engTup (lo:Nat) (m:EM) (v:Value) (w:World):Prop:=∃A B C D E a b c d e,v=.tuple #[.agg #[.int .i64 m.k.p,.slice A m.k.al.length a,.int .i64 m.c.p,.slice B m.c.st.length b,.slice C m.c.outs.length c,.slice D m.vs.length d,.slice E m.op.length e,.int .i64 m.rd,.bool m.bad],.bool true]∧aggF lo (Zf m) (.agg #[.int .i64 m.k.p,.slice A m.k.al.length a,.int .i64 m.c.p,.slice B m.c.st.length b,.slice C m.c.outs.length c,.slice D m.vs.length d,.slice E m.op.length e,.int .i64 m.rd,.bool m.bad]) w
theorem UT {lo:Nat} {m:EM}:stable (engTup lo m):=fun v w w' ⟨A,B,C,D,E,a,b,c,d,e,h1,h2⟩ hg=>⟨A,B,C,D,E,a,b,c,d,e,h1,YG _ _ _ h2 hg⟩
theorem aggF.eng {lo:Nat} {m:EM} {v:Value} {w:World} (h:aggF lo (Zf m) v w):∃A B C D E a b c d e,v=.agg #[.int .i64 m.k.p,.slice A m.k.al.length a,.int .i64 m.c.p,.slice B m.c.st.length b,.slice C m.c.outs.length c,.slice D m.vs.length d,.slice E m.op.length e,.int .i64 m.rd,.bool m.bad]:=by
 obtain ⟨F,h1,_⟩:=h;obtain ⟨A,B,C,D,E,a,b,c,d,e,hv,_⟩:=Yk h1.rd;exact ⟨A,B,C,D,E,a,b,c,d,e,hv⟩
theorem aggF.far {lo g:Nat} {m:EM} {v:Value} {w w':World} {T:TypeId} {cs:Array Value} (h:aggF lo (Zf m) v w) (B:Blk w g T cs) (k:Chg (fun y=>y=g) w w') (hT:T∉[3,102,80]):aggF lo (Zf m) v w':=by
 obtain ⟨F,h1,h2⟩:=h;have hg:=WR (Yr m) h1 B hT;exact ⟨F,h1.chg k (fun x hx e=>hg (e ▸ hx)),h2⟩
theorem chgA {S:Nat→Prop} (w:World) (o:Obj):Chg S w (w.alloc o):=Chg.of (gbA (gbR w none) o) (by simp)
theorem Un {w:World} {base s n g:Nat} {e T:TypeId} {v:Value} {xs:List Value} {cs:Array Value} (h:w.ownsRow base e s v n xs) (k:Blk w g T cs) (hne:e≠T):v.ownBlock≠some g:=by
 intro hv
 rcases h.2 with ⟨h1,_⟩ | ⟨g1,cap,cur,hv1,_,hg,_⟩
 ·rw [h1] at hv;cases hv
 ·rw [hv1] at hv
  have:g1=g:=by simpa [Value.ownBlock] using hv
  subst this;unfold Blk at k;rw [k] at hg;injection hg with hg;injection hg with _ h2 _;exact hne h2.symm
theorem SOF.typ {m:EM} {g:Nat} {F:List Nat} {w w':World} {S:Nat→Prop} (h:SOF 58 (Zf m) g F w) (k:Chg S w w') (hS:∀y,S y→y<w.heap.size→∃T us,Blk w y T us∧T∉[3,102,80]∧T≠58):SOF 58 (Zf m) g F w':=by
 have hlt:=h.lt;have hltg:=h.ltg;obtain ⟨vs,h1,h2⟩:=h.agg;refine h.chg k (fun x hx hs => ?_) (fun hs => ?_)
 ·obtain ⟨T,us,B,hT,_⟩:=hS x hs (hlt x hx)
  exact WR (Yr m) h2 B hT hx
 ·obtain ⟨T,us,B,_,hT⟩:=hS g hs hltg
  unfold Blk at B h1;rw [B] at h1;injection h1 with h1;injection h1 with _ h4 _;exact hT h4
theorem SOF.eqM {T:TypeId} {m m':EM} {g:Nat} {F:List Nat} {w:World} (e:m=m') (h:SOF T (Zf m') g F w):SOF T (Zf m) g F w:=by rw [e];exact h
theorem Blk.eqI {w:World} {g:Nat} {T:TypeId} {s:Value} {x y:Int} (e:x=y) (h:Blk w g T #[s,.int .i64 y]):Blk w g T #[s,.int .i64 x]:=by rw [e];exact h
theorem JG {x v:Value} {w w':World} (h:isV x v w):isV x v w':=h
theorem engTup_far {lo g:Nat} {m:EM} {v:Value} {w w':World} {T:TypeId} {cs:Array Value} (h:engTup lo m v w) (B:Blk w g T cs) (k:Chg (fun y=>y=g) w w') (hT:T∉[3,102,80]):engTup lo m v w':=by
 obtain ⟨A,B',C,D,E,a,b,c,d,e,h1,h2⟩:=h;exact ⟨A,B',C,D,E,a,b,c,d,e,h1,aggF.far h2 B k hT⟩
set_option maxHeartbeats 8000000 in
set_option maxRecDepth 100000 in
theorem Qp (k:KM) (c:AM) (P s a:Nat) (I R:Option Addr) (ci nr cr:Nat) (ins es:List Int) (kv cv:Value) (w0:World) (h:AggR w0 (ckeys k) kv) (hc:AggR w0 (carith c) cv) (hi:Ints w0 I 60 ins) (he:Ints w0 R nr es) (wk:kwf k) (wc:amwf c) (hf:Fit k c P ins) (hes:elemsB k.p es=true) (hs:s<4294967296) (ha:a≤900000) (hnr:nr≤1048576) (hcr:nr≤cr) :
  Calls Tryz.prog 14 #[kv,cv,.slice I 60 ci,.agg #[.int .i64 s,.int .i64 a],.slice R nr cr] w0 (OutJ (runAt k c P s ins es) w0):=by
 obtain ⟨KA,kc,rfl,_,_,_⟩:=ZG h;obtain ⟨u1,u2,rfl,c1,c2⟩:=Zt hc;obtain ⟨A1,n1,rfl,_,_,_⟩:=ZP (s:=3) (fun _=>rfl) (by omega) c1;obtain ⟨A2,n2,rfl,_,_,_⟩:=Zx c2;obtain ⟨wi,hw1⟩:∃y:World,((w0.alloc (.cells #[.int .i64 k.p,.slice KA k.al.length kc] 34)).alloc (.cells #[.int .i64 c.p,.slice A1 c.st.length n1,.slice A2 c.outs.length n2] 38)).alloc (.cells #[.int .i64 s,.int .i64 a] 41)=y:=⟨_,rfl⟩;have GB:Hid (w0.grownBy wi none):=by rw [← hw1];exact gbA (gbA (gbA (gbR _ _) _) _) _
 have z1:Hid (wi.heap.size=w0.heap.size+3):=by rw [← hw1];exact zH (by simp)
 have D0:Hid (Blk wi w0.heap.size 34 #[.int .i64 k.p,.slice KA k.al.length kc]):=by rw [← hw1];exact ((Blk.new w0 _ _).grow (gbA (gbR _ _) _)).grow (gbA (gbR _ _) _)
 have D1:Hid (Blk wi (w0.heap.size+1) 38 #[.int .i64 c.p,.slice A1 c.st.length n1,.slice A2 c.outs.length n2]):=by rw [← hw1];exact (Blk.new' _ _ _ _ (by simp)).grow (gbA (gbR _ _) _)
 have D2:Hid (Blk wi (w0.heap.size+1+1) 41 #[.int .i64 s,.int .i64 a]):=by rw [← hw1];exact Blk.new' _ _ _ _ (by simp)
 have HK:=zH (AggR.grow h GB.out);have HC:=zH (AggR.grow hc GB.out);have HI:=zH (hi.grow GB.out);have HE:=zH (he.grow GB.out);have WK:=zH wk;have WC:=zH wc;have FT:=zH hf;have EB:=zH hes;have KB:=zH hf.kb;have TB:=zH (Yw hs (show a≤1000000 by omega));have d9:¬(900000:Int)<(a:Int):=by omega
 have hkp1:=wk.1.1;have hkp2:=wk.1.2;obtain ⟨s1,hs1⟩:∃x,keyN s 9 1=x:=⟨_,rfl⟩;obtain ⟨s2,hs2⟩:∃x,keyN s 9 2=x:=⟨_,rfl⟩;have hs1l:s1<4294967296:=by rw [← hs1];exact Wf hs (by omega) (by omega)
 have hs2l:s2<4294967296:=by rw [← hs2];exact Wf hs (by omega) (by omega)
 have NB:=zH (newB_yes (s:=s1) hf hs1l);have HPN:=zH hf.pn;have HRA:Hid (runAt k c P s ins es=engAt k c P s1 s2 ins es (rounds c).toNat):=by unfold Hid runAt;rw [hs1,hs2]
 have HS1:=zH hs1;have HS2:=zH hs2;clear h hc hi he wk wc c1 c2 hes hf hs1 hs2
 go_enter Tryz.func14,Tryz.ntmps14
 have y0:=D2.out.cell 0;have y1:=D2.out.cell 1;simp at y0 y1;go_wp2_with fail;clear hw1 y0 y1;refine (Yj s a _).mono ?_;rintro e w2 ⟨rfl,g2⟩;rw [TB.out];have y1:=(D2.out.grow g2).cell 1;simp at y1;have G2:=zH g2;clear g2;go_wp2_with fail;clear y1;have B0:=zH (D0.out.grow G2.out);have B1:=zH (D1.out.grow G2.out);have B2:=zH (D2.out.grow G2.out);have k0:=B0.out.cell 0;have k1:=B0.out.cell 1;have x0:=B1.out.cell 0;have x1:=B1.out.cell 1;have x2:=B1.out.cell 2;have y0:=B2.out.cell 0;have y1:=B2.out.cell 1;simp at k0 k1 x0 x1 x2 y0 y1;have K0:=zH k0;have K1:=zH k1;have X0:=zH x0;have X1:=zH x1;have X2:=zH x2;have Y0:=zH y0;have Y1:=zH y1;clear k0 k1 x0 x1 x2 y0 y1;have hlz:=G2.out.size;obtain ⟨m0,hm0⟩:∃m,engNew k c P s1 ins=m:=⟨_,rfl⟩;have HM0:=zH hm0;clear hm0
 refine Zg [.rd (.agg #[.int .i64 k.p,.slice KA k.al.length kc]),.rd (.agg #[.int .i64 c.p,.slice A1 c.st.length n1,.slice A2 c.outs.length n2]),.rd (.slice I 60 ci),.rd (.agg #[.int .i64 s,.int .i64 a]),.fl (isV (.agg #[.int .i64 s1,.int .i64 0])),.fl (engTup w2.heap.size m0),.fl (engTup w2.heap.size m0),.fl (aggF w2.heap.size (Zf m0)),.rd (.bool true),.ch,.ch,.ch] (fun x=>w2.heap.size≤x)
  [⟨[],fun _ w'=>w2.drew.grownBy w' none⟩,
   ⟨[12],fun l w'=>(∃g,l.getD 0 undef=.pointer (some ⟨g,0,none⟩)∧w2.heap.size≤g∧Blk w' g 58 #[.int .i64 0,.slice none 0 0,.int .i64 0,.slice none 0 0,.slice none 0 0,.slice none 0 0,.slice none 0 0,.int .i64 0,.bool false])∧w2.grownBy w' none⟩,
   ⟨[12],fun l w'=>(∃g,l.getD 0 undef=.pointer (some ⟨g,0,none⟩)∧w2.heap.size≤g∧sofF w2.heap.size 58 (Zf m0) g w')∧w2.grownBy w' none⟩,
   ⟨[12,13],fun l w'=>(∃g,l.getD 0 undef=.pointer (some ⟨g,0,none⟩)∧l.getD 1 undef=.bool true∧w2.heap.size≤g∧sofF w2.heap.size 58 (Zf m0) g w')∧w2.grownBy w' none⟩]
  (by kernel_rfl) (by kernel_rfl) (by kernel_rfl) 3 (by kernel_rfl) ?_ (gbR _ _) rfl ?_ ?_
 ·have hst:Zw [⟨[],fun _ w'=>w2.drew.grownBy w' none⟩,⟨[12],fun l w'=>(∃g,l.getD 0 undef=.pointer (some ⟨g,0,none⟩)∧w2.heap.size≤g∧Blk w' g 58 #[.int .i64 0,.slice none 0 0,.int .i64 0,.slice none 0 0,.slice none 0 0,.slice none 0 0,.slice none 0 0,.int .i64 0,.bool false])∧w2.grownBy w' none⟩,⟨[12],fun l w'=>(∃g,l.getD 0 undef=.pointer (some ⟨g,0,none⟩)∧w2.heap.size≤g∧sofF w2.heap.size 58 (Zf m0) g w')∧w2.grownBy w' none⟩,⟨[12,13],fun l w'=>(∃g,l.getD 0 undef=.pointer (some ⟨g,0,none⟩)∧l.getD 1 undef=.bool true∧w2.heap.size≤g∧sofF w2.heap.size 58 (Zf m0) g w')∧w2.grownBy w' none⟩]:=by
   refine Zc (fun l w1 w2 h hg=>gbT h hg) ?_;refine Zc (Zo fun l w1 w2 ⟨⟨g,h1,h2,h3⟩,h4⟩ hg=>⟨⟨g,h1,h2,h3.grow hg⟩,gbT h4 hg⟩) ?_;refine Zc (Zo fun l w1 w2 ⟨⟨g,h1,h2,h3⟩,h4⟩ hg=>⟨⟨g,h1,h2,h3.grow hg⟩,gbT h4 hg⟩) ?_;exact Zc (Zo fun l w1 w2 ⟨⟨g,h1,h1',h2,h3⟩,h4⟩ hg=>⟨⟨g,h1,h1',h2,h3.grow hg⟩,gbT h4 hg⟩) ZX
  simp only [flOk,true_and,and_true];exact ⟨⟨Zb _,hst⟩,⟨UT,hst⟩,⟨UT,hst⟩,⟨YG,hst⟩⟩
 ·simp only [hopsK,hopK,Kd.next,and_true]
  refine ⟨?_, ?_, ?_, ?_, ?_, ?_, ?_, ?_, ?_, ?_, ?_, ?_⟩;rotate_left 4
  ·intro f w4 hG hd
   have hg4:=gbChg (gbD (gbR w2 none)) hG (fun y hy=>hy);have hz4:=hg4.size
   (try simp at hd)
   (first | simp [hd] | simp)
   clear hd;go_wp2_with fail;refine (Xc s a 1 w4 hs (by omega) (by omega)).mono ?_;rintro e w6 ⟨rfl,g6⟩;rw [HS1.out];have G6:=zH g6;clear g6;go_wp2_with fail;exact ⟨_,rfl,rfl,G6.out⟩
  ·intro f w4 hG hd
   have hg4:=gbChg (gbD (gbR w2 none)) hG (fun y hy=>hy);have hz4:=hg4.size
   (try simp at hd)
   simp only [isV] at hd
   (first | simp [hd] | simp)
   clear hd;go_wp2_with fail;refine (WW k c P s1 0 I ci ins _ _ w4 (HK.out.grow (gbT G2.out hg4)) (HC.out.grow (gbT G2.out hg4)) (HI.out.grow (gbT G2.out hg4)) WK.out WC.out HPN.out NB.out).mono ?_;rintro e w6 ⟨v6,rfl,o6,g6⟩;rw [HM0.out] at o6;obtain ⟨A',B',C',D',E',a',b',c',d',e',rfl⟩:=o6.eng;obtain ⟨F6,o6,l6⟩:=o6;have O6:Hid (engTup w2.heap.size m0 _ w6):=zH ⟨A',B',C',D',E',a',b',c',d',e',rfl,F6,o6,fun x hx=>Nat.le_trans hz4 (l6 x hx)⟩;have G6:=zH g6;clear o6 g6 l6;go_wp2_with fail;exact ⟨_,rfl,O6.out,G6.out⟩
  ·intro f w4 hG hd
   have hg4:=gbChg (gbD (gbR w2 none)) hG (fun y hy=>hy);have hz4:=hg4.size
   (try simp at hd)
   obtain ⟨A',B',C',D',E',a',b',c',d',e',e9,o6⟩:=hd;simp [puts,dsts,Act.put,e9];go_wp2_with fail;exact ⟨_,rfl,⟨A',B',C',D',E',a',b',c',d',e',rfl,o6⟩,gbR _ _⟩
  ·intro f w4 hG hd
   have hg4:=gbChg (gbD (gbR w2 none)) hG (fun y hy=>hy);have hz4:=hg4.size
   (try simp at hd)
   obtain ⟨A',B',C',D',E',a',b',c',d',e',e9,o6⟩:=hd;simp [puts,dsts,Act.put,e9];go_wp2_with fail;exact ⟨_,rfl,o6,gbR _ _⟩
  ·intro f w4 hG hd
   have hg4:=gbChg (gbD (gbR w2 none)) hG (fun y hy=>hy)
   (try simp at hd)
   obtain ⟨A',B',C',D',E',a',b',c',d',e',e9,o6⟩:=hd;simp [puts,dsts,Act.put,e9];go_wp2_with fail;exact ⟨rfl,rfl⟩
  ·intro f w4 hG hI hd
   have hg4:=gbChg (gbD (gbR w2 none)) hG (fun y hy=>hy);have hz4:=hg4.size;clear hd;simp [puts,dsts,Act.put];go_wp2_with fail;exact ⟨_,rfl,⟨⟨_,rfl,hz4,Blk.new _ _ _⟩,gbA hg4 _⟩,⟨chgA _ _,by simp [keepsC,dstAt];exact ⟨JG,fun h=>UT _ _ _ h (gbA (gbR _ _) _),fun h=>UT _ _ _ h (gbA (gbR _ _) _),fun h=>YG _ _ _ h (gbA (gbR _ _) _)⟩⟩⟩
  ·intro f w4 hG hI hd
   have hg4:=gbChg (gbD (gbR w2 none)) hG (fun y hy=>hy);have hz4:=hg4.size;obtain ⟨⟨g9,e12,hg9,R4⟩,hI⟩:=hI;have e12:f 12=.pointer (some ⟨g9,0,none⟩):=e12
   (try simp at hd)
   have h40:aggF w2.heap.size (Zf m0) (f 40) w4:=by first | exact hd | exact hd.1 | exact hd.2 | exact hd.2.1
   clear hd;obtain ⟨A9,B9,C9,D9,E9,a9,b9,c9,d9',e9,e40⟩:=h40.eng;rw [e40] at h40;obtain ⟨F4,o4,l4⟩:=h40;obtain ⟨f0,f1,f2,f3,f4,f5,f6,f7,f8⟩:=R4.f9;obtain ⟨b0,b1,b2,b3,b4,b5,b6,b7,b8⟩:=R4.c9;have hgF:=WR (Yr _) o4 R4 (by decide);have RS:=SOF.store R4 (us:=[.int .i64 m0.k.p,.slice A9 m0.k.al.length a9,.int .i64 m0.c.p,.slice B9 m0.c.st.length b9,.slice C9 m0.c.outs.length c9,.slice D9 m0.vs.length d9',.slice E9 m0.op.length e9,.int .i64 m0.rd,.bool m0.bad]) rfl o4 hgF;have CH:=Za g9 [.int .i64 m0.k.p,.slice A9 m0.k.al.length a9,.int .i64 m0.c.p,.slice B9 m0.c.st.length b9,.slice C9 m0.c.outs.length c9,.slice D9 m0.vs.length d9',.slice E9 m0.op.length e9,.int .i64 m0.rd,.bool m0.bad] 0 w4;have K1:=zH (fun v (h:engTup w2.heap.size m0 v w4)=>engTup_far h R4 CH (by decide));have K2:=zH (fun v (h:aggF w2.heap.size (Zf m0) v w4)=>aggF.far h R4 CH (by decide));have GS:=Zu hg4 CH hg9;have CS:=CH.mono (T:=fun x=>w2.heap.size≤x) (fun y hy=>by rw [hy];exact hg9);simp only [Zm,Nat.zero_add,Nat.reduceAdd] at RS GS CS K1 K2;have RS:=zH RS;have GS:=zH GS;have CS:=zH CS;clear CH hI o4;simp [puts,dsts,Act.put,e12,e40];clear R4;go_wp2_with fail;refine ⟨rfl,⟨.bool false,⟨g9,e12,hg9,F4,RS.out,l4⟩,GS.out⟩,CS.out, ?_⟩;simp [keepsC,dstAt];exact ⟨JG,K1.out _,K1.out _,K2.out _⟩
  ·intro f w4 hG hI hd
   have hg4:=gbChg (gbD (gbR w2 none)) hG (fun y hy=>hy);have hz4:=hg4.size;obtain ⟨⟨g9,e12,hg9,hs9⟩,hI⟩:=hI
   (try simp at hd)
   (first | simp [hd] | simp)
   clear hd;go_wp2_with fail;exact ⟨.bool true,rfl,⟨g9,e12,rfl,hg9,hs9⟩,hI⟩
  all_goals
   intro f w4 hG hd;have hg4:=gbChg (gbD (gbR w2 none)) hG (fun y hy=>hy);have k0:=gbk hg4 (K0.out);have k1:=gbk hg4 (K1.out);have k2:=gbk hg4 (X0.out);have k3:=gbk hg4 (X1.out);have k4:=gbk hg4 (X2.out);have k5:=gbk hg4 (Y0.out);have k6:=gbk hg4 (Y1.out)
   (try simp at hd)
   (first | simp [hd] | simp)
   clear hd;go_wp2_with fail;exact ⟨rfl,rfl⟩
 intro f w3 hI hd;simp only [puts,dsts,Act.put,zB,zC,zA,zD,zE];obtain ⟨⟨g12,e12a,e13a,hg12,hs12⟩,hg3⟩:=hI;have e12:f 12=.pointer (some ⟨g12,0,none⟩):=e12a;have e13:f 13=.bool true:=e13a;rw [e12,e13];clear e12a e13a;have G3:=zH (gbT G2.out hg3);have GZ3:=zH hg3;have K03:=gbk hg3 K0.out;have Y03:=gbk hg3 Y0.out;have Y13:=gbk hg3 Y1.out;have S12:=zH hs12;clear hd e12 e13 hg3 hs12 K0 K1 X0 X1 X2 Y0 Y1;go_wp2_with fail;refine (Zp k.p R nr cr es w3 hkp2 hkp1 (HE.out.grow G3.out) (by omega)).mono ?_;rintro e w4 ⟨rfl,rfl⟩;rw [EB.out];go_wp2_with fail;refine (Xc s a 2 w3 hs (by omega) (by omega)).mono ?_;rintro e w4 ⟨rfl,g4⟩;rw [HS2.out];have G4:=zH (gbT GZ3.out g4);have S12':=zH (S12.out.grow g4);have hz43:=G4.out.size;clear g4 K03 Y03 Y13 S12 GZ3 G3;go_wp2_with fail;obtain ⟨g14,hg14⟩:∃x,w4.heap.size=x:=⟨_,rfl⟩;obtain ⟨w6,hw6⟩:∃x:World,w4.alloc (.cells #[.int .i64 s2,.int .i64 0] 41)=x:=⟨_,rfl⟩;have D14:Hid (Blk w6 g14 41 #[.int .i64 s2,.int .i64 0]):=by rw [← hw6,← hg14];exact zH (Blk.new _ _ _)
 have S12:Hid (sofF w2.heap.size 58 (Zf m0) g12 w6):=by rw [← hw6];exact zH (S12'.out.grow (gbA (gbR _ _) _))
 have G6:Hid (w2.grownBy w6 none):=by rw [← hw6];exact zH (gbA G4.out _)
 have hg14l:w2.heap.size≤g14:=by omega
 rw [hw6]
 try rw [hg14]
 have hne:g12≠g14:=fun e=>by
  obtain ⟨F,h1,_⟩:=S12'.out;have:=h1.ltg;omega
 clear hw6 hg14 G4 S12' hz43
 go_loopw [15] (fun u wr=>∃(r:Nat) (F:List Nat),(r:Int)≤rounds c∧u=.int .i64 ((2*totM c r:Nat):Int)∧Hid (r=0∨(engAt k c P s1 s2 ins es (r - 1)).bad=false)∧Hid (SOF 58 (Zf (engAt k c P s1 s2 ins es r)) g12 F wr)∧Hid (Blk wr g14 41 #[.int .i64 s2,.int .i64 ((totM c r*trW k:Nat):Int)])∧Hid (w2.grownBy wr none)) (fun u _=>120 - (intOf u).toNat)
 case atStart =>
  obtain ⟨F,h1,h2⟩:=S12.out;exact ⟨0,F,(Wl c).1,by rw [UR];rfl,zH (.inl rfl),by rw [engAt,HM0.out];exact zH h1,by rw [UR,Nat.zero_mul];exact D14,G6⟩
 case round =>
  clear S12 D14 G6;obtain ⟨r,F,hr,rfl,HP,SG,TG,G6⟩:=hrel;have hat:=Kh (s1:=s1) (s2:=s2) FT.out EB.out r hr HP.out;have hwf:=ewf_run (s1:=s1) (s2:=s2) FT.out EB.out WK.out WC.out r hr HP.out;obtain ⟨m,hm⟩:∃m,engAt k c P s1 s2 ins es r=m:=⟨_,rfl⟩;rw [hm] at hat hwf SG;have hmrd:m.rd=(r:Int):=hat.rd;have HM:=zH hm;have AT:=zH hat;have WM:=zH hwf.1;clear hm hat hwf;obtain ⟨A9,B9,C9,D9,E9,a9,b9,c9,d9',e9,hB9,hR9⟩:=SOF.eng SG.out;have hrr:=Wl c;have v7:=hB9.cell 7;have v8:=hB9.cell 8;have x0:=(B1.out.grow G6.out).cell 0;have x1:=(B1.out.grow G6.out).cell 1;have x2:=(B1.out.grow G6.out).cell 2;simp only [List.getElem?_toArray,List.getElem?_cons_succ,List.getElem?_cons_zero] at v7 v8 x0 x1 x2;rw [hmrd] at v7;have V7:=zH v7;have V8:=zH v8;have X0:=zH x0;have X1:=zH x1;have X2:=zH x2;obtain ⟨Rd,hRd⟩:∃x,rounds c=x:=⟨_,rfl⟩;have HRD:=zH hRd;rw [hRd] at hr hrr;clear v7 v8 x0 x1 x2 hRd hmrd
  by_cases hlt:(r:Int)<Rd
  ·cases hbad:m.bad with
   | true =>
    have HFIN:Hid (engAt k c P s1 s2 ins es (rounds c).toNat=m):=by
     have:=Ul (k:=k) (c:=c) (P:=P) (s1:=s1) (s2:=s2) (ins:=ins) (es:=es) (r:=r) (by rw [HM.out];exact hbad) ((rounds c).toNat - r);rw [HRD.out] at this ⊢;rw [show r+(Rd.toNat - r)=Rd.toNat by omega,HM.out] at this;exact this
    rw [hbad] at V8;clear hbad;go_wp2_with fail;refine Zv [isV (.pointer (some ⟨g12,7,none⟩)),isV (.int .i64 r),isV (.agg #[.int .i64 c.p,.slice A1 c.st.length n1,.slice A2 c.outs.length n2]),isV (.int .i64 Rd),isV (.bool true),isV (.bool true),isV (.pointer (some ⟨g12,8,none⟩)),isV (.bool true),isV (.bool false),isV (.bool false)] (by kernel_rfl) (by kernel_rfl) (by kernel_rfl) (by simp [ZM,Zb]) ?_ ?_
    ·simp only [hops,and_true]
     refine ⟨?_, ?_, ?_, ?_, ?_, ?_, ?_, ?_, ?_, ?_⟩;rotate_left 3
     ·intro f w1 hG hd
      have hg4:=gbT (gbD (gbR wr none)) hG;simp [deps,tAt,isV] at hd
      first | simp [hd] | simp
      clear hd;go_wp2_with fail;refine (YB c _ w1 (HC.out.grow (gbT G2.out (gbT G6.out hg4))) WC.out.wf).mono ?_;rintro e w6 ⟨rfl,hw⟩;rw [HRD.out];go_wp2_with fail;exact ⟨_,rfl,by first | with_reducible exact gbR _ _ | exact hw,by simp [tAt,isV]⟩
     all_goals
      intro f w1 hG hd;have hg4:=gbT (gbD (gbR wr none)) hG;have k0:=gbk hg4 (V7.out);have k1:=gbk hg4 (X0.out);have k2:=gbk hg4 (X1.out);have k3:=gbk hg4 (X2.out);have k4:=gbk hg4 (V8.out);simp [deps,tAt,isV] at hd
      first | simp [hd] | simp
      clear hd;go_wp2_with fail;exact ⟨_,rfl,by with_reducible exact gbR _ _,by simp [tAt,isV]⟩
    intro f w5 hG hd;simp [knows,tAt,isV] at hd;simp only [puts,dsts,Act.put,hd,zB,zC,zA,zD,zE];clear hd;have g5:=gbT (gbD (gbR wr none)) hG;clear hG;have G7:=zH (gbT G6.out g5);obtain ⟨c0,c1,c2,c3,c4,c5,c6,c7,c8⟩:=(hB9.grow g5).c9;have AL:=zH (hR9.al9.grow g5);have GW7:=zH (gbT GB.out (gbT G2.out G7.out));have hz7:=GW7.out.size;clear g5 hB9 hR9;go_wp2_with fail;clear c0 c1 c2 c3 c4 c5 c6 c7 c8;refine (Wp m _ w5 AL.out WM.out).mono ?_;rintro e' w9 ⟨V,rfl,o9,g9⟩;obtain ⟨AV,cV,rfl,_,_⟩:=ZB o9;have O9:=zH (ZE o9 hz7);have G9:=zH (gbT GW7.out g9);clear o9 g9;go_wp2_with fail;refine bodyPost_ret (v:=.tuple #[.slice AV (outR m).length cV,.bool (outB m)]) (by simp [results,Tryz.results14]) rfl ?_;rw [HRA.out,HFIN.out];exact ⟨_,rfl,O9.out,G9.out⟩
   | false =>
    rw [hbad] at V8;have HBD:=zH hbad;clear hbad;go_wp2_with fail;refine Zv [isV (.pointer (some ⟨g12,7,none⟩)),isV (.int .i64 r),isV (.agg #[.int .i64 c.p,.slice A1 c.st.length n1,.slice A2 c.outs.length n2]),isV (.int .i64 Rd),isV (.bool true),isV (.bool true),isV (.pointer (some ⟨g12,8,none⟩)),isV (.bool false),isV (.bool true),isV (.bool true)] (by kernel_rfl) (by kernel_rfl) (by kernel_rfl) (by simp [ZM,Zb]) ?_ ?_
    ·simp only [hops,and_true]
     refine ⟨?_, ?_, ?_, ?_, ?_, ?_, ?_, ?_, ?_, ?_⟩;rotate_left 3
     ·intro f w1 hG hd
      have hg4:=gbT (gbD (gbR wr none)) hG;simp [deps,tAt,isV] at hd
      first | simp [hd] | simp
      clear hd;go_wp2_with fail;refine (YB c _ w1 (HC.out.grow (gbT G2.out (gbT G6.out hg4))) WC.out.wf).mono ?_;rintro e w6 ⟨rfl,hw⟩;rw [HRD.out];go_wp2_with fail;exact ⟨_,rfl,by first | with_reducible exact gbR _ _ | exact hw,by simp [tAt,isV]⟩
     all_goals
      intro f w1 hG hd;have hg4:=gbT (gbD (gbR wr none)) hG;have k0:=gbk hg4 (V7.out);have k1:=gbk hg4 (X0.out);have k2:=gbk hg4 (X1.out);have k3:=gbk hg4 (X2.out);have k4:=gbk hg4 (V8.out);simp [deps,tAt,isV] at hd
      first | simp [hd] | simp
      clear hd;go_wp2_with fail;exact ⟨_,rfl,by with_reducible exact gbR _ _,by simp [tAt,isV]⟩
    intro f w5 hG hd;simp [knows,tAt,isV] at hd;simp only [puts,dsts,Act.put,hd,zB,zC,zA,zD,zE];clear hd;have g5:=gbT (gbD (gbR wr none)) hG;clear hG;have G7:=zH (gbT G6.out g5);have v7:=gbk g5 V7.out;have x0:=gbk g5 X0.out;have x1:=gbk g5 X1.out;have x2:=gbk g5 X2.out;have SG7:=zH (SG.out.grow g5);have TG7:=zH (TG.out.grow g5);clear g5 V7 V8 X0 X1 X2 hB9 hR9 SG TG;go_wp2_with fail;clear v7 x0 x1 x2;refine (QB c ((r:Int)+1) _ w5 (HC.out.grow (gbT G2.out G7.out)) WC.out.wf).mono ?_;rintro e' w7 ⟨vS,rfl,oS,gS⟩;obtain ⟨ns,hns⟩:∃x,(mulsAt c ((r:Int)+1)).length=x:=⟨_,rfl⟩;have hns60:ns≤60:=by rw [← hns];exact VP _ _
    have hns0:0<ns:=by rw [← hns];exact mulsAt_pos FT.out.ok (by omega) (by rw [HRD.out];omega)
    rw [hns] at oS;have HNS:=zH (show nAt c r=ns from hns);obtain ⟨S,cs,rfl,_,_⟩:=ZB oS;have SG8:=zH (SG7.out.grow gS);have TG8:=zH (TG7.out.grow gS);have G8:=zH (gbT G7.out gS);clear oS gS hns SG7 TG7 G7;go_wp2_with fail;obtain ⟨w8,hw8⟩:∃x:World,w7.alloc (.cells #[] 82)=x:=⟨_,rfl⟩;obtain ⟨g17,hg17⟩:∃x,w7.heap.size=x:=⟨_,rfl⟩
    have TL0:Hid (TL w2.heap.size (trsN k P s2 (totM c r*trW k) 0) (.slice (some ⟨g17,0,none⟩) 0 0) w8):=by
     rw [← hw8,← hg17];exact zH ⟨[],World.ownsRow_lit w7 #[] 0 G8.out.size (by omega) rfl,OwnE.nil _⟩
    have SG0:Hid (SOF 58 (Zf m) g12 F w8):=by rw [← hw8];exact zH (SG8.out.grow (gbA (gbR _ _) _))
    have TG0:Hid (Blk w8 g14 41 #[.int .i64 s2,.int .i64 ((totM c r*trW k+0*trW k:Nat):Int)]):=by rw [← hw8,Nat.zero_mul,Nat.add_zero];exact zH (TG8.out.grow (gbA (gbR _ _) _))
    have G0:Hid (w2.grownBy w8 none):=by rw [← hw8];exact zH (gbA G8.out _)
    rw [hw8,hg17];clear hw8 hg17 SG8 TG8 G8 G6;have hT60:totM c r≤60:=JA FT.out.ok (by rw [HRD.out];omega);have hTW:=trW_bd KB.out;have hA:=Nat.mul_le_mul hT60 hTW;obtain ⟨wo,rfl⟩:∃wo:World,wo=wr:=⟨_,rfl⟩
    go_loopw [17,71] (fun t i wr=>∃(j:Nat),j≤ns∧i=.int .i64 j∧Hid (TL w2.heap.size (trsN k P s2 (totM c r*trW k) j) t wr)∧Hid (SOF 58 (Zf m) g12 F wr)∧Hid (Blk wr g14 41 #[.int .i64 s2,.int .i64 ((totM c r*trW k+j*trW k:Nat):Int)])∧Hid (w2.grownBy wr none)) (fun _ i _=>ns - (intOf i).toNat)
    case atStart=>exact ⟨0,Nat.zero_le _,rfl,TL0,SG0,TG0,G0⟩
    case round =>
     clear TL0 SG0 TG0 G0;obtain ⟨j,hj,rfl,TLj,SG,TG,G9⟩:=hrel
     by_cases hjl:j<ns
     ·have i1:(j:Int)<(ns:Int):=by omega
      obtain ⟨vs,hrow,hvs⟩:=TLj.out;rw [XP] at hrow;obtain ⟨AT',cT,rfl,_,_⟩:=ZB hrow;have ROW:=zH hrow;have VS:=zH hvs;have hB:=Nat.mul_le_mul (show j≤60 by omega) hTW;obtain ⟨aj,haj⟩:∃x,totM c r*trW k+j*trW k=x:=⟨_,rfl⟩;rw [haj] at TG;have HAJ:=zH haj;have haj8:aj≤800000:=by omega
      have k0:=(B0.out.grow G9.out).cell 0;have k1:=(B0.out.grow G9.out).cell 1;have t0:=TG.out.cell 0;have t1:=TG.out.cell 1;simp only [List.getElem?_toArray,List.getElem?_cons_succ,List.getElem?_cons_zero] at k0 k1 t0 t1;clear hrow hvs haj TLj;go_wp2_with fail;clear k0 k1 t0 t1;refine (Qi k P s2 aj _ wr (HK.out.grow (gbT G2.out G9.out)) WK.out KB.out HPN.out hs2l haj8).mono ?_;rintro e' wt ⟨v,rfl,o,gt⟩;obtain ⟨tn,htn⟩:∃x,Ys k P s2 aj=x:=⟨_,rfl⟩;rw [htn] at o;obtain ⟨X0,x0,X1,x1,X2,x2,X3,x3,X4,x4,X5,x5,rfl,hus⟩:=o.open;have US:=zH hus;have HTN:=zH htn;obtain ⟨aj',haj'⟩:∃x,aj+2+6*(k.al.length - 1)=x:=⟨_,rfl⟩
      have HAJ':Hid (totM c r*trW k+(j+1)*trW k=aj'):=by
       unfold Hid;rw [← haj',← HAJ.out,Nat.succ_mul];unfold trW;omega
      rw [haj'];obtain ⟨g19,hg19⟩:∃x,wt.heap.size+1=x:=⟨_,rfl⟩;obtain ⟨wa,hwa⟩:∃x:World,(wt.alloc (.cells #[.slice none 0 0,.slice none 0 0,.slice none 0 0,.slice none 0 0,.slice none 0 0,.slice none 0 0] 82)).alloc (.cells #[.int .i64 0,.int .i64 0] 41)=x:=⟨_,rfl⟩;have GA:wr.grownBy wa none:=by rw [← hwa];exact gbA (gbA gt _) _
      have GTA:wt.grownBy wa none:=by rw [← hwa];exact gbA (gbA (gbR _ _) _) _
      have BN:Blk wa g19 41 #[.int .i64 0,.int .i64 0]:=by rw [← hwa,← hg19];exact Blk.new' _ _ _ _ (by simp)
      have BM:Blk wa wt.heap.size 82 #[.slice none 0 0,.slice none 0 0,.slice none 0 0,.slice none 0 0,.slice none 0 0,.slice none 0 0]:=by rw [← hwa];exact (Blk.new _ _ _).grow (gbA (gbR _ _) _)
      have BMS:=Zd BM [.slice X0 tn.a.sh.length x0,.slice X1 tn.a.mc.length x1,.slice X2 tn.b.sh.length x2,.slice X3 tn.b.mc.length x3,.slice X4 tn.c.sh.length x4,.slice X5 tn.c.mc.length x5] rfl;have hza:wa.heap.size=g19+1:=by rw [← hwa,← hg19];simp
      have hgt:=gt.size;have CH1:=Za wt.heap.size [.slice X0 tn.a.sh.length x0,.slice X1 tn.a.mc.length x1,.slice X2 tn.b.sh.length x2,.slice X3 tn.b.mc.length x3,.slice X4 tn.c.sh.length x4,.slice X5 tn.c.mc.length x5] 0 wa;obtain ⟨wb,hwb⟩:∃x,Zm wa wt.heap.size 0 [.slice X0 tn.a.sh.length x0,.slice X1 tn.a.mc.length x1,.slice X2 tn.b.sh.length x2,.slice X3 tn.b.mc.length x3,.slice X4 tn.c.sh.length x4,.slice X5 tn.c.mc.length x5]=x:=⟨_,rfl⟩;rw [hwb] at CH1 BMS;have CH2:=Za g19 [.int .i64 s2,.int .i64 aj'] 0 wb;have NU:=zH (Zd (BN.chg CH1 (by omega)) [.int .i64 s2,.int .i64 aj'] rfl);have MU:=BMS.chg CH2 (by omega);have GU:=zH (Zu (Zu GA CH1 (by omega)) CH2 (by omega));have GTU:=zH (Zu (Zu GTA CH1 (by omega)) CH2 (by omega));have hzb:=CH1.size;have hzb2:=CH2.size;obtain ⟨wu,hwu⟩:∃x,Zm wb g19 0 [.int .i64 s2,.int .i64 aj']=x:=⟨_,rfl⟩;rw [hwu] at NU GU GTU hzb2 MU;have m0':=MU.cell 0;have m1':=MU.cell 1;have m2':=MU.cell 2;have m3':=MU.cell 3;have m4':=MU.cell 4;have m5':=MU.cell 5;simp only [List.getElem?_toArray,List.getElem?_cons_succ,List.getElem?_cons_zero] at m0' m1' m2' m3' m4' m5';have hwu':=hwu;rw [← hwb,← hwa] at hwu';simp only [Zm,Nat.zero_add,Nat.reduceAdd] at hwu';have hzu:Hid (g19+1≤wu.heap.size):=zH (by omega);have ROWU:=zH (Zj ROW.out GU.out);clear MU BM BMS hwa GA GTA BN hza CH1 hwb CH2 hzb hzb2 hwu;clear gt o hus htn haj';have TGU:=zH (TG.out.grow GU.out);have hg9l:=G9.out.size;have hbu:w2.heap.size≤wu.heap.size:=by have:=GU.out.size;omega
      go_wp2_with (at_builtin;refine XT wu wu.heap.size rfl elTriple rfl (.tmp 79) (.tmp 81) rfl #[.slice X0 tn.a.sh.length x0,.slice X1 tn.a.mc.length x1,.slice X2 tn.b.sh.length x2,.slice X3 tn.b.mc.length x3,.slice X4 tn.c.sh.length x4,.slice X5 tn.c.mc.length x5] rfl (by simp [Value.oneCell']) w2.heap.size (.slice AT' j cT) j vs ROWU.out rfl rfl (by unfold maxLen;omega) (by omega) hbu ?_;intro v' w9 o9 g9' k9;have CHA:Chg (fun y=>(Value.slice AT' j cT).ownBlock=some y) wu w9:=(chgA wu _).trans (Chg.of g9' (fun y hy=>hy));have N9:=NU.out.chg CHA (Un ROWU.out NU.out (by decide));have T9:=TGU.out.chg CHA (Un ROWU.out TGU.out (by decide));have n0:=N9.cell 0;have n1':=N9.cell 1;have t0:=T9.cell 0;have t1:=T9.cell 1;have ft0:=T9.frozen 0;have ft1:=T9.frozen 1;simp only [List.getElem?_toArray,List.getElem?_cons_succ,List.getElem?_cons_zero] at n0 n1' t0 t1;obtain ⟨A6,c6,hv6,_⟩:=ZB o9;subst hv6;have O9:=zH o9;have CHA:=zH CHA;have T9:=zH T9;clear o9 g9' k9 N9)
      have CHS:=Za g14 [.int .i64 s2,.int .i64 aj'] 0 w9;have TZ:Hid (Blk (Zm w9 g14 0 [.int .i64 s2,.int .i64 aj']) g14 41 #[.int .i64 s2,.int .i64 ((totM c r*trW k+(j+1)*trW k:Nat):Int)]):=by rw [HAJ'.out];exact zH (Zd T9.out [.int .i64 s2,.int .i64 aj'] rfl)
      have hpush:=TL.push (x:=tn) (by rw [XP];exact ROWU.out) (VS.out.grow GU.out) (US.out.grow GTU.out) (by rw [XP];exact O9.out) CHA.out;have htr:trsN k P s2 (totM c r*trW k) j ++ [tn]=trsN k P s2 (totM c r*trW k) (j+1):=by rw [trsN_succ,HAJ.out,HTN.out]
      rw [htr] at hpush;have TLz:=zH (hpush.typ CHS (fun y hy _=>by subst hy;exact ⟨_,_,T9.out,by decide,by decide⟩));have SGz:=zH (SOF.typ (SOF.typ (SG.out.grow GU.out) CHA.out (fun y hy _=>by obtain ⟨cur,hb,_⟩:=XA ROWU.out hy;exact ⟨_,_,hb,by decide,by decide⟩)) CHS (fun y hy _=>by subst hy;exact ⟨_,_,T9.out,by decide,by decide⟩));have GZ:=zH (gbChg (gbChg (gbT G9.out GU.out) CHA.out (fun y hy=>by obtain ⟨cur,_,hb⟩:=XA ROWU.out hy;exact hb)) CHS (fun y hy=>by subst hy;exact hg14l));simp only [Zm,Nat.zero_add,Nat.reduceAdd] at TZ TLz SGz GZ;clear hpush CHS n0 n1' t0 t1 ft0 ft1 htr hwu'
      go_roundw
      case rel=>exact ⟨j+1,by omega,by go_num,TLz,SGz,TZ,GZ⟩
      case measure=>simp [intOf];omega
     ·have hjn:j=ns:=by omega
      subst hjn;have hes0:=HE.out.len;obtain ⟨vs,hrow,_⟩:=TLj.out;rw [XP] at hrow;obtain ⟨AT',cT,rfl,_,_⟩:=ZB hrow;clear hrow;have hq:(2*totM c r<nr∧2*totM c r+2*j≤nr)∨(2*totM c r<nr∧nr<2*totM c r+2*j)∨(¬2*totM c r<nr∧nr<2*totM c r)∨(¬2*totM c r<nr∧¬nr<2*totM c r):=by omega
      rcases hq with ⟨q1,q2⟩ | ⟨q1,q2⟩ | ⟨q1,q2⟩ | ⟨q1,q2⟩
      focus
       have i1:(2*totM c r:Int)<(nr:Int):=by omega
       have i2:¬(nr:Int)<(2*totM c r:Int)+2*(j:Int):=by omega
       have hME:(es.drop (2*totM c r)).take (2*j)=errsN es (2*totM c r) (2*j):=rfl;have hFMle:2*totM c r+2*j≤nr:=by omega
       have hES:(es.drop (2*totM c r)).take ((2*j))=errsN es (2*totM c r) (2*j):=hME;have hFM:2*totM c r+(2*j)≤nr:=hFMle;clear hME hFMle;have HES:=zH hES;clear hES;go_wp2_with fail;obtain ⟨A9,B9,C9,D9,E9,a9,b9,c9,d9',e9,hB9,hR9⟩:=SOF.eng SG.out;obtain ⟨m',hm'⟩:∃x,Yt m (trsN k P s2 (totM c r*trW k) j) (errsN es (2*totM c r) (2*j))=x:=⟨_,rfl⟩
       have HM':Hid (engAt k c P s1 s2 ins es (r+1)=m'):=by
        unfold Hid;rw [engAt,HM.out,HNS.out];exact hm'
       have hm'rd:m'.rd=(r:Int)+1:=by
        have h1:=WZ (s1:=s1) (s2:=s2) FT.out EB.out (fun i a h=>h) (by rw [HM.out];exact AT.out) (by rw [HM.out];exact HBD.out) (by rw [HRD.out];exact hlt);rw [HM'.out,HM.out] at h1;rw [h1]
        show m.rd+1=_
        rw [AT.out.rd]
       have hmrd:m.rd=(r:Int):=AT.out.rd;have HMR':=zH hm'rd;have HMR:=zH hmrd;have HMX:=zH hm';obtain ⟨v0,v1,v2,v3,v4,v5,v6,v7,v8⟩:=(hB9).c9;have V0:=zH v0;have V1:=zH v1;have V2:=zH v2;have V3:=zH v3;have V4:=zH v4;have V5:=zH v5;have V6:=zH v6;have V7:=zH v7;have V8:=zH v8;have R9:=zH hR9.al9;have B9':=zH hB9;have TS:=zH TLj.out.rd;clear v0 v1 v2 v3 v4 v5 v6 v7 v8 hB9 hR9 hm' hm'rd hmrd
       refine Zg [.rd (.agg #[.int .i64 m.k.p,.slice A9 m.k.al.length a9,.int .i64 m.c.p,.slice B9 m.c.st.length b9,.slice C9 m.c.outs.length c9,.slice D9 m.vs.length d9',.slice E9 m.op.length e9,.int .i64 m.rd,.bool m.bad]),.rd (.slice AT' j cT),.rd (.slice R nr cr),.rd (.int .i64 (2*(totM c r:Int))),.rd (.int .i64 (2*(totM c r:Int)+2*(j:Int))),.fl (errS ((2*j)) (errsN es (2*totM c r) (2*j))),.fl (aggF wr.heap.size (Zf m')),.ch,.ch] (fun _=>False)
        [⟨[],fun _ w'=>wr.drew.grownBy w' none⟩,
         ⟨[22],fun l w'=>(∃g,l.getD 0 undef=.pointer (some ⟨g,0,none⟩)∧wr.heap.size≤g∧Blk w' g 58 #[.int .i64 0,.slice none 0 0,.int .i64 0,.slice none 0 0,.slice none 0 0,.slice none 0 0,.slice none 0 0,.int .i64 0,.bool false])∧wr.grownBy w' none⟩,
         ⟨[22],fun l w'=>(∃g F',l.getD 0 undef=.pointer (some ⟨g,0,none⟩)∧SOF 58 (Zf m') g F' w'∧(∀x∈F',wr.heap.size≤x)∧wr.heap.size≤g)∧wr.grownBy w' none⟩]
        (by kernel_rfl) (by kernel_rfl) (by kernel_rfl) 2 (by kernel_rfl) ?_ (gbR _ _) rfl ?_ ?_
       ·have hst:Zw [⟨[],fun _ w'=>wr.drew.grownBy w' none⟩,⟨[22],fun l w'=>(∃g,l.getD 0 undef=.pointer (some ⟨g,0,none⟩)∧wr.heap.size≤g∧Blk w' g 58 #[.int .i64 0,.slice none 0 0,.int .i64 0,.slice none 0 0,.slice none 0 0,.slice none 0 0,.slice none 0 0,.int .i64 0,.bool false])∧wr.grownBy w' none⟩,⟨[22],fun l w'=>(∃g F',l.getD 0 undef=.pointer (some ⟨g,0,none⟩)∧SOF 58 (Zf m') g F' w'∧(∀x∈F',wr.heap.size≤x)∧wr.heap.size≤g)∧wr.grownBy w' none⟩]:=by
         refine Zc (fun l w1 w2 h hg=>gbT h hg) ?_;refine Zc (Zo fun l w1 w2 ⟨⟨g,h1,h2,h3⟩,h4⟩ hg=>⟨⟨g,h1,h2,h3.grow hg⟩,gbT h4 hg⟩) ?_;exact Zc (Zo fun l w1 w2 ⟨⟨g,F',h1,h2,h3,h4⟩,h5⟩ hg=>⟨⟨g,F',h1,h2.grow hg,h3,h4⟩,gbT h5 hg⟩) ZX
        simp only [flOk,true_and,and_true];exact ⟨⟨Vz,hst⟩,⟨YG,hst⟩⟩
       ·simp only [hopsK,hopK,Kd.next,and_true]
        refine ⟨?_, ?_, ?_, ?_, ?_, ?_, ?_, ?_, ?_⟩;rotate_left 5
        ·intro f w4 hG hd
         have hg4:=gbT (gbD (gbR wr none)) (chgF hG);have hz4:=hg4.size
         (try simp at hd)
         (first | simp [hd] | simp)
         clear hd;go_wp2_with fail
         all_goals first | exact ⟨_,rfl,JB (HE.out.grow (gbT G2.out (gbT G9.out hg4))) (by omega) hFM HES.out,gbR _ _⟩ | exact ⟨_,rfl,JC (by omega) HES.out,gbR _ _⟩
        ·intro f w4 hG hd
         have hg4:=gbT (gbD (gbR wr none)) (chgF hG);have hz4:=hg4.size
         (try simp at hd)
         obtain ⟨e102,e103,AR,cR,e107,hAR⟩:=hd;simp [puts,dsts,Act.put,e102,e103,e107];have HAR:=zH hAR;clear e102 e103 e107 hAR;go_wp2_with fail;refine (YV m (trsN k P s2 (totM c r*trW k) j) (errsN es (2*totM c r) (2*j)) _ _ _ _ _ _ _ w4 (R9.out.grow hg4) (CS.grow _ TS.out hg4) HAR.out WM.out (Qo KB.out) (by omega) (by omega)).mono ?_;rintro e' w6 ⟨v6,rfl,o6,g6⟩;rw [HMX.out] at o6;obtain ⟨A8,B8,C8,D8,E8,a8,b8,c8,d8,e8,rfl⟩:=o6.eng;obtain ⟨F6,o6,l6⟩:=o6;have O6:Hid (aggF wr.heap.size (Zf m') _ w6):=zH ⟨F6,o6,fun x hx=>Nat.le_trans hz4 (l6 x hx)⟩;have G6':=zH g6;clear o6 g6 l6;go_wp2_with fail;exact ⟨_,rfl,O6.out,G6'.out⟩
        ·intro f w4 hG hI hd
         have hg4:=gbT (gbD (gbR wr none)) (chgF hG);have hz4:=hg4.size;clear hd;simp [puts,dsts,Act.put];go_wp2_with fail;exact ⟨_,rfl,⟨⟨_,rfl,hz4,Blk.new _ _ _⟩,gbA hg4 _⟩,⟨chgA _ _,by simp [keepsC,dstAt];exact ⟨fun h=>Vz _ _ _ h (gbA (gbR _ _) _),fun h=>YG _ _ _ h (gbA (gbR _ _) _)⟩⟩⟩
        ·intro f w4 hG hI hd
         have hg4:=gbT (gbD (gbR wr none)) (chgF hG);have hz4:=hg4.size;obtain ⟨⟨g22,e22,hg22,R4⟩,hI⟩:=hI;have e22:f 22=.pointer (some ⟨g22,0,none⟩):=e22
         (try simp at hd)
         have h108:aggF wr.heap.size (Zf m') (f 108) w4:=by first | exact hd | exact hd.1 | exact hd.2 | exact hd.2.1
         clear hd;obtain ⟨A8,B8,C8,D8,E8,a8,b8,c8,d8,e8,e108⟩:=h108.eng;rw [e108] at h108;obtain ⟨F4,o4,l4⟩:=h108;obtain ⟨f0,f1,f2,f3,f4,f5,f6,f7,f8⟩:=(R4).f9;obtain ⟨y0,y1,y2,y3,y4,y5,y6,y7,y8⟩:=(R4).c9;have hgF:=WR (Yr _) o4 R4 (by decide);have RS:=SOF.store R4 (us:=[.int .i64 m'.k.p,.slice A8 m'.k.al.length a8,.int .i64 m'.c.p,.slice B8 m'.c.st.length b8,.slice C8 m'.c.outs.length c8,.slice D8 m'.vs.length d8,.slice E8 m'.op.length e8,.int .i64 m'.rd,.bool m'.bad]) rfl o4 hgF;have GS:=Zu hg4 (Za g22 [.int .i64 m'.k.p,.slice A8 m'.k.al.length a8,.int .i64 m'.c.p,.slice B8 m'.c.st.length b8,.slice C8 m'.c.outs.length c8,.slice D8 m'.vs.length d8,.slice E8 m'.op.length e8,.int .i64 m'.rd,.bool m'.bad] 0 w4) hg22;simp only [Zm,Nat.zero_add,Nat.reduceAdd] at RS GS;have RS:=zH RS;have GS:=zH GS;clear hI o4;simp [puts,dsts,Act.put,e22,e108];clear R4;go_wp2_with fail;exact ⟨rfl,.bool false,⟨g22,e22,F4,RS.out,l4,hg22⟩,GS.out⟩
        all_goals
         intro f w4 hG hd;have hg4:=gbT (gbD (gbR wr none)) (chgF hG);have k0:=gbk hg4 (V0.out);have k1:=gbk hg4 (V1.out);have k2:=gbk hg4 (V2.out);have k3:=gbk hg4 (V3.out);have k4:=gbk hg4 (V4.out);have k5:=gbk hg4 (V5.out);have k6:=gbk hg4 (V6.out);have k7:=gbk hg4 (V7.out);have k8:=gbk hg4 (V8.out)
         (try simp at hd)
         (first | simp [hd] | simp)
         clear hd;go_wp2_with fail;exact ⟨rfl,rfl⟩
       intro f w5 hI hd;simp only [puts,dsts,Act.put,zB,zC,zA,zD,zE]
      rotate_left
      focus
       have i1:(2*totM c r:Int)<(nr:Int):=by omega
       have i2:(nr:Int)<(2*totM c r:Int)+2*(j:Int):=by omega
       have hME:(es.drop (2*totM c r)).take (nr - 2*totM c r)=errsN es (2*totM c r) (2*j):=by
        unfold errsN;rw [List.take_of_length_le (by rw [List.length_drop];omega),List.take_of_length_le (by rw [List.length_drop];omega)]
       have hFMle:2*totM c r+(nr - 2*totM c r)≤nr:=by omega
       have hES:(es.drop (2*totM c r)).take ((nr - 2*totM c r))=errsN es (2*totM c r) (2*j):=hME;have hFM:2*totM c r+(nr - 2*totM c r)≤nr:=hFMle;clear hME hFMle;have HES:=zH hES;clear hES;go_wp2_with fail;obtain ⟨A9,B9,C9,D9,E9,a9,b9,c9,d9',e9,hB9,hR9⟩:=SOF.eng SG.out;obtain ⟨m',hm'⟩:∃x,Yt m (trsN k P s2 (totM c r*trW k) j) (errsN es (2*totM c r) (2*j))=x:=⟨_,rfl⟩
       have HM':Hid (engAt k c P s1 s2 ins es (r+1)=m'):=by
        unfold Hid;rw [engAt,HM.out,HNS.out];exact hm'
       have hm'rd:m'.rd=(r:Int)+1:=by
        have h1:=WZ (s1:=s1) (s2:=s2) FT.out EB.out (fun i a h=>h) (by rw [HM.out];exact AT.out) (by rw [HM.out];exact HBD.out) (by rw [HRD.out];exact hlt);rw [HM'.out,HM.out] at h1;rw [h1]
        show m.rd+1=_
        rw [AT.out.rd]
       have hmrd:m.rd=(r:Int):=AT.out.rd;have HMR':=zH hm'rd;have HMR:=zH hmrd;have HMX:=zH hm';obtain ⟨v0,v1,v2,v3,v4,v5,v6,v7,v8⟩:=(hB9).c9;have V0:=zH v0;have V1:=zH v1;have V2:=zH v2;have V3:=zH v3;have V4:=zH v4;have V5:=zH v5;have V6:=zH v6;have V7:=zH v7;have V8:=zH v8;have R9:=zH hR9.al9;have B9':=zH hB9;have TS:=zH TLj.out.rd;clear v0 v1 v2 v3 v4 v5 v6 v7 v8 hB9 hR9 hm' hm'rd hmrd
       refine Zg [.rd (.agg #[.int .i64 m.k.p,.slice A9 m.k.al.length a9,.int .i64 m.c.p,.slice B9 m.c.st.length b9,.slice C9 m.c.outs.length c9,.slice D9 m.vs.length d9',.slice E9 m.op.length e9,.int .i64 m.rd,.bool m.bad]),.rd (.slice AT' j cT),.rd (.slice R nr cr),.rd (.int .i64 (2*(totM c r:Int))),.rd (.int .i64 ((nr:Int))),.fl (errS ((nr - 2*totM c r)) (errsN es (2*totM c r) (2*j))),.fl (aggF wr.heap.size (Zf m')),.ch,.ch] (fun _=>False)
        [⟨[],fun _ w'=>wr.drew.grownBy w' none⟩,
         ⟨[22],fun l w'=>(∃g,l.getD 0 undef=.pointer (some ⟨g,0,none⟩)∧wr.heap.size≤g∧Blk w' g 58 #[.int .i64 0,.slice none 0 0,.int .i64 0,.slice none 0 0,.slice none 0 0,.slice none 0 0,.slice none 0 0,.int .i64 0,.bool false])∧wr.grownBy w' none⟩,
         ⟨[22],fun l w'=>(∃g F',l.getD 0 undef=.pointer (some ⟨g,0,none⟩)∧SOF 58 (Zf m') g F' w'∧(∀x∈F',wr.heap.size≤x)∧wr.heap.size≤g)∧wr.grownBy w' none⟩]
        (by kernel_rfl) (by kernel_rfl) (by kernel_rfl) 2 (by kernel_rfl) ?_ (gbR _ _) rfl ?_ ?_
       ·have hst:Zw [⟨[],fun _ w'=>wr.drew.grownBy w' none⟩,⟨[22],fun l w'=>(∃g,l.getD 0 undef=.pointer (some ⟨g,0,none⟩)∧wr.heap.size≤g∧Blk w' g 58 #[.int .i64 0,.slice none 0 0,.int .i64 0,.slice none 0 0,.slice none 0 0,.slice none 0 0,.slice none 0 0,.int .i64 0,.bool false])∧wr.grownBy w' none⟩,⟨[22],fun l w'=>(∃g F',l.getD 0 undef=.pointer (some ⟨g,0,none⟩)∧SOF 58 (Zf m') g F' w'∧(∀x∈F',wr.heap.size≤x)∧wr.heap.size≤g)∧wr.grownBy w' none⟩]:=by
         refine Zc (fun l w1 w2 h hg=>gbT h hg) ?_;refine Zc (Zo fun l w1 w2 ⟨⟨g,h1,h2,h3⟩,h4⟩ hg=>⟨⟨g,h1,h2,h3.grow hg⟩,gbT h4 hg⟩) ?_;exact Zc (Zo fun l w1 w2 ⟨⟨g,F',h1,h2,h3,h4⟩,h5⟩ hg=>⟨⟨g,F',h1,h2.grow hg,h3,h4⟩,gbT h5 hg⟩) ZX
        simp only [flOk,true_and,and_true];exact ⟨⟨Vz,hst⟩,⟨YG,hst⟩⟩
       ·simp only [hopsK,hopK,Kd.next,and_true]
        refine ⟨?_, ?_, ?_, ?_, ?_, ?_, ?_, ?_, ?_⟩;rotate_left 5
        ·intro f w4 hG hd
         have hg4:=gbT (gbD (gbR wr none)) (chgF hG);have hz4:=hg4.size
         (try simp at hd)
         (first | simp [hd] | simp)
         clear hd;go_wp2_with fail
         all_goals first | exact ⟨_,rfl,JB (HE.out.grow (gbT G2.out (gbT G9.out hg4))) (by omega) hFM HES.out,gbR _ _⟩ | exact ⟨_,rfl,JC (by omega) HES.out,gbR _ _⟩
        ·intro f w4 hG hd
         have hg4:=gbT (gbD (gbR wr none)) (chgF hG);have hz4:=hg4.size
         (try simp at hd)
         obtain ⟨e102,e103,AR,cR,e107,hAR⟩:=hd;simp [puts,dsts,Act.put,e102,e103,e107];have HAR:=zH hAR;clear e102 e103 e107 hAR;go_wp2_with fail;refine (YV m (trsN k P s2 (totM c r*trW k) j) (errsN es (2*totM c r) (2*j)) _ _ _ _ _ _ _ w4 (R9.out.grow hg4) (CS.grow _ TS.out hg4) HAR.out WM.out (Qo KB.out) (by omega) (by omega)).mono ?_;rintro e' w6 ⟨v6,rfl,o6,g6⟩;rw [HMX.out] at o6;obtain ⟨A8,B8,C8,D8,E8,a8,b8,c8,d8,e8,rfl⟩:=o6.eng;obtain ⟨F6,o6,l6⟩:=o6;have O6:Hid (aggF wr.heap.size (Zf m') _ w6):=zH ⟨F6,o6,fun x hx=>Nat.le_trans hz4 (l6 x hx)⟩;have G6':=zH g6;clear o6 g6 l6;go_wp2_with fail;exact ⟨_,rfl,O6.out,G6'.out⟩
        ·intro f w4 hG hI hd
         have hg4:=gbT (gbD (gbR wr none)) (chgF hG);have hz4:=hg4.size;clear hd;simp [puts,dsts,Act.put];go_wp2_with fail;exact ⟨_,rfl,⟨⟨_,rfl,hz4,Blk.new _ _ _⟩,gbA hg4 _⟩,⟨chgA _ _,by simp [keepsC,dstAt];exact ⟨fun h=>Vz _ _ _ h (gbA (gbR _ _) _),fun h=>YG _ _ _ h (gbA (gbR _ _) _)⟩⟩⟩
        ·intro f w4 hG hI hd
         have hg4:=gbT (gbD (gbR wr none)) (chgF hG);have hz4:=hg4.size;obtain ⟨⟨g22,e22,hg22,R4⟩,hI⟩:=hI;have e22:f 22=.pointer (some ⟨g22,0,none⟩):=e22
         (try simp at hd)
         have h108:aggF wr.heap.size (Zf m') (f 108) w4:=by first | exact hd | exact hd.1 | exact hd.2 | exact hd.2.1
         clear hd;obtain ⟨A8,B8,C8,D8,E8,a8,b8,c8,d8,e8,e108⟩:=h108.eng;rw [e108] at h108;obtain ⟨F4,o4,l4⟩:=h108;obtain ⟨f0,f1,f2,f3,f4,f5,f6,f7,f8⟩:=(R4).f9;obtain ⟨y0,y1,y2,y3,y4,y5,y6,y7,y8⟩:=(R4).c9;have hgF:=WR (Yr _) o4 R4 (by decide);have RS:=SOF.store R4 (us:=[.int .i64 m'.k.p,.slice A8 m'.k.al.length a8,.int .i64 m'.c.p,.slice B8 m'.c.st.length b8,.slice C8 m'.c.outs.length c8,.slice D8 m'.vs.length d8,.slice E8 m'.op.length e8,.int .i64 m'.rd,.bool m'.bad]) rfl o4 hgF;have GS:=Zu hg4 (Za g22 [.int .i64 m'.k.p,.slice A8 m'.k.al.length a8,.int .i64 m'.c.p,.slice B8 m'.c.st.length b8,.slice C8 m'.c.outs.length c8,.slice D8 m'.vs.length d8,.slice E8 m'.op.length e8,.int .i64 m'.rd,.bool m'.bad] 0 w4) hg22;simp only [Zm,Nat.zero_add,Nat.reduceAdd] at RS GS;have RS:=zH RS;have GS:=zH GS;clear hI o4;simp [puts,dsts,Act.put,e22,e108];clear R4;go_wp2_with fail;exact ⟨rfl,.bool false,⟨g22,e22,F4,RS.out,l4,hg22⟩,GS.out⟩
        all_goals
         intro f w4 hG hd;have hg4:=gbT (gbD (gbR wr none)) (chgF hG);have k0:=gbk hg4 (V0.out);have k1:=gbk hg4 (V1.out);have k2:=gbk hg4 (V2.out);have k3:=gbk hg4 (V3.out);have k4:=gbk hg4 (V4.out);have k5:=gbk hg4 (V5.out);have k6:=gbk hg4 (V6.out);have k7:=gbk hg4 (V7.out);have k8:=gbk hg4 (V8.out)
         (try simp at hd)
         (first | simp [hd] | simp)
         clear hd;go_wp2_with fail;exact ⟨rfl,rfl⟩
       intro f w5 hI hd;simp only [puts,dsts,Act.put,zB,zC,zA,zD,zE]
      rotate_left
      focus
       have i2:(nr:Int)<(2*totM c r:Int)+2*(j:Int):=by omega
       have i1:(nr:Int)<(2*totM c r:Int):=by omega
       have hME:(es.drop nr).take 0=errsN es (2*totM c r) (2*j):=by
        unfold errsN;rw [List.take_zero,List.drop_eq_nil_of_le (by omega),List.take_nil]
       have hFMle:nr+0≤nr:=by omega
       have hES:(es.drop (nr)).take (0)=errsN es (2*totM c r) (2*j):=hME;have hFM:nr+0≤nr:=hFMle;clear hME hFMle;have HES:=zH hES;clear hES;go_wp2_with fail;obtain ⟨A9,B9,C9,D9,E9,a9,b9,c9,d9',e9,hB9,hR9⟩:=SOF.eng SG.out;obtain ⟨m',hm'⟩:∃x,Yt m (trsN k P s2 (totM c r*trW k) j) (errsN es (2*totM c r) (2*j))=x:=⟨_,rfl⟩
       have HM':Hid (engAt k c P s1 s2 ins es (r+1)=m'):=by
        unfold Hid;rw [engAt,HM.out,HNS.out];exact hm'
       have hm'rd:m'.rd=(r:Int)+1:=by
        have h1:=WZ (s1:=s1) (s2:=s2) FT.out EB.out (fun i a h=>h) (by rw [HM.out];exact AT.out) (by rw [HM.out];exact HBD.out) (by rw [HRD.out];exact hlt);rw [HM'.out,HM.out] at h1;rw [h1]
        show m.rd+1=_
        rw [AT.out.rd]
       have hmrd:m.rd=(r:Int):=AT.out.rd;have HMR':=zH hm'rd;have HMR:=zH hmrd;have HMX:=zH hm';obtain ⟨v0,v1,v2,v3,v4,v5,v6,v7,v8⟩:=(hB9).c9;have V0:=zH v0;have V1:=zH v1;have V2:=zH v2;have V3:=zH v3;have V4:=zH v4;have V5:=zH v5;have V6:=zH v6;have V7:=zH v7;have V8:=zH v8;have R9:=zH hR9.al9;have B9':=zH hB9;have TS:=zH TLj.out.rd;clear v0 v1 v2 v3 v4 v5 v6 v7 v8 hB9 hR9 hm' hm'rd hmrd
       refine Zg [.rd (.agg #[.int .i64 m.k.p,.slice A9 m.k.al.length a9,.int .i64 m.c.p,.slice B9 m.c.st.length b9,.slice C9 m.c.outs.length c9,.slice D9 m.vs.length d9',.slice E9 m.op.length e9,.int .i64 m.rd,.bool m.bad]),.rd (.slice AT' j cT),.rd (.slice R nr cr),.rd (.int .i64 ((nr:Int))),.rd (.int .i64 ((nr:Int))),.fl (errS (0) (errsN es (2*totM c r) (2*j))),.fl (aggF wr.heap.size (Zf m')),.ch,.ch] (fun _=>False)
        [⟨[],fun _ w'=>wr.drew.grownBy w' none⟩,
         ⟨[22],fun l w'=>(∃g,l.getD 0 undef=.pointer (some ⟨g,0,none⟩)∧wr.heap.size≤g∧Blk w' g 58 #[.int .i64 0,.slice none 0 0,.int .i64 0,.slice none 0 0,.slice none 0 0,.slice none 0 0,.slice none 0 0,.int .i64 0,.bool false])∧wr.grownBy w' none⟩,
         ⟨[22],fun l w'=>(∃g F',l.getD 0 undef=.pointer (some ⟨g,0,none⟩)∧SOF 58 (Zf m') g F' w'∧(∀x∈F',wr.heap.size≤x)∧wr.heap.size≤g)∧wr.grownBy w' none⟩]
        (by kernel_rfl) (by kernel_rfl) (by kernel_rfl) 2 (by kernel_rfl) ?_ (gbR _ _) rfl ?_ ?_
       ·have hst:Zw [⟨[],fun _ w'=>wr.drew.grownBy w' none⟩,⟨[22],fun l w'=>(∃g,l.getD 0 undef=.pointer (some ⟨g,0,none⟩)∧wr.heap.size≤g∧Blk w' g 58 #[.int .i64 0,.slice none 0 0,.int .i64 0,.slice none 0 0,.slice none 0 0,.slice none 0 0,.slice none 0 0,.int .i64 0,.bool false])∧wr.grownBy w' none⟩,⟨[22],fun l w'=>(∃g F',l.getD 0 undef=.pointer (some ⟨g,0,none⟩)∧SOF 58 (Zf m') g F' w'∧(∀x∈F',wr.heap.size≤x)∧wr.heap.size≤g)∧wr.grownBy w' none⟩]:=by
         refine Zc (fun l w1 w2 h hg=>gbT h hg) ?_;refine Zc (Zo fun l w1 w2 ⟨⟨g,h1,h2,h3⟩,h4⟩ hg=>⟨⟨g,h1,h2,h3.grow hg⟩,gbT h4 hg⟩) ?_;exact Zc (Zo fun l w1 w2 ⟨⟨g,F',h1,h2,h3,h4⟩,h5⟩ hg=>⟨⟨g,F',h1,h2.grow hg,h3,h4⟩,gbT h5 hg⟩) ZX
        simp only [flOk,true_and,and_true];exact ⟨⟨Vz,hst⟩,⟨YG,hst⟩⟩
       ·simp only [hopsK,hopK,Kd.next,and_true]
        refine ⟨?_, ?_, ?_, ?_, ?_, ?_, ?_, ?_, ?_⟩;rotate_left 5
        ·intro f w4 hG hd
         have hg4:=gbT (gbD (gbR wr none)) (chgF hG);have hz4:=hg4.size
         (try simp at hd)
         (first | simp [hd] | simp)
         clear hd;go_wp2_with fail
         all_goals first | exact ⟨_,rfl,JB (HE.out.grow (gbT G2.out (gbT G9.out hg4))) (by omega) hFM HES.out,gbR _ _⟩ | exact ⟨_,rfl,JC (by omega) HES.out,gbR _ _⟩
        ·intro f w4 hG hd
         have hg4:=gbT (gbD (gbR wr none)) (chgF hG);have hz4:=hg4.size
         (try simp at hd)
         obtain ⟨e102,e103,AR,cR,e107,hAR⟩:=hd;simp [puts,dsts,Act.put,e102,e103,e107];have HAR:=zH hAR;clear e102 e103 e107 hAR;go_wp2_with fail;refine (YV m (trsN k P s2 (totM c r*trW k) j) (errsN es (2*totM c r) (2*j)) _ _ _ _ _ _ _ w4 (R9.out.grow hg4) (CS.grow _ TS.out hg4) HAR.out WM.out (Qo KB.out) (by omega) (by omega)).mono ?_;rintro e' w6 ⟨v6,rfl,o6,g6⟩;rw [HMX.out] at o6;obtain ⟨A8,B8,C8,D8,E8,a8,b8,c8,d8,e8,rfl⟩:=o6.eng;obtain ⟨F6,o6,l6⟩:=o6;have O6:Hid (aggF wr.heap.size (Zf m') _ w6):=zH ⟨F6,o6,fun x hx=>Nat.le_trans hz4 (l6 x hx)⟩;have G6':=zH g6;clear o6 g6 l6;go_wp2_with fail;exact ⟨_,rfl,O6.out,G6'.out⟩
        ·intro f w4 hG hI hd
         have hg4:=gbT (gbD (gbR wr none)) (chgF hG);have hz4:=hg4.size;clear hd;simp [puts,dsts,Act.put];go_wp2_with fail;exact ⟨_,rfl,⟨⟨_,rfl,hz4,Blk.new _ _ _⟩,gbA hg4 _⟩,⟨chgA _ _,by simp [keepsC,dstAt];exact ⟨fun h=>Vz _ _ _ h (gbA (gbR _ _) _),fun h=>YG _ _ _ h (gbA (gbR _ _) _)⟩⟩⟩
        ·intro f w4 hG hI hd
         have hg4:=gbT (gbD (gbR wr none)) (chgF hG);have hz4:=hg4.size;obtain ⟨⟨g22,e22,hg22,R4⟩,hI⟩:=hI;have e22:f 22=.pointer (some ⟨g22,0,none⟩):=e22
         (try simp at hd)
         have h108:aggF wr.heap.size (Zf m') (f 108) w4:=by first | exact hd | exact hd.1 | exact hd.2 | exact hd.2.1
         clear hd;obtain ⟨A8,B8,C8,D8,E8,a8,b8,c8,d8,e8,e108⟩:=h108.eng;rw [e108] at h108;obtain ⟨F4,o4,l4⟩:=h108;obtain ⟨f0,f1,f2,f3,f4,f5,f6,f7,f8⟩:=(R4).f9;obtain ⟨y0,y1,y2,y3,y4,y5,y6,y7,y8⟩:=(R4).c9;have hgF:=WR (Yr _) o4 R4 (by decide);have RS:=SOF.store R4 (us:=[.int .i64 m'.k.p,.slice A8 m'.k.al.length a8,.int .i64 m'.c.p,.slice B8 m'.c.st.length b8,.slice C8 m'.c.outs.length c8,.slice D8 m'.vs.length d8,.slice E8 m'.op.length e8,.int .i64 m'.rd,.bool m'.bad]) rfl o4 hgF;have GS:=Zu hg4 (Za g22 [.int .i64 m'.k.p,.slice A8 m'.k.al.length a8,.int .i64 m'.c.p,.slice B8 m'.c.st.length b8,.slice C8 m'.c.outs.length c8,.slice D8 m'.vs.length d8,.slice E8 m'.op.length e8,.int .i64 m'.rd,.bool m'.bad] 0 w4) hg22;simp only [Zm,Nat.zero_add,Nat.reduceAdd] at RS GS;have RS:=zH RS;have GS:=zH GS;clear hI o4;simp [puts,dsts,Act.put,e22,e108];clear R4;go_wp2_with fail;exact ⟨rfl,.bool false,⟨g22,e22,F4,RS.out,l4,hg22⟩,GS.out⟩
        all_goals
         intro f w4 hG hd;have hg4:=gbT (gbD (gbR wr none)) (chgF hG);have k0:=gbk hg4 (V0.out);have k1:=gbk hg4 (V1.out);have k2:=gbk hg4 (V2.out);have k3:=gbk hg4 (V3.out);have k4:=gbk hg4 (V4.out);have k5:=gbk hg4 (V5.out);have k6:=gbk hg4 (V6.out);have k7:=gbk hg4 (V7.out);have k8:=gbk hg4 (V8.out)
         (try simp at hd)
         (first | simp [hd] | simp)
         clear hd;go_wp2_with fail;exact ⟨rfl,rfl⟩
       intro f w5 hI hd;simp only [puts,dsts,Act.put,zB,zC,zA,zD,zE]
      rotate_left
      focus
       have i2:(nr:Int)<(2*totM c r:Int)+2*(j:Int):=by omega
       have i1:¬(nr:Int)<(2*totM c r:Int):=by omega
       have hME:(es.drop (2*totM c r)).take 0=errsN es (2*totM c r) (2*j):=by
        unfold errsN;rw [List.take_zero,List.drop_eq_nil_of_le (by omega),List.take_nil]
       have hFMle:2*totM c r+0≤nr:=by omega
       have hES:(es.drop (2*totM c r)).take (0)=errsN es (2*totM c r) (2*j):=hME;have hFM:2*totM c r+0≤nr:=hFMle;clear hME hFMle;have HES:=zH hES;clear hES;go_wp2_with fail;obtain ⟨A9,B9,C9,D9,E9,a9,b9,c9,d9',e9,hB9,hR9⟩:=SOF.eng SG.out;obtain ⟨m',hm'⟩:∃x,Yt m (trsN k P s2 (totM c r*trW k) j) (errsN es (2*totM c r) (2*j))=x:=⟨_,rfl⟩
       have HM':Hid (engAt k c P s1 s2 ins es (r+1)=m'):=by
        unfold Hid;rw [engAt,HM.out,HNS.out];exact hm'
       have hm'rd:m'.rd=(r:Int)+1:=by
        have h1:=WZ (s1:=s1) (s2:=s2) FT.out EB.out (fun i a h=>h) (by rw [HM.out];exact AT.out) (by rw [HM.out];exact HBD.out) (by rw [HRD.out];exact hlt);rw [HM'.out,HM.out] at h1;rw [h1]
        show m.rd+1=_
        rw [AT.out.rd]
       have hmrd:m.rd=(r:Int):=AT.out.rd;have HMR':=zH hm'rd;have HMR:=zH hmrd;have HMX:=zH hm';obtain ⟨v0,v1,v2,v3,v4,v5,v6,v7,v8⟩:=(hB9).c9;have V0:=zH v0;have V1:=zH v1;have V2:=zH v2;have V3:=zH v3;have V4:=zH v4;have V5:=zH v5;have V6:=zH v6;have V7:=zH v7;have V8:=zH v8;have R9:=zH hR9.al9;have B9':=zH hB9;have TS:=zH TLj.out.rd;clear v0 v1 v2 v3 v4 v5 v6 v7 v8 hB9 hR9 hm' hm'rd hmrd
       refine Zg [.rd (.agg #[.int .i64 m.k.p,.slice A9 m.k.al.length a9,.int .i64 m.c.p,.slice B9 m.c.st.length b9,.slice C9 m.c.outs.length c9,.slice D9 m.vs.length d9',.slice E9 m.op.length e9,.int .i64 m.rd,.bool m.bad]),.rd (.slice AT' j cT),.rd (.slice R nr cr),.rd (.int .i64 (2*(totM c r:Int))),.rd (.int .i64 ((nr:Int))),.fl (errS (0) (errsN es (2*totM c r) (2*j))),.fl (aggF wr.heap.size (Zf m')),.ch,.ch] (fun _=>False)
        [⟨[],fun _ w'=>wr.drew.grownBy w' none⟩,
         ⟨[22],fun l w'=>(∃g,l.getD 0 undef=.pointer (some ⟨g,0,none⟩)∧wr.heap.size≤g∧Blk w' g 58 #[.int .i64 0,.slice none 0 0,.int .i64 0,.slice none 0 0,.slice none 0 0,.slice none 0 0,.slice none 0 0,.int .i64 0,.bool false])∧wr.grownBy w' none⟩,
         ⟨[22],fun l w'=>(∃g F',l.getD 0 undef=.pointer (some ⟨g,0,none⟩)∧SOF 58 (Zf m') g F' w'∧(∀x∈F',wr.heap.size≤x)∧wr.heap.size≤g)∧wr.grownBy w' none⟩]
        (by kernel_rfl) (by kernel_rfl) (by kernel_rfl) 2 (by kernel_rfl) ?_ (gbR _ _) rfl ?_ ?_
       ·have hst:Zw [⟨[],fun _ w'=>wr.drew.grownBy w' none⟩,⟨[22],fun l w'=>(∃g,l.getD 0 undef=.pointer (some ⟨g,0,none⟩)∧wr.heap.size≤g∧Blk w' g 58 #[.int .i64 0,.slice none 0 0,.int .i64 0,.slice none 0 0,.slice none 0 0,.slice none 0 0,.slice none 0 0,.int .i64 0,.bool false])∧wr.grownBy w' none⟩,⟨[22],fun l w'=>(∃g F',l.getD 0 undef=.pointer (some ⟨g,0,none⟩)∧SOF 58 (Zf m') g F' w'∧(∀x∈F',wr.heap.size≤x)∧wr.heap.size≤g)∧wr.grownBy w' none⟩]:=by
         refine Zc (fun l w1 w2 h hg=>gbT h hg) ?_;refine Zc (Zo fun l w1 w2 ⟨⟨g,h1,h2,h3⟩,h4⟩ hg=>⟨⟨g,h1,h2,h3.grow hg⟩,gbT h4 hg⟩) ?_;exact Zc (Zo fun l w1 w2 ⟨⟨g,F',h1,h2,h3,h4⟩,h5⟩ hg=>⟨⟨g,F',h1,h2.grow hg,h3,h4⟩,gbT h5 hg⟩) ZX
        simp only [flOk,true_and,and_true];exact ⟨⟨Vz,hst⟩,⟨YG,hst⟩⟩
       ·simp only [hopsK,hopK,Kd.next,and_true]
        refine ⟨?_, ?_, ?_, ?_, ?_, ?_, ?_, ?_, ?_⟩;rotate_left 5
        ·intro f w4 hG hd
         have hg4:=gbT (gbD (gbR wr none)) (chgF hG);have hz4:=hg4.size
         (try simp at hd)
         (first | simp [hd] | simp)
         clear hd;go_wp2_with fail
         all_goals first | exact ⟨_,rfl,JB (HE.out.grow (gbT G2.out (gbT G9.out hg4))) (by omega) hFM HES.out,gbR _ _⟩ | exact ⟨_,rfl,JC (by omega) HES.out,gbR _ _⟩
        ·intro f w4 hG hd
         have hg4:=gbT (gbD (gbR wr none)) (chgF hG);have hz4:=hg4.size
         (try simp at hd)
         obtain ⟨e102,e103,AR,cR,e107,hAR⟩:=hd;simp [puts,dsts,Act.put,e102,e103,e107];have HAR:=zH hAR;clear e102 e103 e107 hAR;go_wp2_with fail;refine (YV m (trsN k P s2 (totM c r*trW k) j) (errsN es (2*totM c r) (2*j)) _ _ _ _ _ _ _ w4 (R9.out.grow hg4) (CS.grow _ TS.out hg4) HAR.out WM.out (Qo KB.out) (by omega) (by omega)).mono ?_;rintro e' w6 ⟨v6,rfl,o6,g6⟩;rw [HMX.out] at o6;obtain ⟨A8,B8,C8,D8,E8,a8,b8,c8,d8,e8,rfl⟩:=o6.eng;obtain ⟨F6,o6,l6⟩:=o6;have O6:Hid (aggF wr.heap.size (Zf m') _ w6):=zH ⟨F6,o6,fun x hx=>Nat.le_trans hz4 (l6 x hx)⟩;have G6':=zH g6;clear o6 g6 l6;go_wp2_with fail;exact ⟨_,rfl,O6.out,G6'.out⟩
        ·intro f w4 hG hI hd
         have hg4:=gbT (gbD (gbR wr none)) (chgF hG);have hz4:=hg4.size;clear hd;simp [puts,dsts,Act.put];go_wp2_with fail;exact ⟨_,rfl,⟨⟨_,rfl,hz4,Blk.new _ _ _⟩,gbA hg4 _⟩,⟨chgA _ _,by simp [keepsC,dstAt];exact ⟨fun h=>Vz _ _ _ h (gbA (gbR _ _) _),fun h=>YG _ _ _ h (gbA (gbR _ _) _)⟩⟩⟩
        ·intro f w4 hG hI hd
         have hg4:=gbT (gbD (gbR wr none)) (chgF hG);have hz4:=hg4.size;obtain ⟨⟨g22,e22,hg22,R4⟩,hI⟩:=hI;have e22:f 22=.pointer (some ⟨g22,0,none⟩):=e22
         (try simp at hd)
         have h108:aggF wr.heap.size (Zf m') (f 108) w4:=by first | exact hd | exact hd.1 | exact hd.2 | exact hd.2.1
         clear hd;obtain ⟨A8,B8,C8,D8,E8,a8,b8,c8,d8,e8,e108⟩:=h108.eng;rw [e108] at h108;obtain ⟨F4,o4,l4⟩:=h108;obtain ⟨f0,f1,f2,f3,f4,f5,f6,f7,f8⟩:=(R4).f9;obtain ⟨y0,y1,y2,y3,y4,y5,y6,y7,y8⟩:=(R4).c9;have hgF:=WR (Yr _) o4 R4 (by decide);have RS:=SOF.store R4 (us:=[.int .i64 m'.k.p,.slice A8 m'.k.al.length a8,.int .i64 m'.c.p,.slice B8 m'.c.st.length b8,.slice C8 m'.c.outs.length c8,.slice D8 m'.vs.length d8,.slice E8 m'.op.length e8,.int .i64 m'.rd,.bool m'.bad]) rfl o4 hgF;have GS:=Zu hg4 (Za g22 [.int .i64 m'.k.p,.slice A8 m'.k.al.length a8,.int .i64 m'.c.p,.slice B8 m'.c.st.length b8,.slice C8 m'.c.outs.length c8,.slice D8 m'.vs.length d8,.slice E8 m'.op.length e8,.int .i64 m'.rd,.bool m'.bad] 0 w4) hg22;simp only [Zm,Nat.zero_add,Nat.reduceAdd] at RS GS;have RS:=zH RS;have GS:=zH GS;clear hI o4;simp [puts,dsts,Act.put,e22,e108];clear R4;go_wp2_with fail;exact ⟨rfl,.bool false,⟨g22,e22,F4,RS.out,l4,hg22⟩,GS.out⟩
        all_goals
         intro f w4 hG hd;have hg4:=gbT (gbD (gbR wr none)) (chgF hG);have k0:=gbk hg4 (V0.out);have k1:=gbk hg4 (V1.out);have k2:=gbk hg4 (V2.out);have k3:=gbk hg4 (V3.out);have k4:=gbk hg4 (V4.out);have k5:=gbk hg4 (V5.out);have k6:=gbk hg4 (V6.out);have k7:=gbk hg4 (V7.out);have k8:=gbk hg4 (V8.out)
         (try simp at hd)
         (first | simp [hd] | simp)
         clear hd;go_wp2_with fail;exact ⟨rfl,rfl⟩
       intro f w5 hI hd;simp only [puts,dsts,Act.put,zB,zC,zA,zD,zE]
      rotate_left
      all_goals
       obtain ⟨⟨g22,F',e22a,S22,l22,hg22⟩,g5⟩:=hI;have e22:f 22=.pointer (some ⟨g22,0,none⟩):=e22a;rw [e22];clear hd e22 e22a;have hlt12:=SG.out.ltg;have hout:g12∉F':=fun hx=>by have:=l22 _ hx;omega
       have TG5:=zH (TG.out.grow g5);have G95:=zH (gbT G9.out g5);have BG:=zH (B9'.out.grow g5);obtain ⟨A8,B8,C8,D8,E8,a8,b8,c8,d8,e8,hB22,-⟩:=S22.eng;obtain ⟨y0,y1,y2,y3,y4,y5,y6,y7,y8⟩:=(hB22).c9;obtain ⟨v0,v1,v2,v3,v4,v5,v6,v7,v8⟩:=(BG.out).c9;obtain ⟨f0,f1,f2,f3,f4,f5,f6,f7,f8⟩:=(BG.out).f9;rw [HMR'.out] at y7;rw [HMR.out] at v7;have hT9:totM c (r+1)≤60:=JA FT.out.ok (by rw [HRD.out];omega);have hTs:totM c (r+1)=totM c r+j:=by rw [totM_succ,HNS.out]
       have HTS:=zH hTs;have HB22:=zH hB22;have HS22:=zH S22;have HOUT:=zH hout;clear hTs g5 hB22 S22 l22 TG SG hout HES hFM hes0 R9 B9' TS V0 V1 V2 V3 V4 V5 V6 V7 V8;go_wp2_with fail;clear y0 y1 y2 y3 y4 y5 y6 y7 y8 v0 v1 v2 v3 v4 v5 v6 v7 v8 f0 f1 f2 f3 f4 f5 f6 f7 f8;have HAg:=SOF.is HS22.out (us:=[.int .i64 m'.k.p,.slice A8 m'.k.al.length a8,.int .i64 m'.c.p,.slice B8 m'.c.st.length b8,.slice C8 m'.c.outs.length c8,.slice D8 m'.vs.length d8,.slice E8 m'.op.length e8,.int .i64 m'.rd,.bool m'.bad]) HB22.out;have rs:=SOF.store BG.out (us:=[.int .i64 m'.k.p,.slice A8 m'.k.al.length a8,.int .i64 m'.c.p,.slice B8 m'.c.st.length b8,.slice C8 m'.c.outs.length c8,.slice D8 m'.vs.length d8,.slice E8 m'.op.length e8,.int .i64 m'.rd,.bool m'.bad]) rfl HAg HOUT.out;have CH:=Za g12 [.int .i64 m'.k.p,.slice A8 m'.k.al.length a8,.int .i64 m'.c.p,.slice B8 m'.c.st.length b8,.slice C8 m'.c.outs.length c8,.slice D8 m'.vs.length d8,.slice E8 m'.op.length e8,.int .i64 m'.rd,.bool m'.bad] 0 w5;have tz:=TG5.out.chg CH hne.symm;have gz:=gbChg G95.out CH (fun y hy=>by subst hy;exact hg12);simp only [Zm,Nat.zero_add,Nat.reduceAdd] at rs tz gz;rw [HMR'.out] at rs tz gz;have RS:=zH rs;have TZ:=zH tz;have GZ:=zH gz;clear rs tz gz CH HAg;have L1:=zH (SOF.eqM HM'.out RS.out);have L2:=zH (Blk.eqI (x:=((totM c (r+1)*trW k:Nat):Int)) (by rw [HTS.out,Nat.add_mul]) TZ.out);have L3:Hid (r+1=0∨(engAt k c P s1 s2 ins es (r+1 - 1)).bad=false):=zH (.inr (by rw [Nat.add_sub_cancel,HM.out];exact HBD.out));have hu:2*(totM c r:Int)+2*(j:Int)=((2*totM c (r+1):Nat):Int):=by have:=HTS.out;omega
       go_roundw
       case rel=>exact ⟨r+1,F',by rw [HRD.out];omega,by rw [hu],L3,L1,L2,GZ⟩
       case measure =>
        have:=HTS.out;simp [intOf];omega
  ·have HFIN:Hid (engAt k c P s1 s2 ins es (rounds c).toNat=m):=by
    unfold Hid;rw [HRD.out,show Rd.toNat=r by omega];exact HM.out
   obtain rfl:Rd=(r:Int):=by omega
   clear hlt hr;go_wp2_with fail;refine Zv [isV (.pointer (some ⟨g12,7,none⟩)),isV (.int .i64 r),isV (.agg #[.int .i64 c.p,.slice A1 c.st.length n1,.slice A2 c.outs.length n2]),isV (.int .i64 r),isV (.bool false),isV (.bool false),isV (undef),isV (undef),isV (undef),isV (.bool false)] (by kernel_rfl) (by kernel_rfl) (by kernel_rfl) (by simp [ZM,Zb]) ?_ ?_
   ·simp only [hops,and_true]
    refine ⟨?_, ?_, ?_, ?_, ?_, ?_, ?_, ?_, ?_, ?_⟩;rotate_left 3
    ·intro f w1 hG hd
     have hg4:=gbT (gbD (gbR wr none)) hG;simp [deps,tAt,isV] at hd
     first | simp [hd] | simp
     clear hd;go_wp2_with fail;refine (YB c _ w1 (HC.out.grow (gbT G2.out (gbT G6.out hg4))) WC.out.wf).mono ?_;rintro e w6 ⟨rfl,hw⟩;rw [HRD.out];go_wp2_with fail;exact ⟨_,rfl,by first | with_reducible exact gbR _ _ | exact hw,by simp [tAt,isV]⟩
    all_goals
     intro f w1 hG hd;have hg4:=gbT (gbD (gbR wr none)) hG;have k0:=gbk hg4 (V7.out);have k1:=gbk hg4 (X0.out);have k2:=gbk hg4 (X1.out);have k3:=gbk hg4 (X2.out);have k4:=gbk hg4 (V8.out);simp [deps,tAt,isV] at hd
     first | simp [hd] | simp
     clear hd;go_wp2_with fail;exact ⟨_,rfl,by with_reducible exact gbR _ _,by simp [tAt,isV]⟩
   intro f w5 hG hd;simp [knows,tAt,isV] at hd;simp only [puts,dsts,Act.put,hd,zB,zC,zA,zD,zE];clear hd;have g5:=gbT (gbD (gbR wr none)) hG;clear hG;have G7:=zH (gbT G6.out g5);obtain ⟨c0,c1,c2,c3,c4,c5,c6,c7,c8⟩:=(hB9.grow g5).c9;have AL:=zH (hR9.al9.grow g5);have GW7:=zH (gbT GB.out (gbT G2.out G7.out));have hz7:=GW7.out.size;clear g5 hB9 hR9;go_wp2_with fail;clear c0 c1 c2 c3 c4 c5 c6 c7 c8;refine (Wp m _ w5 AL.out WM.out).mono ?_;rintro e' w9 ⟨V,rfl,o9,g9⟩;obtain ⟨AV,cV,rfl,_,_⟩:=ZB o9;have O9:=zH (ZE o9 hz7);have G9:=zH (gbT GW7.out g9);clear o9 g9;go_wp2_with fail;refine bodyPost_ret (v:=.tuple #[.slice AV (outR m).length cV,.bool (outB m)]) (by simp [results,Tryz.results14]) rfl ?_;rw [HRA.out,HFIN.out];exact ⟨_,rfl,O9.out,G9.out⟩
end Go.Proofs.YthaadgdeadbhkaaGreat
