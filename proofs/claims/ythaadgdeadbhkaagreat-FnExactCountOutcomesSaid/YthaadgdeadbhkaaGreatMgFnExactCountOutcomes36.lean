/-
 The laws' helpers on slices of Auths,by what they read as.
-/
import Derived.Test.YthaadgdeadbhkaaGreatMgFnExactCountOutcomes35
open Go.RowKit
set_option linter.unusedVariables false
set_option linter.unusedSimpArgs false
namespace Go.Proofs.YthaadgdeadbhkaaGreat
def auS (xs:List AuM) (k:Nat):Nat:=((xs.take k).map AuM.sz).sum
def szA (xs:List AuM):Nat:=xs.length+auS xs xs.length
def mkAS (k:Int):List AuM→List AuM
 | []=>[]
 | x :: xs=>x.mkd k :: mkAS (k+(x.sz:Nat)) xs
def EM.sz (m:EM):Nat:=m.k.sz+m.c.sz+szA m.vs+m.op.length
def EM.cnt (k:Int) (m:EM):Int:=m.c.cnt (m.k.cnt k)+(auS m.vs m.vs.length:Nat)+m.op.length
def EM.mkd (k:Int) (m:EM):EM:={ m with k:=m.k.mkd k,c:=m.c.mkd (m.k.cnt k),vs:=mkAS (m.c.cnt (m.k.cnt k)) m.vs,op:=marks (m.c.cnt (m.k.cnt k)+(auS m.vs m.vs.length:Nat)) m.op.length }
theorem ownL.chg {lo:Nat} {cs:List CS} {vs:List Value} {w w':World} {S:Nat→Prop} (h:ownL lo cs vs w) (k:Chg S w w') (hS:∀y,S y→y<lo):ownL lo cs vs w':=by
 obtain ⟨Fs,h1,h2⟩:=h;exact ⟨Fs,h1.kept fun g hg=>k.block g (h1.lt g hg) (fun hs=>by have:=h2 g hg;have:=hS g hs;omega),h2⟩
theorem ownL.of {lo:Nat} {cs:List CS} {F:List Nat} {vs:List Value} {w:World} (h:AggO w cs F (.agg vs.toArray)) (k:∀g∈F,lo≤g):ownL lo cs vs w:=aggF.all ⟨F,h,k⟩
theorem ownL.one {lo:Nat} {c:CS} {F:List Nat} {v:Value} {w:World} (h:c.own w F v) (k:∀g∈F,lo≤g):ownL lo [c] [v] w:=ownF.one ⟨F,h,k⟩
theorem cengine_omk {w:World} {m:EM} {u1 u3 u4 u5 u6:Value} {F1 F3 F4 F5 F6:List Nat} (h1:(cints m.k.al).own w F1 u1) (h3:(csteps m.c.st).own w F3 u3) (h4:(cints m.c.outs).own w F4 u4) (h5:(cauths m.vs).own w F5 u5) (h6:(cints m.op).own w F6 u6) (d13:∀g∈F1,g∉F3) (d14:∀g∈F1,g∉F4) (d15:∀g∈F1,g∉F5) (d16:∀g∈F1,g∉F6) (d34:∀g∈F3,g∉F4) (d35:∀g∈F3,g∉F5) (d36:∀g∈F3,g∉F6) (d45:∀g∈F4,g∉F5) (d46:∀g∈F4,g∉F6) (d56:∀g∈F5,g∉F6):AggO w (Zf m) [[],F1,[],F3,F4,F5,F6,[],[]].flatten (.agg #[.int .i64 m.k.p,u1,.int .i64 m.c.p,u3,u4,u5,u6,.int .i64 m.rd,.bool m.bad]):=⟨_,_,rfl,(OwnAll.cons (Qu _ _) (OwnAll.cons h1 (OwnAll.cons (Qu _ _) (OwnAll.cons h3 (OwnAll.cons h4 (OwnAll.cons h5 (OwnAll.cons h6 (OwnAll.cons (Qu _ _) (OwnAll.cons (cb_own _ _) (OwnAll.nil _) (by simp)) (by simp)) (fun g hg=>by simp)) (fun g hg=>by simp [d56 g hg])) (fun g hg=>by simp [d45 g hg,d46 g hg])) (fun g hg=>by simp [d34 g hg,d35 g hg,d36 g hg])) (by simp)) (fun g hg=>by simp [d13 g hg,d14 g hg,d15 g hg,d16 g hg])) (by simp)),rfl⟩
def EM.wf (m:EM):Prop:=m.k.wf∧m.c.wf∧(∀x∈m.vs,x.wf)∧(∀z∈m.op,i64w z)∧i64w m.rd
theorem csteps_nil (w:World):(csteps []).own w [] (.slice none 0 0):=⟨0,[],[],rfl,World.ownsRow_nil w 0 _ 3,OwnAll.nil w,rfl,by simp⟩
def eng0M:EM:=⟨⟨0,[]⟩,⟨0,[],[]⟩,[],[],0,false⟩
theorem eng0_own (w:World):AggO w (Zf eng0M) [] (.agg #[.int .i64 0,.slice none 0 0,.int .i64 0,.slice none 0 0,.slice none 0 0,.slice none 0 0,.slice none 0 0,.int .i64 0,.bool false]) :=
 cengine_omk (m:=eng0M) (YS w) (csteps_nil w) (YS w) (Qk w) (YS w) (by simp) (by simp) (by simp) (by simp) (by simp) (by simp) (by simp) (by simp) (by simp) (by simp)
noncomputable def newR (k:KM) (c:AM) (es:List Int) (s a:Int):EM:=if newB k c es s a=true then engNew k c k.p.toNat s.toNat es else eng0M
theorem Jd (k:KM) (c:AM) (es:List Int) (s a:Int) (wk:kwf k) (wc:amwf c) (hn:es.length≤1048576) (ws:i64w a) (v0 v1 v2:Value) (w:World) (h0:AggR w (ckeys k) v0) (h1:AggR w (carith c) v1) (h2:(cints es).rd w v2) :
  Calls Tryz.prog 39 #[v0,v1,v2,.agg #[.int .i64 s,.int .i64 a]] w fun e w'=>∃V F,e=.returned (.tuple #[V,.bool (newB k c es s a)])∧AggO w' (Zf (newR k c es s a)) F V∧(∀g∈F,w.heap.size≤g)∧w.grownBy w' none:=by
 obtain ⟨A,cc,rfl,_,_,hI⟩:=Zx h2
 cases hb:newB k c es s a
 ·refine (QP k c A es.length cc es s a v0 v1 w h0 h1 hI wk wc hn ws hb).mono ?_
  rintro e w' ⟨rfl,g⟩;refine ⟨_,[],rfl, ?_,by simp,g⟩;rw [show newR k c es s a=eng0M by unfold newR;rw [if_neg (by rw [hb];decide)]];exact eng0_own w'
 ·obtain ⟨hk,hok,hpp,hl,hel,htp,ha9⟩:=Qn hb
  obtain ⟨S,A',hS,hA,hs1,ha1⟩:=Vr htp;subst hS;subst hA;obtain ⟨p2,_⟩:=ZC (Yc hk).1;have hP:k.p=k.p.toNat:=by omega
  have hR:newR k c es (S:Int) (A':Int)=engNew k c k.p.toNat S es:=by unfold newR;rw [if_pos hb];rfl
  rw [hR];have hv:Value.slice A es.length cc=.slice A 60 cc:=by rw [hl]
  rw [hl] at hI;rw [hv];refine (Vb k c k.p.toNat S A' A cc es v0 v1 w h0 h1 hI wk wc hP hb).mono ?_;rintro e w' ⟨v,rfl,⟨F,h5,h6⟩,g⟩;exact ⟨v,F,rfl,h5,h6,g⟩
theorem Je (k:KM) (c:AM) (es:List Int) (s a:Int) (wk:kwf k) (wc:amwf c) (hn:es.length≤1048576) (ws:i64w a) (v0 v1 v2:Value) (w:World) (h0:AggR w (ckeys k) v0) (h1:AggR w (carith c) v1) (h2:(cints es).rd w v2) :
  Calls Tryz.prog 50 #[v0,v1,v2,.agg #[.int .i64 s,.int .i64 a]] w fun e w'=>∃V F,e=.returned (.tuple #[V,.bool (newB k c es s a)])∧AggO w' (Zf (newR k c es s a)) F V∧(∀g∈F,w.heap.size≤g)∧w.grownBy w' none:=by
 obtain ⟨A,cc,rfl,_,_,hI⟩:=Zx h2
 cases hb:newB k c es s a
 ·refine (QO k c A es.length cc es s a v0 v1 w h0 h1 hI wk wc hn ws hb).mono ?_
  rintro e w' ⟨rfl,g⟩;refine ⟨_,[],rfl, ?_,by simp,g⟩;rw [show newR k c es s a=eng0M by unfold newR;rw [if_neg (by rw [hb];decide)]];exact eng0_own w'
 ·obtain ⟨hk,hok,hpp,hl,hel,htp,ha9⟩:=Qn hb
  obtain ⟨S,A',hS,hA,hs1,ha1⟩:=Vr htp;subst hS;subst hA;obtain ⟨p2,_⟩:=ZC (Yc hk).1;have hP:k.p=k.p.toNat:=by omega
  have hR:newR k c es (S:Int) (A':Int)=engNew k c k.p.toNat S es:=by unfold newR;rw [if_pos hb];rfl
  rw [hR];have hv:Value.slice A es.length cc=.slice A 60 cc:=by rw [hl]
  rw [hl] at hI;rw [hv];refine (WW k c k.p.toNat S A' A cc es v0 v1 w h0 h1 hI wk wc hP hb).mono ?_;rintro e w' ⟨v,rfl,⟨F,h5,h6⟩,g⟩;exact ⟨v,F,rfl,h5,h6,g⟩
set_option maxHeartbeats 400000 in
theorem Jf (s a:Int) (n:Nat) (w:World) (h:tapeB s a=false) :
  Calls Tryz.prog 40 #[.agg #[.int .i64 s,.int .i64 a],.int .i64 n] w fun e w'=>e=.returned (.agg #[.int .i64 0,.int .i64 0])∧w.grownBy w' none:=by
 have d1:=zH h;clear h
 go_enter Tryz.func40,Tryz.ntmps40
 have B1:=zH (Blk.new' (w.alloc (.cells #[.int .i64 s,.int .i64 a] 41)) 41 #[.int .i64 0,.int .i64 0] (w.heap.size+1) (by simp));have G1:=zH (gbA (gbA (gbR w none) (.cells #[.int .i64 s,.int .i64 a] 41)) (.cells #[.int .i64 0,.int .i64 0] 41));go_wp2_with fail;refine (YO s a _).mono ?_;rintro e w1 ⟨rfl,g1⟩;rw [d1.out];have B1:=zH (B1.out.grow g1);have G1:=zH (gbT G1.out g1);clear g1;have b0:=B1.out.cell 0;have b1:=B1.out.cell 1;have f0:=B1.out.frozen 0;have f1:=B1.out.frozen 1;simp at b0 b1;have RS:=zH (Zd B1.out [.int .i64 0,.int .i64 0] rfl);have CH:=zH (Za (w.heap.size+1) [.int .i64 0,.int .i64 0] 0 w1);go_wp2_with fail;refine YJ Tryz.results40 (by rfl) stTape (cs:=#[.int .i64 0,.int .i64 0]) RS.out (by rfl) (by rfl) ?_;exact ⟨rfl,Zu G1.out CH.out (by omega)⟩
set_option maxHeartbeats 400000 in
theorem Jg (s a:Int) (n:Nat) (w:World) (h:tapeB s a=false) :
  Calls Tryz.prog 51 #[.agg #[.int .i64 s,.int .i64 a],.int .i64 n] w fun e w'=>e=.returned (.agg #[.int .i64 0,.int .i64 0])∧w.grownBy w' none:=by
 have d1:=zH h;clear h
 go_enter Tryz.func51,Tryz.ntmps51
 have B1:=zH (Blk.new' (w.alloc (.cells #[.int .i64 s,.int .i64 a] 41)) 41 #[.int .i64 0,.int .i64 0] (w.heap.size+1) (by simp));have G1:=zH (gbA (gbA (gbR w none) (.cells #[.int .i64 s,.int .i64 a] 41)) (.cells #[.int .i64 0,.int .i64 0] 41));go_wp2_with fail;refine (Yj s a _).mono ?_;rintro e w1 ⟨rfl,g1⟩;rw [d1.out];have B1:=zH (B1.out.grow g1);have G1:=zH (gbT G1.out g1);clear g1;have b0:=B1.out.cell 0;have b1:=B1.out.cell 1;have f0:=B1.out.frozen 0;have f1:=B1.out.frozen 1;simp at b0 b1;have RS:=zH (Zd B1.out [.int .i64 0,.int .i64 0] rfl);have CH:=zH (Za (w.heap.size+1) [.int .i64 0,.int .i64 0] 0 w1);go_wp2_with fail;refine YJ Tryz.results51 (by rfl) stTape (cs:=#[.int .i64 0,.int .i64 0]) RS.out (by rfl) (by rfl) ?_;exact ⟨rfl,Zu G1.out CH.out (by omega)⟩
def forkS (s a:Int) (n:Nat):Nat:=if tapeB s a=true then keyN s.toNat 9 n else 0
theorem forkS_lt {s a:Int} {n:Nat} (hn:n<4294967296):forkS s a n<4294967296:=by
 unfold forkS
 split
 ·rename_i h
  obtain ⟨S,A,rfl,rfl,hS,_⟩:=Vr h;exact Wf (by simpa using hS) (by omega) hn
 ·omega
theorem QQ (s a:Int) (n:Nat) (w:World) (hn:n≤1000000) :
  Calls Tryz.prog 40 #[.agg #[.int .i64 s,.int .i64 a],.int .i64 n] w fun e w'=>e=.returned (.agg #[.int .i64 (forkS s a n),.int .i64 0])∧w.grownBy w' none:=by
 cases h:tapeB s a
 ·have e9:forkS s a n=0:=by unfold forkS;rw [if_neg (by rw [h];decide)]
  rw [e9];exact Jf s a n w h
 ·obtain ⟨S,A,rfl,rfl,hS,hA⟩:=Vr h
  have e9:forkS (S:Int) (A:Int) n=keyN S 9 n:=by unfold forkS;rw [if_pos h];rfl
  rw [e9];exact Xb S A n w hS hA hn
theorem QR (s a:Int) (n:Nat) (w:World) (hn:n≤1000000) :
  Calls Tryz.prog 51 #[.agg #[.int .i64 s,.int .i64 a],.int .i64 n] w fun e w'=>e=.returned (.agg #[.int .i64 (forkS s a n),.int .i64 0])∧w.grownBy w' none:=by
 cases h:tapeB s a
 ·have e9:forkS s a n=0:=by unfold forkS;rw [if_neg (by rw [h];decide)]
  rw [e9];exact Jg s a n w h
 ·obtain ⟨S,A,rfl,rfl,hS,hA⟩:=Vr h
  have e9:forkS (S:Int) (A:Int) n=keyN S 9 n:=by unfold forkS;rw [if_pos h];rfl
  rw [e9];exact Xc S A n w hS hA hn
noncomputable def runOkB (k:KM) (c:AM) (ins es:List Int) (s a:Int):Bool:=tapeB s a&&!decide (900000<a)&&newB k c ins 0 0&&elemsB k.p es
theorem newB_seed (k:KM) (c:AM) (ins:List Int) (s:Nat) (hs:s<4294967296):newB k c ins s 0=newB k c ins 0 0:=by
 unfold newB;have h1:=Yw hs (show 0≤1000000 by omega);have h2:=Yw (s:=0) (by omega) (show 0≤1000000 by omega);have h1:tapeB s 0=true:=h1;have h2:tapeB 0 0=true:=h2;rw [h1,h2]
theorem specNew9 (k:KM) (c:AM) (ins:List Int) (I:Option Addr) (ni ci:Nat) (s1:Nat) (kv cv:Value) (w2:World) (hk:AggR w2 (ckeys k) kv) (hc:AggR w2 (carith c) cv) (hi:(cints ins).rd w2 (.slice I ni ci)) (wk:kwf k) (wc:amwf c) (hn:ins.length≤1048576) (w4:World) (hg:w2.grownBy w4 none) :
  Calls Tryz.prog 39 #[kv,cv,.slice I ni ci,.agg #[.int .i64 s1,.int .i64 0]] w4 fun e w'=>∃v,e=.returned (.tuple #[v,.bool (newB k c ins s1 0)])∧aggF w4.heap.size (Zf (newR k c ins s1 0)) v w'∧w4.grownBy w' none :=
 (Jd k c ins s1 0 wk wc hn (by unfold i64w;omega) kv cv (.slice I ni ci) w4 (hk.grow hg) (hc.grow hg) (CS.grow _ hi hg)).mono fun e w' ⟨V,F,h1,h2,h3,h4⟩=>⟨V,h1,⟨F,h2,h3⟩,h4⟩
theorem implNew9 (k:KM) (c:AM) (ins:List Int) (I:Option Addr) (ni ci:Nat) (s1:Nat) (kv cv:Value) (w2:World) (hk:AggR w2 (ckeys k) kv) (hc:AggR w2 (carith c) cv) (hi:(cints ins).rd w2 (.slice I ni ci)) (wk:kwf k) (wc:amwf c) (hn:ins.length≤1048576) (w4:World) (hg:w2.grownBy w4 none) :
  Calls Tryz.prog 50 #[kv,cv,.slice I ni ci,.agg #[.int .i64 s1,.int .i64 0]] w4 fun e w'=>∃v,e=.returned (.tuple #[v,.bool (newB k c ins s1 0)])∧aggF w4.heap.size (Zf (newR k c ins s1 0)) v w'∧w4.grownBy w' none :=
 (Je k c ins s1 0 wk wc hn (by unfold i64w;omega) kv cv (.slice I ni ci) w4 (hk.grow hg) (hc.grow hg) (CS.grow _ hi hg)).mono fun e w' ⟨V,F,h1,h2,h3,h4⟩=>⟨V,h1,⟨F,h2,h3⟩,h4⟩
set_option maxHeartbeats 4000000 in
set_option maxRecDepth 100000 in
theorem QS (k:KM) (c:AM) (s a:Int) (I R:Option Addr) (ni ci nr cr:Nat) (ins es:List Int) (kv cv:Value) (w0:World) (h:AggR w0 (ckeys k) kv) (hc:AggR w0 (carith c) cv) (hi:(cints ins).rd w0 (.slice I ni ci)) (he:Ints w0 R nr es) (wk:kwf k) (wc:amwf c) (hn:ins.length≤1048576) (hnr:nr≤1048576) (hb:runOkB k c ins es s a=false) :
  Calls Tryz.prog 14 #[kv,cv,.slice I ni ci,.agg #[.int .i64 s,.int .i64 a],.slice R nr cr] w0 fun e w'=>e=.returned (.tuple #[.slice none 0 0,.bool false])∧w0.grownBy w' none:=by
 obtain ⟨KA,kc,rfl,_,_,_⟩:=ZG h;obtain ⟨u1,u2,rfl,c1,c2⟩:=Zt hc;obtain ⟨A1,n1,rfl,_,_,_⟩:=ZP (s:=3) (fun _=>rfl) (by omega) c1;obtain ⟨A2,n2,rfl,_,_,_⟩:=Zx c2;obtain ⟨wi,hw1⟩:∃y:World,((w0.alloc (.cells #[.int .i64 k.p,.slice KA k.al.length kc] 34)).alloc (.cells #[.int .i64 c.p,.slice A1 c.st.length n1,.slice A2 c.outs.length n2] 38)).alloc (.cells #[.int .i64 s,.int .i64 a] 41)=y:=⟨_,rfl⟩;have GB:Hid (w0.grownBy wi none):=by rw [← hw1];exact gbA (gbA (gbA (gbR _ _) _) _) _
 have D0:Hid (Blk wi w0.heap.size 34 #[.int .i64 k.p,.slice KA k.al.length kc]):=by rw [← hw1];exact ((Blk.new w0 _ _).grow (gbA (gbR _ _) _)).grow (gbA (gbR _ _) _)
 have D1:Hid (Blk wi (w0.heap.size+1) 38 #[.int .i64 c.p,.slice A1 c.st.length n1,.slice A2 c.outs.length n2]):=by rw [← hw1];exact (Blk.new' _ _ _ _ (by simp)).grow (gbA (gbR _ _) _)
 have D2:Hid (Blk wi (w0.heap.size+1+1) 41 #[.int .i64 s,.int .i64 a]):=by rw [← hw1];exact Blk.new' _ _ _ _ (by simp)
 have HK:=zH (AggR.grow h GB.out);have HC:=zH (AggR.grow hc GB.out);have HI:=zH (CS.grow _ hi GB.out);have HE:=zH (he.grow GB.out);have WK:=zH wk;have WC:=zH wc;have hkp1:=wk.1.1;have hkp2:=wk.1.2;have HB:=zH hb;have hs1:forkS s a 1<4294967296:=forkS_lt (by omega);clear h hc hi he wk wc c1 c2 hb
 go_enter Tryz.func14,Tryz.ntmps14
 have y0:=D2.out.cell 0;have y1:=D2.out.cell 1;simp at y0 y1;go_wp2_with fail;clear hw1 y0 y1;refine (Yj s a _).mono ?_;rintro e w2 ⟨rfl,g2⟩;have G2:=zH (gbT GB.out g2);have B0:=D0.out.grow g2;have B1:=D1.out.grow g2;have B2:=D2.out.grow g2;have K2:=HK.out.grow g2;have C2:=HC.out.grow g2;have I2:=CS.grow _ HI.out g2;have E2:=HE.out.grow g2;clear g2
 cases htb:tapeB s a
 ·clear B0 B1 B2 K2 C2 I2 E2 hs1
  go_wp2_with fail;refine bodyPost_ret (v:=.tuple #[.slice none 0 0,.bool false]) (by simp [results,Tryz.results14]) rfl ?_;exact ⟨rfl,G2.out⟩
 have HTB:=zH htb;have B0:=zH B0;have B1:=zH B1;have B2:=zH B2;have K2:=zH K2;have C2:=zH C2;have I2:=zH I2;have E2:=zH E2;clear htb;have y1:=B2.out.cell 1;simp at y1
 by_cases ha:(900000:Int)<a
 ·go_wp2_with fail
  clear y1;refine bodyPost_ret (v:=.tuple #[.slice none 0 0,.bool false]) (by simp [results,Tryz.results14]) rfl ?_;exact ⟨rfl,G2.out⟩
 ·go_wp2_with fail
  clear y1;refine implrun1_c k c (newR k c ins (forkS s a 1) 0) (newB k c ins (forkS s a 1) 0) KA A1 A2 I kc n1 n2 ni ci w0.heap.size (w0.heap.size+1) (w0.heap.size+1+1) s a (forkS s a 1) w2 B0.out B1.out B2.out (fun w4 _=>QR s a 1 w4 (by omega)) (fun w4 hg=>implNew9 k c ins I ni ci (forkS s a 1) _ _ w2 K2.out C2.out I2.out WK.out WC.out hn w4 hg) _ _ _ _ _ _ _ _ _ _ _ _ _ _ _ _ _ _ _ _ _ _ _ _ _ _ _ _ _ _ _ _ _ _ _ _ _ _ _ _ _ _ _ _ _ _ _ _ _ _ _ _ _ _ _ _ _ _ _ _ _ _ _ _ _ _ _ _ _ _ _ _ _ _ _ _ _ _ _ _ _ _ _ _ _ _ _ _ _ _ _ _ _ _ _ _ _ _ _ _ _ _ _ _ _ _ _ _ _ _ _ _ _ _ _ _ _ _ _ ?_;intro v33 v34 v35 v36 v37 v38 v39 v40 v41 w3 g12 hg12 hs12 g3;have G3:=zH (gbT G2.out g3);have k0:=(B0.out.grow g3).cell 0;simp at k0;have E3:=zH (E2.out.grow g3);clear hs12 g3 B0 B1 B2 K2 C2 I2 E2;rw [newB_seed k c ins _ hs1]
  cases hnb:newB k c ins 0 0
  ·clear hnb
   go_wp2_with fail;clear k0;refine bodyPost_ret (v:=.tuple #[.slice none 0 0,.bool false]) (by simp [results,Tryz.results14]) rfl ?_;exact ⟨rfl,G3.out⟩
  have HNB:=zH hnb;clear hnb;go_wp2_with fail;clear k0;refine (Zp k.p R nr cr es w3 hkp2 hkp1 E3.out (by omega)).mono ?_;rintro e w4 ⟨rfl,rfl⟩
  have hel:elemsB k.p es=false:=by
   have h1:=HB.out;unfold runOkB at h1;rw [HTB.out,HNB.out,show decide ((900000:Int)<a)=false by simpa using ha] at h1
   simpa using h1
  rw [hel];clear hel;go_wp2_with fail;refine bodyPost_ret (v:=.tuple #[.slice none 0 0,.bool false]) (by simp [results,Tryz.results14]) rfl ?_;exact ⟨rfl,G3.out⟩
set_option maxHeartbeats 4000000 in
set_option maxRecDepth 100000 in
theorem QT (k:KM) (c:AM) (s a:Int) (I R:Option Addr) (ni ci nr cr:Nat) (ins es:List Int) (kv cv:Value) (w0:World) (h:AggR w0 (ckeys k) kv) (hc:AggR w0 (carith c) cv) (hi:(cints ins).rd w0 (.slice I ni ci)) (he:Ints w0 R nr es) (wk:kwf k) (wc:amwf c) (hn:ins.length≤1048576) (hnr:nr≤1048576) (hb:runOkB k c ins es s a=false) :
  Calls Tryz.prog 9 #[kv,cv,.slice I ni ci,.agg #[.int .i64 s,.int .i64 a],.slice R nr cr] w0 fun e w'=>∃V,e=.returned (.tuple #[V,.bool false])∧w'.ownsRow w0.heap.size 3 1 V 0 []∧w0.grownBy w' none:=by
 obtain ⟨KA,kc,rfl,_,_,_⟩:=ZG h;obtain ⟨u1,u2,rfl,c1,c2⟩:=Zt hc;obtain ⟨A1,n1,rfl,_,_,_⟩:=ZP (s:=3) (fun _=>rfl) (by omega) c1;obtain ⟨A2,n2,rfl,_,_,_⟩:=Zx c2;obtain ⟨w2,hw1⟩:∃y:World,((w0.alloc (.cells #[.int .i64 k.p,.slice KA k.al.length kc] 34)).alloc (.cells #[.int .i64 c.p,.slice A1 c.st.length n1,.slice A2 c.outs.length n2] 38)).alloc (.cells #[.int .i64 s,.int .i64 a] 41)=y:=⟨_,rfl⟩;have G2:Hid (w0.grownBy w2 none):=by rw [← hw1];exact gbA (gbA (gbA (gbR _ _) _) _) _
 have B0:Hid (Blk w2 w0.heap.size 34 #[.int .i64 k.p,.slice KA k.al.length kc]):=by rw [← hw1];exact ((Blk.new w0 _ _).grow (gbA (gbR _ _) _)).grow (gbA (gbR _ _) _)
 have B1:Hid (Blk w2 (w0.heap.size+1) 38 #[.int .i64 c.p,.slice A1 c.st.length n1,.slice A2 c.outs.length n2]):=by rw [← hw1];exact (Blk.new' _ _ _ _ (by simp)).grow (gbA (gbR _ _) _)
 have B2:Hid (Blk w2 (w0.heap.size+1+1) 41 #[.int .i64 s,.int .i64 a]):=by rw [← hw1];exact Blk.new' _ _ _ _ (by simp)
 have K2:=zH (AggR.grow h G2.out);have C2:=zH (AggR.grow hc G2.out);have I2:=zH (CS.grow _ hi G2.out);have E2:=zH (he.grow G2.out);have WK:=zH wk;have WC:=zH wc;have hkp1:=wk.1.1;have hkp2:=wk.1.2;have HB:=zH hb;have hs1:forkS s a 1<4294967296:=forkS_lt (by omega);clear h hc hi he wk wc c1 c2 hb
 go_enter Tryz.func9,Tryz.ntmps9
 go_wp2_with fail
 try rw [hw1]
 clear hw1;refine specrun1_c k c (newR k c ins (forkS s a 1) 0) (newB k c ins (forkS s a 1) 0) KA A1 A2 I kc n1 n2 ni ci w0.heap.size (w0.heap.size+1) (w0.heap.size+1+1) s a (forkS s a 1) w2 B0.out B1.out B2.out (fun w4 _=>QQ s a 1 w4 (by omega)) (fun w4 hg=>specNew9 k c ins I ni ci (forkS s a 1) _ _ w2 K2.out C2.out I2.out WK.out WC.out hn w4 hg) _ _ _ _ _ _ _ _ _ _ _ _ _ _ _ _ _ _ _ _ _ _ _ _ _ _ _ _ _ _ _ _ _ _ _ _ _ _ _ _ _ _ _ _ _ _ _ _ _ _ _ _ _ _ _ _ _ _ _ _ _ _ _ _ _ _ _ _ _ _ _ _ _ _ _ _ _ _ _ _ _ _ _ _ _ _ _ _ _ _ _ _ _ _ _ ?_;intro v21 v22 v23 v24 v25 v26 v27 v28 v29 w3 g12 hg12 hs12 g3;have G3:=zH (gbT G2.out g3);have y0:=(B2.out.grow g3).cell 0;have y1:=(B2.out.grow g3).cell 1;simp at y0 y1;have B03:=zH (B0.out.grow g3);have E3:=zH (E2.out.grow g3);clear hs12 g3 B0 B1 B2 K2 C2 I2 E2;rw [newB_seed k c ins _ hs1]
 cases hnb:newB k c ins 0 0
 ·clear hnb
  go_wp2_with fail;clear y0 y1;refine bodyPost_ret (v:=.tuple #[.slice (some ⟨w3.heap.size,0,none⟩) 0 0,.bool false]) (by simp [results,Tryz.results9]) rfl ?_;exact ⟨_,rfl,World.ownsRow_made w3 #[] 0 (by have:=G3.out.size;omega) (by simp) rfl,gbA G3.out _⟩
 have HNB:=zH hnb;clear hnb;go_wp2_with fail;clear y0 y1;refine (XQ s a w3).mono ?_;rintro e w4 ⟨rfl,g4⟩;have G4:=zH (gbT G3.out g4);have E4:=zH (E3.out.grow g4);have k0:=(B03.out.grow g4).cell 0;simp at k0;clear g4 B03 E3
 cases htb:(tapeB s a&&!decide (900000<a))
 ·clear htb
  go_wp2_with fail;clear k0;refine bodyPost_ret (v:=.tuple #[.slice (some ⟨w4.heap.size,0,none⟩) 0 0,.bool false]) (by simp [results,Tryz.results9]) rfl ?_;exact ⟨_,rfl,World.ownsRow_made w4 #[] 0 (by have:=G4.out.size;omega) (by simp) rfl,gbA G4.out _⟩
 have HTB:=zH htb;clear htb;go_wp2_with fail;clear k0;refine (ZQ k.p R nr cr es w4 (by omega) E4.out (by omega)).mono ?_;rintro e w5 ⟨rfl,rfl⟩
 have hel:elemsB k.p es=false:=by
  have h1:=HB.out;unfold runOkB at h1;rw [HTB.out,HNB.out] at h1
  simpa using h1
 rw [hel];clear hel;go_wp2_with fail;refine bodyPost_ret (v:=.tuple #[.slice (some ⟨w4.heap.size,0,none⟩) 0 0,.bool false]) (by simp [results,Tryz.results9]) rfl ?_;exact ⟨_,rfl,World.ownsRow_made w4 #[] 0 (by have:=G4.out.size;omega) (by simp) rfl,gbA G4.out _⟩
attribute [local simp] depsC dstAt kAt bindE List.filter_cons Zz Zq Zr Zs ZA ZW puts dsts Act.put
set_option maxHeartbeats 1000000 in
theorem XE (k:KM) (a:AuM) (kv av:Value) (w0:World) (h:AggR w0 (ckeys k) kv) (ha:AggR w0 (cauth a) av) (he:elemsB k.p a.sh=true) (wa:awf a) :
  Calls Tryz.prog 153 #[kv,av] w0 fun e w'=>e=.returned (.int .i64 (fsum k.p a.sh))∧w0.grownBy w' none:=by
 obtain ⟨A,c,rfl,hc,hm,hI⟩:=ZG h;obtain ⟨Ba,da,Ca,fa,rfl,_,_,_,_,hSa,hMa⟩:=ZO ha;obtain ⟨w1,hw1⟩:∃x:World,((w0.alloc (.cells #[.int .i64 k.p,.slice A k.al.length c] 34)).alloc (.cells #[.slice Ba a.sh.length da,.slice Ca a.mc.length fa] 80))=x:=⟨_,rfl⟩;have G1:Hid (w0.grownBy w1 none):=by rw [← hw1];exact gbA (gbA (gbR _ _) _) _
 have D0:Hid (Blk w1 w0.heap.size 34 #[.int .i64 k.p,.slice A k.al.length c]):=by rw [← hw1];exact (Blk.new w0 _ _).grow (gbA (gbR _ _) _)
 have D1:Hid (Blk w1 (w0.heap.size+1) 80 #[.slice Ba a.sh.length da,.slice Ca a.mc.length fa]):=by rw [← hw1];exact Blk.new' _ _ _ _ (by simp)
 have IS:=zH (hSa.grow G1.out);have WA:=zH wa;have HE:=zH he;clear h ha hI hSa hMa wa he
 go_enter Tryz.func153,Tryz.ntmps153
 have k0:=D0.out.cell 0;have k1:=D0.out.cell 1;have a0:=D1.out.cell 0;have a1:=D1.out.cell 1;simp at k0 k1 a0 a1;go_wp2_with fail;clear hw1;refine (XV k.p Ba _ da a.sh _ HE.out IS.out (by have:=WA.out.1;omega)).mono ?_;rintro e w2 ⟨rfl,rfl⟩;go_wp2_with fail;exact bodyPost_ret (v:=.int .i64 (fsum k.p a.sh)) (by simp [results,Tryz.results153]) rfl ⟨rfl,G1.out⟩
theorem Ua (A:Option Addr) (n c:Nat) (es:List Int) (i:Nat) (w:World) (h:Ints w A n es) (hi:i≤1048576) :
  Calls Tryz.prog 103 #[.slice A n c,.int .i64 i] w fun e w'=>e=.returned (.int .i64 (errAt es i))∧w=w':=by
 have HL:=zH h.len
 by_cases hlt:i<n
 ·obtain ⟨b,o,rfl,hb,hc⟩:=h.at_ (by omega)
  have c0:=hc i hlt;have HE:Hid (errAt es i=es.getD i 0):=rfl;have i1:(i:Int)<(n:Int):=by omega
  clear hc h
  go_enter Tryz.func103,Tryz.ntmps103
  go_wp2_with fail;go_ret;exact ⟨retI HE.out.symm,rfl⟩
 ·have HE:Hid (errAt es i=0):=by
   unfold Hid errAt;rw [zF,List.getElem?_eq_none (by rw [HL.out];omega)];rfl
  have i1:¬(i:Int)<(n:Int):=by omega
  clear h
  go_enter Tryz.func103,Tryz.ntmps103
  go_wp2_with fail;go_ret;exact ⟨retI HE.out.symm,rfl⟩
set_option maxHeartbeats 4000000 in
set_option maxRecDepth 100000 in
theorem QU (k:KM) (x y:AuM) (t:TrM) (kv xv yv tv:Value) (w0:World) (h:AggR w0 (ckeys k) kv) (hx:AggR w0 (cauth x) xv) (hy:AggR w0 (cauth y) yv) (ht:AggR w0 (YA t) tv) (wk:kwf k) (wx:awf x) (wy:awf y) (wt:twf t) (hok:openB k x y t=true) :
  Calls Tryz.prog 101 #[kv,xv,yv,tv] w0 fun r w'=>r=.returned (.tuple #[.agg #[.int .i64 (openD k x y t),.int .i64 (openE k x y t)],.bool true])∧w0.grownBy w' none:=by
 obtain ⟨A,c,rfl,hc,hm,hI⟩:=ZG h;obtain ⟨X1,x1,X2,x2,rfl,_,_,_,_,_,_⟩:=ZO hx;obtain ⟨Y1,y1,Y2,y2,rfl,_,_,_,_,_,_⟩:=ZO hy;obtain ⟨A1,a1,A2,a2,B1,b1,B2,b2,C1,c1,C2,c2,rfl,ha,hb,hcc⟩:=XX ht;obtain ⟨w1,hw1⟩:∃z:World,(((((w0.alloc (.cells #[.int .i64 k.p,.slice A k.al.length c] 34)).alloc (.cells #[.slice X1 x.sh.length x1,.slice X2 x.mc.length x2] 80)).alloc (.cells #[.slice Y1 y.sh.length y1,.slice Y2 y.mc.length y2] 80)).alloc (.cells #[.slice A1 t.a.sh.length a1,.slice A2 t.a.mc.length a2,.slice B1 t.b.sh.length b1,.slice B2 t.b.mc.length b2,.slice C1 t.c.sh.length c1,.slice C2 t.c.mc.length c2] 82)).alloc (.cells #[.int .i64 0,.int .i64 0] 104))=z:=⟨_,rfl⟩;have G1:Hid (w0.grownBy w1 none):=by rw [← hw1];exact gbA (gbA (gbA (gbA (gbA (gbR _ _) _) _) _) _) _
 have z1:Hid (w1.heap.size=w0.heap.size+5):=by rw [← hw1];exact zH (by simp)
 have D0:Hid (Blk w1 (w0.heap.size) 34 #[.int .i64 k.p,.slice A k.al.length c]):=by rw [← hw1];exact ((((Blk.new w0 _ _).grow (gbA (gbR _ _) _)).grow (gbA (gbR _ _) _)).grow (gbA (gbR _ _) _)).grow (gbA (gbR _ _) _)
 have D1:Hid (Blk w1 (w0.heap.size+1) 80 #[.slice X1 x.sh.length x1,.slice X2 x.mc.length x2]):=by rw [← hw1];exact (((Blk.new' _ _ _ _ (by simp)).grow (gbA (gbR _ _) _)).grow (gbA (gbR _ _) _)).grow (gbA (gbR _ _) _)
 have D2:Hid (Blk w1 (w0.heap.size+1+1) 80 #[.slice Y1 y.sh.length y1,.slice Y2 y.mc.length y2]):=by rw [← hw1];exact ((Blk.new' _ _ _ _ (by simp)).grow (gbA (gbR _ _) _)).grow (gbA (gbR _ _) _)
 have D3:Hid (Blk w1 (w0.heap.size+1+1+1) 82 #[.slice A1 t.a.sh.length a1,.slice A2 t.a.mc.length a2,.slice B1 t.b.sh.length b1,.slice B2 t.b.mc.length b2,.slice C1 t.c.sh.length c1,.slice C2 t.c.mc.length c2]):=by rw [← hw1];exact (Blk.new' _ _ _ _ (by simp)).grow (gbA (gbR _ _) _)
 have D4:Hid (Blk w1 (w0.heap.size+1+1+1+1) 104 #[.int .i64 0,.int .i64 0]):=by rw [← hw1];exact Blk.new' _ _ _ _ (by simp)
 have HK:=zH (AggR.grow h G1.out);have HX:=zH (AggR.grow hx G1.out);have HY:=zH (AggR.grow hy G1.out);have HA:=zH (AggR.grow ha G1.out);have HB:=zH (AggR.grow hb G1.out);have IK:=zH h;have IX:=zH hx;have IY:=zH hy;have IA:=zH ha;have IB:=zH hb;have WK:=zH wk;have WX:=zH wx;have WY:=zH wy;have WA:=zH wt.1;have WB:=zH wt.2.1;clear h hx hy ht ha hb hcc hI wk wx wy wt;have HFB:Hid (openB k x y t=(formB k x&&formB k y&&formB k t.a&&formB k t.b)):=rfl;have HFD:Hid (openD k x y t=if openB k x y t then (fsum k.p x.sh - fsum k.p t.a.sh) % k.p else 0):=rfl;have HFE:Hid (openE k x y t=if openB k x y t then (fsum k.p y.sh - fsum k.p t.b.sh) % k.p else 0):=rfl
 go_enter Tryz.func101,Tryz.ntmps101
 have k0:=D0.out.cell 0;have k1:=D0.out.cell 1;have x0:=D1.out.cell 0;have x1':=D1.out.cell 1;have y0:=D2.out.cell 0;have y1':=D2.out.cell 1;have t0:=D3.out.cell 0;have t1:=D3.out.cell 1;have t2:=D3.out.cell 2;have t3:=D3.out.cell 3;simp at k0 k1 x0 x1' y0 y1' t0 t1 t2 t3;go_wp2_with fail;clear k0 k1 x0 x1' y0 y1' t0 t1 t2 t3 hw1;have HQ:=zH hok;have hq:=hok;unfold openB at hq;obtain ⟨hq,qb⟩:=Bool.and_eq_true_iff.1 hq;obtain ⟨hq,qa⟩:=Bool.and_eq_true_iff.1 hq;obtain ⟨qx,qy⟩:=Bool.and_eq_true_iff.1 hq;have Q0:=zH qx;have Q1:=zH qy;have Q2:=zH qa;have Q3:=zH qb;clear hq qx qy qa qb hok HFB;refine (ZY k x _ _ _ (AggR.grow HK.out (gbR w1 none)) (AggR.grow HX.out (gbR w1 none)) WK.out WX.out).mono ?_;rintro r v0 ⟨rfl,g2⟩;rw [Q0.out];have gz0:=zH (g2);clear g2;have k0:=(D0.out.grow gz0.out).cell 0;have k1:=(D0.out.grow gz0.out).cell 1;have x0:=(D1.out.grow gz0.out).cell 0;have x1':=(D1.out.grow gz0.out).cell 1;have y0:=(D2.out.grow gz0.out).cell 0;have y1':=(D2.out.grow gz0.out).cell 1;have t0:=(D3.out.grow gz0.out).cell 0;have t1:=(D3.out.grow gz0.out).cell 1;have t2:=(D3.out.grow gz0.out).cell 2;have t3:=(D3.out.grow gz0.out).cell 3;simp at k0 k1 x0 x1' y0 y1' t0 t1 t2 t3;go_wp2_with fail;clear k0 k1 x0 x1' y0 y1' t0 t1 t2 t3;refine (ZY k y _ _ _ (AggR.grow HK.out gz0.out) (AggR.grow HY.out gz0.out) WK.out WY.out).mono ?_;rintro r v1 ⟨rfl,g2⟩;rw [Q1.out];have gz1:=zH (gbT gz0.out g2);clear g2;have k0:=(D0.out.grow gz1.out).cell 0;have k1:=(D0.out.grow gz1.out).cell 1;have x0:=(D1.out.grow gz1.out).cell 0;have x1':=(D1.out.grow gz1.out).cell 1;have y0:=(D2.out.grow gz1.out).cell 0;have y1':=(D2.out.grow gz1.out).cell 1;have t0:=(D3.out.grow gz1.out).cell 0;have t1:=(D3.out.grow gz1.out).cell 1;have t2:=(D3.out.grow gz1.out).cell 2;have t3:=(D3.out.grow gz1.out).cell 3;simp at k0 k1 x0 x1' y0 y1' t0 t1 t2 t3;go_wp2_with fail;clear k0 k1 x0 x1' y0 y1' t0 t1 t2 t3;refine (ZY k t.a _ _ _ (AggR.grow HK.out gz1.out) (AggR.grow HA.out gz1.out) WK.out WA.out).mono ?_;rintro r v2 ⟨rfl,g2⟩;rw [Q2.out];have gz2:=zH (gbT gz1.out g2);clear g2;have k0:=(D0.out.grow gz2.out).cell 0;have k1:=(D0.out.grow gz2.out).cell 1;have x0:=(D1.out.grow gz2.out).cell 0;have x1':=(D1.out.grow gz2.out).cell 1;have y0:=(D2.out.grow gz2.out).cell 0;have y1':=(D2.out.grow gz2.out).cell 1;have t0:=(D3.out.grow gz2.out).cell 0;have t1:=(D3.out.grow gz2.out).cell 1;have t2:=(D3.out.grow gz2.out).cell 2;have t3:=(D3.out.grow gz2.out).cell 3;simp at k0 k1 x0 x1' y0 y1' t0 t1 t2 t3;go_wp2_with fail;clear k0 k1 x0 x1' y0 y1' t0 t1 t2 t3;refine (ZY k t.b _ _ _ (AggR.grow HK.out gz2.out) (AggR.grow HB.out gz2.out) WK.out WB.out).mono ?_;rintro r v3 ⟨rfl,g2⟩;rw [Q3.out];have gz3:=zH (gbT gz2.out g2);clear g2;have gz:=gz3.out;clear gz0 gz1 gz2 gz3;have qk:=(Yb Q0.out).1;have ex:=(Yb Q0.out).2.2.2.1
 have ey:=(Yb Q1.out).2.2.2.1;have ea:=(Yb Q2.out).2.2.2.1;have eb:=(Yb Q3.out).2.2.2.1;have hok:=HQ.out;rw [hok,if_pos rfl] at HFD HFE;have kf:=(Yc qk).1;have EX:=zH ex;have EY:=zH ey;have EA:=zH ea;have EB:=zH eb;clear qk ex ey ea eb;obtain ⟨FX,hFX⟩:∃z,fsum k.p x.sh=z:=⟨_,rfl⟩;obtain ⟨FA,hFA⟩:∃z,fsum k.p t.a.sh=z:=⟨_,rfl⟩;obtain ⟨FY,hFY⟩:∃z,fsum k.p y.sh=z:=⟨_,rfl⟩;obtain ⟨FB,hFB⟩:∃z,fsum k.p t.b.sh=z:=⟨_,rfl⟩;have LFX:Hid (elemB k.p FX=true):=by rw [← hFX];exact zH (Yl kf _)
 have LFA:Hid (elemB k.p FA=true):=by rw [← hFA];exact zH (Yl kf _)
 have LFY:Hid (elemB k.p FY=true):=by rw [← hFY];exact zH (Yl kf _)
 have LFB:Hid (elemB k.p FB=true):=by rw [← hFB];exact zH (Yl kf _)
 rw [hFX,hFA] at HFD;rw [hFY,hFB] at HFE;obtain ⟨DD,hDD⟩:∃z,(FX - FA) % k.p=z:=⟨_,rfl⟩;obtain ⟨EE,hEE⟩:∃z,(FY - FB) % k.p=z:=⟨_,rfl⟩;rw [hDD] at HFD;rw [hEE] at HFE;have HFX:=zH hFX;have HFA:=zH hFA;have HFY:=zH hFY;have HFB:=zH hFB;have HDD:=zH hDD;have HEE:=zH hEE;have HOK:=zH hok;have E0:=zH (D0.out.grow gz);have E1:=zH (D1.out.grow gz);have E2:=zH (D2.out.grow gz);have E3:=zH (D3.out.grow gz);have E4:=zH (D4.out.grow gz);have GW:=zH (gbT G1.out gz);clear D0 D1 D2 D3 D4 HK HX HY HA HB G1 z1 gz hFX hFA hFY hFB hDD hEE hok;go_wp2_with fail;obtain ⟨gR,hgR⟩:∃g,w0.heap.size+1+1+1+1=g:=⟨_,rfl⟩;have hwR:w0.heap.size≤gR:=by omega
 rw [hgR] at E4 ⊢
 refine Zg [.rd (.pointer (some ⟨w0.heap.size,0,none⟩)),.rd (.int .i64 k.p),.rd (.agg #[.int .i64 k.p,.slice A k.al.length c]),.rd (.agg #[.slice X1 x.sh.length x1,.slice X2 x.mc.length x2]),.fl (isV (.int .i64 FX)),.rd (.agg #[.int .i64 k.p,.slice A k.al.length c]),.rd (.pointer (some ⟨w0.heap.size+1+1+1,0,none⟩)),.rd (.agg #[.slice A1 t.a.sh.length a1,.slice A2 t.a.mc.length a2]),.fl (isV (.int .i64 FA)),.fl (isV (.int .i64 DD)),.rd (.pointer (some ⟨w0.heap.size,0,none⟩)),.rd (.int .i64 k.p),.rd (.agg #[.int .i64 k.p,.slice A k.al.length c]),.rd (.agg #[.slice Y1 y.sh.length y1,.slice Y2 y.mc.length y2]),.fl (isV (.int .i64 FY)),.rd (.agg #[.int .i64 k.p,.slice A k.al.length c]),.rd (.pointer (some ⟨w0.heap.size+1+1+1,2,none⟩)),.rd (.agg #[.slice B1 t.b.sh.length b1,.slice B2 t.b.mc.length b2]),.fl (isV (.int .i64 FB)),.fl (isV (.int .i64 EE)),.rd (.agg #[.int .i64 DD,.int .i64 EE]),.ch,.ch] (fun z=>z=gR)
  [⟨[],fun _ w'=>v3.drew.grownBy w' none⟩,
   ⟨[],fun _ w'=>Blk w' gR 104 #[.int .i64 DD,.int .i64 EE]∧Chg (fun z=>z=gR) v3.drew w'⟩,
   ⟨[9],fun l w'=>l.getD 0 undef=.bool true∧Blk w' gR 104 #[.int .i64 DD,.int .i64 EE]∧Chg (fun z=>z=gR) v3.drew w'⟩]
  (by kernel_rfl) (by kernel_rfl) (by kernel_rfl) 2 (by kernel_rfl) ?_ (gbR _ _) rfl ?_ ?_
 ·have hst:Zw [⟨[],fun _ w'=>v3.drew.grownBy w' none⟩,
   ⟨[],fun _ w'=>Blk w' gR 104 #[.int .i64 DD,.int .i64 EE]∧Chg (fun z=>z=gR) v3.drew w'⟩,
   ⟨[9],fun l w'=>l.getD 0 undef=.bool true∧Blk w' gR 104 #[.int .i64 DD,.int .i64 EE]∧Chg (fun z=>z=gR) v3.drew w'⟩]:=by
   intro F hF;simp only [List.mem_cons,List.not_mem_nil,or_false] at hF
   rcases hF with rfl | rfl | rfl
   ·exact fun l w1 w2 h hg=>gbT h hg
   ·rintro l w1 w2 ⟨h1,h3⟩ hg
    exact ⟨h1.grow hg,h3.trans (Chg.of hg (by simp))⟩
   ·rintro l w1 w2 ⟨h0,h1,h3⟩ hg
    exact ⟨h0,h1.grow hg,h3.trans (Chg.of hg (by simp))⟩
  simp only [flOk,true_and,and_true];exact ⟨⟨Zb _,hst⟩,⟨Zb _,hst⟩,⟨Zb _,hst⟩,⟨Zb _,hst⟩,⟨Zb _,hst⟩,Zb _,hst⟩
 ·simp only [hopsK,hopK,Kd.next,and_true]
  refine ⟨?_, ?_, ?_, ?_, ?_, ?_, ?_, ?_, ?_, ?_, ?_, ?_, ?_, ?_, ?_, ?_, ?_, ?_, ?_, ?_, ?_, ?_, ?_⟩;rotate_left 4
  ·intro f w4 hG hd
   have kg:=zH (Zu (gbT GW.out (gbD (gbR v3 none))) hG hwR)
   (try simp at hd)
   (first | simp [hd] | simp)
   clear hd;go_wp2_with fail;refine (XE k x _ _ w4 (AggR.grow IK.out kg.out) (AggR.grow IX.out kg.out) EX.out WX.out).mono ?_;rintro e w6 ⟨rfl,g6⟩;rw [HFX.out];have G6:=zH g6;clear g6 kg;go_wp2_with fail;exact ⟨_,rfl,rfl,G6.out⟩
  rotate_left 3
  ·intro f w4 hG hd
   have kg:=zH (Zu (gbT GW.out (gbD (gbR v3 none))) hG hwR)
   (try simp at hd)
   (first | simp [hd] | simp)
   clear hd;go_wp2_with fail;refine (XE k t.a _ _ w4 (AggR.grow IK.out kg.out) (AggR.grow IA.out kg.out) EA.out WA.out).mono ?_;rintro e w6 ⟨rfl,g6⟩;rw [HFA.out];have G6:=zH g6;clear g6 kg;go_wp2_with fail;exact ⟨_,rfl,rfl,G6.out⟩
  ·intro f w4 hG hd
   (try simp at hd)
   simp only [isV] at hd
   (first | simp [hd] | simp)
   clear hd;go_wp2_with fail;refine (WD k.p FX FA w4 LFX.out LFA.out).mono ?_;rintro e w6 ⟨rfl,g6⟩;rw [HDD.out];have G6:=zH g6;clear g6;go_wp2_with fail;exact ⟨_,rfl,rfl,G6.out⟩
  rotate_left 4
  ·intro f w4 hG hd
   have kg:=zH (Zu (gbT GW.out (gbD (gbR v3 none))) hG hwR)
   (try simp at hd)
   (first | simp [hd] | simp)
   clear hd;go_wp2_with fail;refine (XE k y _ _ w4 (AggR.grow IK.out kg.out) (AggR.grow IY.out kg.out) EY.out WY.out).mono ?_;rintro e w6 ⟨rfl,g6⟩;rw [HFY.out];have G6:=zH g6;clear g6 kg;go_wp2_with fail;exact ⟨_,rfl,rfl,G6.out⟩
  rotate_left 3
  ·intro f w4 hG hd
   have kg:=zH (Zu (gbT GW.out (gbD (gbR v3 none))) hG hwR)
   (try simp at hd)
   (first | simp [hd] | simp)
   clear hd;go_wp2_with fail;refine (XE k t.b _ _ w4 (AggR.grow IK.out kg.out) (AggR.grow IB.out kg.out) EB.out WB.out).mono ?_;rintro e w6 ⟨rfl,g6⟩;rw [HFB.out];have G6:=zH g6;clear g6 kg;go_wp2_with fail;exact ⟨_,rfl,rfl,G6.out⟩
  ·intro f w4 hG hd
   (try simp at hd)
   simp only [isV] at hd
   (first | simp [hd] | simp)
   clear hd;go_wp2_with fail;refine (WD k.p FY FB w4 LFY.out LFB.out).mono ?_;rintro e w6 ⟨rfl,g6⟩;rw [HEE.out];have G6:=zH g6;clear g6;go_wp2_with fail;exact ⟨_,rfl,rfl,G6.out⟩
  rotate_left 1
  ·intro f w4 hG hI hd
   have hI:v3.drew.grownBy w4 none:=hI
   (try simp at hd)
   have R4:=E4.out.grow (gbT (gbD (gbR v3 none)) hI);have f0:=R4.frozen 0;have f1:=R4.frozen 1;have b0:=R4.cell 0;have b1:=R4.cell 1;simp at b0 b1;have RS:=zH (Zd R4 [.int .i64 DD,.int .i64 EE] rfl);have CW:=zH (Za gR [.int .i64 DD,.int .i64 EE] 0 w4);have CS:=zH ((Chg.of (S:=fun y=>y=gR) hI (by simp)).trans CW.out);clear R4 hI;simp [puts,dsts,Act.put,hd];clear hd;go_wp2_with fail;exact ⟨rfl,⟨.bool false,RS.out,CS.out⟩,CW.out,by simp [keepsC,dstAt,isV]⟩
  ·intro f w4 hG hI hd
   obtain ⟨R4,C4⟩:=hI;clear hd;simp [puts,dsts,Act.put];go_wp2_with fail;exact ⟨.bool true,rfl,rfl,R4,C4⟩
  all_goals
   intro f w4 hG hd;have kg:=gbD (gbR v3 none);have k0:=((E0.out.grow kg).chg hG (by omega)).cell 0;have k1:=((E0.out.grow kg).chg hG (by omega)).cell 1;have x0:=((E1.out.grow kg).chg hG (by omega)).cell 0;have x1':=((E1.out.grow kg).chg hG (by omega)).cell 1;have y0:=((E2.out.grow kg).chg hG (by omega)).cell 0;have y1':=((E2.out.grow kg).chg hG (by omega)).cell 1;have t0:=((E3.out.grow kg).chg hG (by omega)).cell 0;have t1:=((E3.out.grow kg).chg hG (by omega)).cell 1;have t2:=((E3.out.grow kg).chg hG (by omega)).cell 2;have t3:=((E3.out.grow kg).chg hG (by omega)).cell 3;simp at k0 k1 x0 x1' y0 y1' t0 t1 t2 t3;clear kg
   (try simp at hd)
   try simp only [isV] at hd
   (first | simp [hd] | simp)
   clear hd;go_wp2_with fail;exact ⟨rfl,rfl⟩
 intro f w9 hI hd;obtain ⟨e9,hBR,hCZ⟩:=hI;have hCZ:=chgDr hCZ;have GZ:=zH (Zu GW.out hCZ hwR);have e9:f 9=.bool true:=e9;simp only [puts,dsts,Act.put,zB,zC,zA,zD,zE,e9];clear hd e9;go_wp2_with fail;refine Xq Tryz.results101 (by rfl) KS (cs:=#[.int .i64 DD,.int .i64 EE]) hBR (by rfl) (by rfl) ?_;exact ⟨by rw [HFD.out,HFE.out];rfl,GZ.out⟩
end Go.Proofs.YthaadgdeadbhkaaGreat
