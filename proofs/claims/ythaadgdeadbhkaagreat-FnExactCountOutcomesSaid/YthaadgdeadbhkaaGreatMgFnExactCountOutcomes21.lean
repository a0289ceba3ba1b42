/-
 An engine's nine cells: what they read as,whose they are.
-/
import Derived.Test.YthaadgdeadbhkaaGreatMgFnExactCountOutcomes20
open Go.RowKit
set_option linter.unusedVariables false
set_option linter.unusedSimpArgs false
namespace Go.Proofs.YthaadgdeadbhkaaGreat
abbrev Zf (m:EM):List CS:=[ci m.k.p,cints m.k.al,ci m.c.p,csteps m.c.st,cints m.c.outs,cauths m.vs,cints m.op,ci m.rd,cb m.bad]
theorem Yu:St Tryz.prog 58 9:=⟨⟨_,Tryz.underlying58,rfl⟩,by kernel_rfl⟩
theorem elAuth:El Tryz.prog 56 80 (.agg #[.slice none 0 0,.slice none 0 0]) 2 48:=⟨Tryz.underlying56,by kernel_rfl,rfl,by decide⟩
structure ewf (m:EM):Prop where
 k:kwf m.k
 c:amwf m.c
 vs:∀a∈m.vs,awf a
 n:m.vs.length≤1048576
 op:m.op.length≤1048576
 rd:i64w m.rd
structure EngR (m:EM) (w:World) (A B C D E:Option Addr) (a b c d e:Nat):Prop where
 ky:AggR w (ckeys m.k) (.agg #[.int .i64 m.k.p,.slice A m.k.al.length a])
 ar:AggR w (carith m.c) (.agg #[.int .i64 m.c.p,.slice B m.c.st.length b,.slice C m.c.outs.length c])
 stp:FL c3 3 w B m.c.st.length m.c.st
 ou:Ints w C m.c.outs.length m.c.outs
 va:(cauths m.vs).rd w (.slice D m.vs.length d)
 opn:(cints m.op).rd w (.slice E m.op.length e)
 al9:AggR w (Zf m) (.agg #[.int .i64 m.k.p,.slice A m.k.al.length a,.int .i64 m.c.p,.slice B m.c.st.length b,.slice C m.c.outs.length c,.slice D m.vs.length d,.slice E m.op.length e,.int .i64 m.rd,.bool m.bad])
theorem EngR.grow {m:EM} {w w':World} {A B C D E:Option Addr} {a b c d e:Nat} (h:EngR m w A B C D E a b c d e) (g:w.grownBy w' none):EngR m w' A B C D E a b c d e :=
 ⟨h.ky.grow g,h.ar.grow g,FL.grow h.stp g,h.ou.grow g,CS.grow _ h.va g,CS.grow _ h.opn g,h.al9.grow g⟩
theorem KV {w:World} {xs:List AuM} {v:Value} (h:(cauths xs).rd w v):∃A c,v=.slice A xs.length c:=by
 obtain ⟨A,c,_,e,_⟩:=lst_rd (s:=2) (fun _=>rfl) (by omega) h;exact ⟨A,c,e⟩
theorem Yk {w:World} {m:EM} {v:Value} (h:AggR w (Zf m) v):∃A B C D E a b c d e,v=.agg #[.int .i64 m.k.p,.slice A m.k.al.length a,.int .i64 m.c.p,.slice B m.c.st.length b,.slice C m.c.outs.length c,.slice D m.vs.length d,.slice E m.op.length e,.int .i64 m.rd,.bool m.bad]∧EngR m w A B C D E a b c d e:=by
 have hall:=h;obtain ⟨vs,rfl,h⟩:=h;obtain ⟨u0,vs0,rfl,h0,h⟩:=RdAll.head h;obtain ⟨u1,vs1,rfl,h1,h⟩:=RdAll.head h;obtain ⟨u2,vs2,rfl,h2,h⟩:=RdAll.head h;obtain ⟨u3,vs3,rfl,h3,h⟩:=RdAll.head h;obtain ⟨u4,vs4,rfl,h4,h⟩:=RdAll.head h;obtain ⟨u5,vs5,rfl,h5,h⟩:=RdAll.head h;obtain ⟨u6,vs6,rfl,h6,h⟩:=RdAll.head h;obtain ⟨u7,vs7,rfl,h7,h⟩:=RdAll.head h;obtain ⟨u8,vs8,rfl,h8,h⟩:=RdAll.head h;obtain rfl:=RdAll.none h;obtain rfl:=ci_rd h0;obtain rfl:=ci_rd h2;obtain rfl:=ci_rd h7;obtain rfl:=cb_rd h8;obtain ⟨A,a,rfl,_,_,_⟩:=Zx h1;obtain ⟨B,b,rfl,_,_,f3⟩:=ZP (s:=3) (fun _=>rfl) (by omega) h3;obtain ⟨C,c,rfl,_,_,f4⟩:=Zx h4;obtain ⟨D,d,rfl⟩:=KV h5;obtain ⟨E,e,rfl,_,_,_⟩:=Zx h6;exact ⟨A,B,C,D,E,a,b,c,d,e,rfl,QY h1,carith_mk h3 h4,f3,f4,h5,h6,hall⟩
theorem Yr (m:EM):∀c∈Zf m,tyd [3,102,80] c:=by
 intro c hc;simp only [List.mem_cons,List.not_mem_nil,or_false] at hc
 rcases hc with rfl | rfl | rfl | rfl | rfl | rfl | rfl | rfl | rfl
 ·exact KP
 ·exact Xd (by simp)
 ·exact KP
 ·exact Xd (by simp)
 ·exact Xd (by simp)
 ·exact tyd_cauths (by simp) (by simp)
 ·exact Xd (by simp)
 ·exact KP
 ·exact KP
theorem Qk (w:World):(cauths []).own w [] (.slice none 0 0):=⟨0,[],[],rfl,World.ownsRow_nil w 0 _ 2,OwnAll.nil w,rfl,by simp⟩
theorem SOF.eng {m:EM} {g:Nat} {F:List Nat} {w:World} (h:SOF 58 (Zf m) g F w):∃A B C D E a b c d e,Blk w g 58 #[.int .i64 m.k.p,.slice A m.k.al.length a,.int .i64 m.c.p,.slice B m.c.st.length b,.slice C m.c.outs.length c,.slice D m.vs.length d,.slice E m.op.length e,.int .i64 m.rd,.bool m.bad]∧EngR m w A B C D E a b c d e:=by
 obtain ⟨vs,h1,h2⟩:=h.agg;obtain ⟨A,B,C,D,E,a,b,c,d,e,hv,hR⟩:=Yk h2.rd;injection hv with hv;rw [hv] at h1;exact ⟨A,B,C,D,E,a,b,c,d,e,h1,hR⟩
theorem SOF.is {T:TypeId} {cs:List CS} {g:Nat} {F:List Nat} {w:World} {us:List Value} (h:SOF T cs g F w) (B:Blk w g T us.toArray):AggO w cs F (.agg us.toArray):=by
 obtain ⟨vs,h1,h2⟩:=h.agg;unfold Blk at h1 B;rw [h1] at B;injection B with B;injection B with B;rw [← B];exact h2
theorem Wm {xs:List AuM} {w:World} {F:List Nat} {v:Value} (h:(cauths xs).own w F v) :
  ∃vs,w.ownsRow 0 80 2 v xs.length vs∧(∀g,v.ownBlock=some g→g∈F)∧∀(w':World) (v' u0 u1:Value) (x:AuM) (Fx:List Nat),w'.ownsRow 0 80 2 v' (xs.length+1) (vs ++ [u0,u1])→w.grownBy w' v.ownBlock→(∀g,v'.ownBlock=some g→some g=v.ownBlock∨w.heap.size≤g)→AggO w' (cauth x) Fx (.agg #[u0,u1])→(∀y∈Fx,y∉F)→(∀g,v'.ownBlock=some g→g∉Fx) →
   ∃F',(cauths (xs ++ [x])).own w' F' v'∧∀y∈F',y∈F∨w.heap.size≤y∨y∈Fx:=by
 obtain ⟨n,vs,h1,h2,h3,h4⟩:=row_push h;rw [YT (sz:=2) (fun _=>rfl)] at h1;have hn:=div_of (by omega) h1;subst hn;refine ⟨vs,h2,h3,fun w' v' u0 u1 x Fx ho hg hv hx hd hd2 => ?_⟩;obtain ⟨us,Ds,e,h5,rfl⟩:=hx;injection e with e;have e:us=[u0,u1]:=by have:=congrArg Array.toList e;simpa using this.symm
 subst e;obtain ⟨F',k1,k2⟩:=h4 w' v' 1 [u0,u1] (cauth x) Ds rfl ho hg hv h5 hd hd2;exact ⟨F',by rw [cauths,lst,List.flatMap_append];simpa using k1,k2⟩
theorem autF.own {lo:Nat} {m:AuM} {v:Value} {w:World} (h:autF lo m v w):∃A n c B k d F,v=.agg #[.slice A n c,.slice B k d]∧AggO w (cauth m) F (.agg #[.slice A n c,.slice B k d])∧∀g∈F,lo≤g:=by
 obtain ⟨A,n,c,B,k,d,rfl⟩:=h.form;obtain ⟨F,h1,h2⟩:=h;exact ⟨A,n,c,B,k,d,F,rfl,h1,h2⟩
theorem SOF.val {m:EM} {g:Nat} {F:List Nat} {w:World} (h:SOF 58 (Zf m) g F w) :
  ∃D d F5,w.cell? ⟨g,5,none⟩=some (.slice D m.vs.length d)∧w.frozen? ⟨g,5,none⟩=false∧(cauths m.vs).own w F5 (.slice D m.vs.length d)∧(∀x∈F5,x∈F)∧g∉F5∧(∀x∈F5,x<w.heap.size) ∧
   (∀(w':World) (l:List AuM) (u':Value) (F':List Nat),Chg (fun x=>x∈F5) w w'→(cauths l).own w' F' u'→(∀x∈F',x∈F5∨w.heap.size≤x)→∃F'',SOF 58 (Zf { m with vs:=l }) g F'' (w'.setCell ⟨g,5,none⟩ u')∧∀x∈F'',x∈F∨w.heap.size≤x) ∧
   (∀(w':World) (l:List AuM) (F':List Nat),Chg (fun x=>x∈F5) w w'→(cauths l).own w' F' (.slice D m.vs.length d)→(∀x∈F',x∈F5∨w.heap.size≤x)→∃F'',SOF 58 (Zf { m with vs:=l }) g F'' w'∧∀x∈F'',x∈F∨w.heap.size≤x):=by
 obtain ⟨u,F5,h1,h2,h3,h4,h5,h6,h7⟩:=h.at_ (i:=5) (c:=cauths m.vs) rfl;obtain ⟨D,d,rfl⟩:=KV (CS.toRd _ h3);exact ⟨D,d,F5,h1,h2,h3,h4,h5,CS.lt _ h3,fun w' l u' F' a b c=>h6 w' (cauths l) u' F' a b c,fun w' l F' a b c=>h7 w' (cauths l) F' a b c⟩
theorem SOF.opn {m:EM} {g:Nat} {F:List Nat} {w:World} (h:SOF 58 (Zf m) g F w) :
  ∃E e F6,w.cell? ⟨g,6,none⟩=some (.slice E m.op.length e)∧w.frozen? ⟨g,6,none⟩=false∧(cints m.op).own w F6 (.slice E m.op.length e)∧(∀x∈F6,x∈F)∧g∉F6∧(∀x∈F6,x<w.heap.size) ∧
   (∀(w':World) (l:List Int) (u':Value) (F':List Nat),Chg (fun x=>x∈F6) w w'→(cints l).own w' F' u'→(∀x∈F',x∈F6∨w.heap.size≤x)→∃F'',SOF 58 (Zf { m with op:=l }) g F'' (w'.setCell ⟨g,6,none⟩ u')∧∀x∈F'',x∈F∨w.heap.size≤x):=by
 obtain ⟨u,F6,h1,h2,h3,h4,h5,h6,h7⟩:=h.at_ (i:=6) (c:=cints m.op) rfl;obtain ⟨E,e,rfl,_⟩:=Zx (CS.toRd _ h3);exact ⟨E,e,F6,h1,h2,h3,h4,h5,CS.lt _ h3,fun w' l u' F' a b c=>h6 w' (cints l) u' F' a b c⟩
theorem SOF.round {m:EM} {g:Nat} {F:List Nat} {w:World} (h:SOF 58 (Zf m) g F w) (z:Int):∃F',SOF 58 (Zf { m with rd:=z }) g F' (w.setCell ⟨g,7,none⟩ (.int .i64 z))∧∀x∈F',x∈F∨w.heap.size≤x :=
 SOF.put h (i:=7) (c:=ci m.rd) (c':=ci z) rfl (fun w=>Qu w z)
theorem SOF.flag {m:EM} {g:Nat} {F:List Nat} {w:World} (h:SOF 58 (Zf m) g F w) (b:Bool):∃F',SOF 58 (Zf { m with bad:=b }) g F' (w.setCell ⟨g,8,none⟩ (.bool b))∧∀x∈F',x∈F∨w.heap.size≤x :=
 SOF.put h (i:=8) (c:=cb m.bad) (c':=cb b) rfl (fun w=>cb_own w b)
theorem Jz {xs:List AuM} {i:Nat} (h:i<xs.length):xs[i]?=some (getA xs i):=by
 unfold getA;rw [zF,List.getElem?_eq_getElem h];rfl
theorem YK {xs:List AuM} {w:World} {F:List Nat} {g n c:Nat} (h:(cauths xs).own w F (.slice (some ⟨g,0,none⟩) n c)) {i:Nat} (hi:i<xs.length) :
  ∃B d C f,w.cell? ⟨g,i*2,none⟩=some (.slice B (getA xs i).sh.length d)∧w.cell? ⟨g,i*2+1,none⟩=some (.slice C (getA xs i).mc.length f)∧w.frozen? ⟨g,i*2,none⟩=false∧w.frozen? ⟨g,i*2+1,none⟩=false∧AggR w (cauth (getA xs i)) (.agg #[.slice B (getA xs i).sh.length d,.slice C (getA xs i).mc.length f]):=by
 have hx:=Jz hi
 have h0:(xs.flatMap cauth)[i*2]?=some (cints (getA xs i).sh):=by
  have:=Ve (sz:=2) (F:=cauth) (fun _=>rfl) xs i 0 (by omega);rw [hx] at this;exact this
 have h1:(xs.flatMap cauth)[i*2+1]?=some (cints (getA xs i).mc):=by
  have:=Ve (sz:=2) (F:=cauth) (fun _=>rfl) xs i 1 (by omega);rw [hx] at this;exact this
 obtain ⟨u0,F0,a1,a2,a3,_⟩:=row_cell h h0;obtain ⟨u1,F1,b1,b2,b3,_⟩:=row_cell h h1;obtain ⟨B,d,rfl,_⟩:=Zx (CS.toRd _ a3);obtain ⟨C,f,rfl,_⟩:=Zx (CS.toRd _ b3);exact ⟨B,d,C,f,a1,b1,a2,b2,VM (CS.toRd _ a3) (CS.toRd _ b3)⟩
theorem WU {xs:List AuM} {w:World} {F:List Nat} {D:Option Addr} {n c:Nat} (h:(cauths xs).own w F (.slice D n c)) (hi:0<xs.length):∃gv,D=some ⟨gv,0,none⟩∧gv∈F:=by
 obtain ⟨g,n',c',e,hg⟩:=row_own_slice (by omega) h (by rw [YT (sz:=2) (fun _=>rfl)];omega);injection e with e;exact ⟨g,e,hg⟩
theorem EngR.of {m:EM} {w:World} {A B C D E:Option Addr} {a b c d e n1 n2 n3 n4 n5:Nat} (h:AggR w (Zf m) (.agg #[.int .i64 m.k.p,.slice A n1 a,.int .i64 m.c.p,.slice B n2 b,.slice C n3 c,.slice D n4 d,.slice E n5 e,.int .i64 m.rd,.bool m.bad])) :
  n1=m.k.al.length∧n2=m.c.st.length∧n3=m.c.outs.length∧n4=m.vs.length∧n5=m.op.length∧EngR m w A B C D E a b c d e:=by
 obtain ⟨A',B',C',D',E',a',b',c',d',e',hv,hR⟩:=Yk h;injection hv with hv;have hv:=Array.toList_inj.2 hv;simp only [List.cons.injEq,Value.slice.injEq,and_true,true_and] at hv;obtain ⟨⟨rfl,rfl,rfl⟩,⟨rfl,rfl,rfl⟩,⟨rfl,rfl,rfl⟩,⟨rfl,rfl,rfl⟩,⟨rfl,rfl,rfl⟩⟩:=hv;exact ⟨rfl,rfl,rfl,rfl,rfl,hR⟩
abbrev Vk (xs:List TrM):CS:=lst 82 6 YA xs
theorem elTriple:El Tryz.prog 61 82 (.agg #[.slice none 0 0,.slice none 0 0,.slice none 0 0,.slice none 0 0,.slice none 0 0,.slice none 0 0]) 6 144:=⟨Tryz.underlying61,by kernel_rfl,rfl,by decide⟩
structure TrC (w:World) (x:TrM) (A B C D E F:Option Addr) (a b c d e f:Nat):Prop where
 tr:AggR w (YA x) (.agg #[.slice A x.a.sh.length a,.slice B x.a.mc.length b,.slice C x.b.sh.length c,.slice D x.b.mc.length d,.slice E x.c.sh.length e,.slice F x.c.mc.length f])
 xa:AggR w (cauth x.a) (.agg #[.slice A x.a.sh.length a,.slice B x.a.mc.length b])
 xb:AggR w (cauth x.b) (.agg #[.slice C x.b.sh.length c,.slice D x.b.mc.length d])
 xc:AggR w (cauth x.c) (.agg #[.slice E x.c.sh.length e,.slice F x.c.mc.length f])
theorem TrC.grow {w w':World} {x:TrM} {A B C D E F:Option Addr} {a b c d e f:Nat} (h:TrC w x A B C D E F a b c d e f) (g:w.grownBy w' none):TrC w' x A B C D E F a b c d e f:=⟨h.tr.grow g,h.xa.grow g,h.xb.grow g,h.xc.grow g⟩
theorem Wo {w:World} {xs:List TrM} {A:Option Addr} {n c:Nat} (h:(Vk xs).rd w (.slice A n c)) {k:Nat} (hk:k<n) :
  ∃(b o:Nat) (B0 B1 B2 B3 B4 B5:Option Addr) (d0 d1 d2 d3 d4 d5:Nat),A=some ⟨b,o,none⟩∧b<w.heap.size ∧
   w.cell? ⟨b,o+k*6,none⟩=some (.slice B0 (trAt xs k).a.sh.length d0)∧w.cell? ⟨b,o+k*6+1,none⟩=some (.slice B1 (trAt xs k).a.mc.length d1)∧w.cell? ⟨b,o+k*6+2,none⟩=some (.slice B2 (trAt xs k).b.sh.length d2) ∧
   w.cell? ⟨b,o+k*6+3,none⟩=some (.slice B3 (trAt xs k).b.mc.length d3)∧w.cell? ⟨b,o+k*6+4,none⟩=some (.slice B4 (trAt xs k).c.sh.length d4)∧w.cell? ⟨b,o+k*6+5,none⟩=some (.slice B5 (trAt xs k).c.mc.length d5) ∧
   TrC w (trAt xs k) B0 B1 B2 B3 B4 B5 d0 d1 d2 d3 d4 d5:=by
 obtain ⟨b,o,x,rfl,hb,hx,hc⟩:=lst_at (s:=6) (fun _=>rfl) (by omega) h hk;have hxe:trAt xs k=x:=by unfold trAt;rw [zF,hx];rfl
 rw [hxe];obtain ⟨u0,q0,r0⟩:=hc 0 (cints x.a.sh) rfl;obtain ⟨u1,q1,r1⟩:=hc 1 (cints x.a.mc) rfl;obtain ⟨u2,q2,r2⟩:=hc 2 (cints x.b.sh) rfl;obtain ⟨u3,q3,r3⟩:=hc 3 (cints x.b.mc) rfl;obtain ⟨u4,q4,r4⟩:=hc 4 (cints x.c.sh) rfl;obtain ⟨u5,q5,r5⟩:=hc 5 (cints x.c.mc) rfl;obtain ⟨B0,d0,rfl,_⟩:=Zx r0;obtain ⟨B1,d1,rfl,_⟩:=Zx r1;obtain ⟨B2,d2,rfl,_⟩:=Zx r2;obtain ⟨B3,d3,rfl,_⟩:=Zx r3;obtain ⟨B4,d4,rfl,_⟩:=Zx r4;obtain ⟨B5,d5,rfl,_⟩:=Zx r5;simp only [Nat.add_zero,← Nat.add_assoc] at q0 q1 q2 q3 q4 q5;exact ⟨b,o,B0,B1,B2,B3,B4,B5,d0,d1,d2,d3,d4,d5,rfl,hb,q0,q1,q2,q3,q4,q5,⟨⟨_,rfl,RdAll.cons r0 (RdAll.cons r1 (RdAll.cons r2 (RdAll.cons r3 (RdAll.cons r4 (RdAll.cons r5 (RdAll.nil _))))))⟩,VM r0 r1,VM r2 r3,VM r4 r5⟩⟩
theorem Wu {w:World} {xs:List TrM} {A:Option Addr} {n c:Nat} (h:(Vk xs).rd w (.slice A n c)):xs.length=n:=(lst_len (s:=6) (fun _=>rfl) (by omega) h).1
theorem Kf {ts:List TrM} {Q:TrM→Prop} (h:∀x∈ts,Q x) {k:Nat} (hk:k<ts.length):Q (trAt ts k):=by
 unfold trAt;rw [zF,List.getElem?_eq_getElem hk];exact h _ (List.getElem_mem hk)
theorem UN {k:KM} {x:AuM} (h:zeroA x=true):okV k x=true:=by unfold okV;rw [h];rfl
set_option maxHeartbeats 4000000 in
set_option maxRecDepth 100000 in
theorem YD (m:EM) (v:Value) (w0:World) (h:AggR w0 (Zf m) v) (wm:ewf m) :
  Calls Tryz.prog 122 #[v] w0 fun e w'=>e=.returned (.bool (engOkB m))∧w0.grownBy w' none:=by
 obtain ⟨A,B,C,D,E,a,b,c,d,e,rfl,hR⟩:=Yk h;obtain ⟨w1,hw1⟩:∃x:World,w0.alloc (.cells #[.int .i64 m.k.p,.slice A m.k.al.length a,.int .i64 m.c.p,.slice B m.c.st.length b,.slice C m.c.outs.length c,.slice D m.vs.length d,.slice E m.op.length e,.int .i64 m.rd,.bool m.bad] 58)=x:=⟨_,rfl⟩;have GW:Hid (w0.grownBy w1 none):=by rw [← hw1];exact gbA (gbR _ _) _
 have D1:Hid (Blk w1 w0.heap.size 58 #[.int .i64 m.k.p,.slice A m.k.al.length a,.int .i64 m.c.p,.slice B m.c.st.length b,.slice C m.c.outs.length c,.slice D m.vs.length d,.slice E m.op.length e,.int .i64 m.rd,.bool m.bad]):=by rw [← hw1];exact Blk.new w0 _ _
 have R1:=zH (hR.grow GW.out);have WM:=zH wm;have HB:Hid (engOkB m=(keysB m.k&&arithB m.c&&(m.k.p == m.c.p)&&decide (m.vs.length=m.c.st.length)&&inQ m.rd 0 60&&m.vs.all (okV m.k))):=rfl;obtain ⟨n,hn⟩:∃n,m.vs.length=n:=⟨_,rfl⟩;have hn20:n≤1048576:=by have:=wm.n;omega
 have LN:=zH hn;rw [hn] at D1 HB hw1;clear h hR wm
 go_enter Tryz.func122,Tryz.ntmps122
 rw [LN.out];have k0:=D1.out.cell 0;have k1:=D1.out.cell 1;simp at k0 k1;go_wp2_with fail;clear hw1 k0 k1 hn;refine (YQ m.k _ _ R1.out.ky WM.out.k).mono ?_;rintro e w2 ⟨rfl,g2⟩
 cases b1:keysB m.k
 ·rw [b1] at HB
  have G2:=zH (gbT GW.out g2);clear g2;go_wp2_with fail;go_ret;exact ⟨retB (by rw [HB.out];rfl),G2.out⟩
 have x0:=(D1.out.grow g2).cell 2;have x1:=(D1.out.grow g2).cell 3;have x2:=(D1.out.grow g2).cell 4;simp at x0 x1 x2;have G2:=zH g2;have KB:=zH b1;rw [b1] at HB;clear g2 b1;go_wp2_with fail;clear x0 x1 x2;refine (ZU m.c _ _ (R1.out.ar.grow G2.out) WM.out.c.wf).mono ?_;rintro e w3 ⟨rfl,g3⟩
 cases b2:arithB m.c
 ·rw [b2] at HB
  have G3:=zH (gbT GW.out (gbT G2.out g3));clear g3;go_wp2_with fail;go_ret;exact ⟨retB (by rw [HB.out];rfl),G3.out⟩
 have G3:=zH (gbT G2.out g3);rw [b2] at HB;clear g3 b2 G2;have y0:=(D1.out.grow G3.out).cell 0;have y2:=(D1.out.grow G3.out).cell 2;have y3:=(D1.out.grow G3.out).cell 3;have y5:=(D1.out.grow G3.out).cell 5;have y7:=(D1.out.grow G3.out).cell 7;simp at y0 y2 y3 y5 y7
 cases b3:(m.k.p == m.c.p)
 ·rw [b3] at HB
  have n3:(m.k.p != m.c.p)=true:=by rw [bne,b3];rfl
  have G4:=zH (gbT GW.out G3.out);clear b3;go_wp2_with fail;go_ret;exact ⟨retB (by rw [HB.out];rfl),G4.out⟩
 have n3:(m.k.p != m.c.p)=false:=by rw [bne,b3];rfl
 rw [b3] at HB;clear b3
 cases b4:decide (n=m.c.st.length)
 ·rw [b4] at HB
  have n4:((n:Int) != (m.c.st.length:Int))=true:=by simp at b4;simp;omega
  have G4:=zH (gbT GW.out G3.out);clear b4;go_wp2_with fail;go_ret;exact ⟨retB (by rw [HB.out];rfl),G4.out⟩
 have n4:((n:Int) != (m.c.st.length:Int))=false:=by simp at b4;simp;omega
 rw [b4] at HB;clear b4;go_wp2_with fail;refine (Xg m.rd 0 60 _).mono ?_;rintro e w4 ⟨rfl,rfl⟩
 cases b5:inQ m.rd 0 60
 ·rw [b5] at HB
  have G4:=zH (gbT GW.out G3.out);clear b5;go_wp2_with fail;go_ret;exact ⟨retB (by rw [HB.out];rfl),G4.out⟩
 rw [b5] at HB;simp only [Bool.and_true,Bool.true_and] at HB;clear b5;have P0:=zH (CS.grow _ R1.out.va G3.out);rw [LN.out] at P0;have B3:=zH (D1.out.grow G3.out);have GZ:=zH (gbT GW.out G3.out);go_wp2_with fail;clear n3 n4 y0 y2 y3 y5 y7
 go_loopw [43] (fun i wr=>∃k:Nat,k≤n∧i=.int .i64 k∧Hid (∀q,q<k→okV m.k (getA m.vs q)=true)∧Hid (w3.grownBy wr none)) (fun i _=>n - (intOf i).toNat)
 case atStart=>exact ⟨0,Nat.zero_le _,rfl,zH (fun q hq=>by omega),zH (gbR _ _)⟩
 case round =>
  obtain ⟨k,hk,rfl,hO,hG⟩:=hrel
  by_cases hlt:k<n
  ·have i1:(k:Int)<(n:Int):=by omega
   obtain ⟨b,o,x,Bx,dx,Cx,fx,rfl,hb,hx,q0,q1,hX⟩:=Yx (CS.grow _ P0.out hG.out) hlt;have hxg:getA m.vs k=x:=by unfold getA;rw [zF,hx];rfl
   have WX:=zH (WM.out.vs x (List.mem_of_getElem? hx));have HXG:=zH hxg;have HMX:=zH (List.mem_of_getElem? hx);have HX:=zH hX;clear hx hX hxg;go_wp2_with fail;obtain ⟨wy,hwy⟩:∃y:World,wr.alloc (.cells #[.slice Bx x.sh.length dx,.slice Cx x.mc.length fx] 80)=y:=⟨_,rfl⟩;have GY:Hid (wr.grownBy wy none):=by rw [← hwy];exact gbA (gbR _ _) _
   have BX:Hid (Blk wy wr.heap.size 80 #[.slice Bx x.sh.length dx,.slice Cx x.mc.length fx]):=by rw [← hwy];exact Blk.new _ _ _
   rw [hwy];clear hwy q0 q1;refine (ZF x _ wy (HX.out.grow GY.out)).mono ?_;rintro e w5 ⟨rfl,g5⟩;have G5:=zH (gbT GY.out g5);have e0:=(B3.out.grow (gbT hG.out G5.out)).cell 0;have e1:=(B3.out.grow (gbT hG.out G5.out)).cell 1;have c0:=(BX.out.grow g5).cell 0;have c1:=(BX.out.grow g5).cell 1;simp at e0 e1 c0 c1;clear g5
   cases hz:zeroA x
   ·have HZ:=zH hz
    clear hz;go_wp2_with fail;have GG:=gbT G3.out (gbT hG.out G5.out);have HK5:=R1.out.ky.grow GG;have HX5:=HX.out.grow G5.out;refine (YR m.k [x] _ _ 1 1 _ (HK5.grow (gbA (gbR _ none) _)) (Uj HX5) WM.out.k (by intro y hy;simp at hy;subst hy;exact WX.out) (by omega)).mono ?_;rintro e w6 ⟨rfl,g6⟩;have G6:=zH (gbT (gbT hG.out G5.out) (gbT (gbA (gbR _ none) _) g6));have hf:([x].all (formA m.k)&&keysB m.k)=formB m.k x:=by unfold formB;simp [Bool.and_comm]
    rw [hf];clear g6 hf HK5 HX5 e0 e1 c0 c1 GG
    cases hfx:formB m.k x
    ·have hno:(m.vs.all (okV m.k))=false:=by
      rw [List.all_eq_false];exact ⟨x,HMX.out,by unfold okV;rw [HZ.out,hfx];decide⟩
     rw [hno] at HB;have G7:=zH (gbT GZ.out G6.out);clear hno hfx;go_wp2_with fail;go_ret;exact ⟨retB HB.out.symm,G7.out⟩
    ·have O2:Hid (∀q,q<k+1→okV m.k (getA m.vs q)=true):=zH (fun q hq=>by
      by_cases e:q=k
      ·subst e;rw [HXG.out];unfold okV;rw [hfx,Bool.or_true]
      ·exact hO.out q (by omega))
     clear hfx;go_wp2_with fail
     go_roundw
     case rel=>exact ⟨k+1,by omega,by go_num,O2,G6⟩
     case measure=>simp [intOf];omega
   ·have O2:Hid (∀q,q<k+1→okV m.k (getA m.vs q)=true):=zH (fun q hq=>by
     by_cases e:q=k
     ·subst e;rw [HXG.out];exact UN hz
     ·exact hO.out q (by omega))
    have G6:=zH (gbT hG.out G5.out);clear hz;go_wp2_with fail
    go_roundw
    case rel=>exact ⟨k+1,by omega,by go_num,O2,G6⟩
    case measure=>simp [intOf];omega
  ·have hkn:k=n:=by omega
   subst hkn
   have hyes:(m.vs.all (okV m.k))=true:=by
    rw [List.all_eq_true];intro x hx;obtain ⟨i,hi,rfl⟩:=List.getElem_of_mem hx;have:=hO.out i (by rw [← LN.out];exact hi);unfold getA at this;rw [zF,List.getElem?_eq_getElem hi] at this;exact this
   rw [hyes] at HB;have G7:=zH (gbT GZ.out hG.out);go_wp2_with fail;go_ret;exact ⟨retB HB.out.symm,G7.out⟩
end Go.Proofs.YthaadgdeadbhkaaGreat
