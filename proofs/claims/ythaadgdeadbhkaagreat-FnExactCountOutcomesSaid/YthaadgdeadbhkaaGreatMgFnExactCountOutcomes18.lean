/-
 TripleNew of the program,where it answers.
-/
import Derived.Test.YthaadgdeadbhkaaGreatMgFnExactCountOutcomes17
open Go.RowKit
set_option linter.unusedVariables false
set_option linter.unusedSimpArgs false
namespace Go.Proofs.YthaadgdeadbhkaaGreat
attribute [local simp] depsC dstAt kAt bindE List.filter_cons Zz Zq Zr Zs ZA ZW puts dsts Act.put
def tnA (s a P:Nat):Nat:=belN s a P
def tnB (s a P:Nat):Nat:=belN s (a+1) P
def Ys (k:KM) (P s a:Nat):TrM :=
 ⟨ZL k P s (a+2) (tnA s a P),ZL k P s (a+2+2*(k.al.length - 1)) (tnB s a P),ZL k P s (a+2+4*(k.al.length - 1)) (((tnA s a P:Int)*(tnB s a P:Int)) % k.p)⟩
theorem stTriple:St Tryz.prog 82 6:=⟨⟨_,Tryz.underlying82,rfl⟩,by kernel_rfl⟩
def aTup (lo:Nat) (m:AuM) (t:Value) (v:Value) (w:World):Prop:=∃A n c B k d,v=.tuple #[.agg #[.slice A n c,.slice B k d],t]∧autF lo m (.agg #[.slice A n c,.slice B k d]) w
theorem Jy {lo:Nat} {m:AuM} {t:Value}:stable (aTup lo m t):=fun v w w' ⟨A,n,c,B,k,d,h1,h2⟩ hg=>⟨A,n,c,B,k,d,h1,h2.grow hg⟩
theorem aTup_chg {lo g:Nat} {m:AuM} {t v:Value} {w w':World} (h:aTup lo m t v w) (q:Chg (fun y=>y=g) w w') (hg:g<lo):aTup lo m t v w':=by
 obtain ⟨A,n,c,B,k,d,h1,h2⟩:=h;exact ⟨A,n,c,B,k,d,h1,autF.chg h2 q hg⟩
theorem chgDD {g:Nat} {w w':World} (h:Chg (fun y=>y=g) w w'):Chg (fun y=>y=g) w.drew w'.drew:=⟨h.os,h.tape,h.output,h.size,h.block⟩
theorem autF.far2 {lo g h:Nat} {m:AuM} {v:Value} {w w':World} {T U:TypeId} {cs ds:Array Value} (H:autF lo m v w) (B:Blk w g T cs) (D:Blk w h U ds) (k:Chg (fun y=>y=g∨y=h) w w') (hT:3≠T:=by decide) (hU:3≠U:=by decide):autF lo m v w':=by
 obtain ⟨F,h1,h2⟩:=H;refine ⟨F,h1.chg k (fun x hx e => ?_),h2⟩;obtain ⟨u0,u1,F0,F1,_,rfl,o0,o1,_⟩:=Ui h1
 have:∃cur z,w.heap[x]?=some (.cells cur 3 z):=by
  simp at hx
  rcases hx with hx | hx
  ·exact Ka o0 x hx
  ·exact Ka o1 x hx
 obtain ⟨cur,z,hc⟩:=this;unfold Blk at B D
 rcases e with e | e
 ·subst e
  rw [B] at hc;injection hc with hc;injection hc with _ h3 _;exact hT h3.symm
 ·subst e
  rw [D] at hc;injection hc with hc;injection hc with _ h3 _;exact hU h3.symm
def OwnE (w:World) (cs:List CS) (vs:List Value):Prop:=vs.length=cs.length∧∀(i:Nat) (c:CS) (v:Value),cs[i]?=some c→vs[i]?=some v→∃F,c.own w F v
def AggE (w:World) (cs:List CS) (v:Value):Prop:=∃vs:List Value,v=.agg vs.toArray∧OwnE w cs vs
theorem OwnE.rd {w:World} {cs:List CS} {vs:List Value} (h:OwnE w cs vs):RdAll w cs vs:=⟨h.1,fun i c v hc hv=>by
 obtain ⟨F,hF⟩:=h.2 i c v hc hv
 exact c.toRd hF⟩
theorem AggE.rd {w:World} {cs:List CS} {v:Value} (h:AggE w cs v):AggR w cs v:=by
 obtain ⟨vs,rfl,h⟩:=h;exact ⟨vs,rfl,h.rd⟩
theorem OwnE.append {w:World} {cs ds:List CS} {vs us:List Value} (h:OwnE w cs vs) (k:OwnE w ds us):OwnE w (cs ++ ds) (vs ++ us):=by
 refine ⟨by simp [h.1,k.1],fun i c v hc hv => ?_⟩;rw [List.getElem?_append] at hc hv;rw [h.1] at hv
 split at hc
 ·rename_i hl
  rw [if_pos hl] at hv;exact h.2 i c v hc hv
 ·rename_i hl
  rw [if_neg hl] at hv;exact k.2 _ c v hc hv
theorem OwnE.aut {w:World} {lo:Nat} {m:AuM} {vs:List Value} (h:autF lo m (.agg vs.toArray) w):OwnE w (cauth m) vs:=by
 obtain ⟨F,⟨us,Fs,e,h1,_⟩,_⟩:=h;injection e with e;have e:vs=us:=by have:=congrArg Array.toList e;simpa using this
 subst e;refine ⟨h1.lv,fun i c v hc hv => ?_⟩;have hi:=(List.getElem?_eq_some_iff.1 hc).1;obtain ⟨c',v',F',e1,e2,_,ho⟩:=h1.get hi;rw [hc] at e1;injection e1 with e1;subst e1;rw [hv] at e2;injection e2 with e2;subst e2;exact ⟨F',ho⟩
theorem Vj (al:List Int) (P s a a':Nat) (x:Int) (kv:Value) (w0:World) (h:AggR w0 (ckeys ⟨P,al⟩) kv) (wk:kwf ⟨P,al⟩) (hk:keysB ⟨P,al⟩=true) (hx:elemB (P:Int) x=true) (hs:s<4294967296) (ha:a≤900000) (he:a+(al.length - 1)+(al.length - 1)=a') :
  Calls Tryz.prog 115 #[kv,.int .i64 x,.agg #[.int .i64 s,.int .i64 a]] w0 fun e w'=>∃A n c B m d,e=.returned (.tuple #[.agg #[.slice A n c,.slice B m d],.agg #[.int .i64 s,.int .i64 a']])∧autF w0.heap.size (ZL ⟨P,al⟩ P s a x) (.agg #[.slice A n c,.slice B m d]) w'∧w0.grownBy w' none:=by
 subst he;refine (Vv ⟨P,al⟩ P s a x kv w0 h wk hk rfl hx hs ha).mono ?_;rintro e w' ⟨v,rfl,o,g⟩;obtain ⟨A,n,c,B,m,d,rfl⟩:=autF.form o;exact ⟨A,n,c,B,m,d,rfl,o,g⟩
set_option maxHeartbeats 4000000 in
set_option maxRecDepth 100000 in
theorem Qi (k:KM) (P s a:Nat) (kv:Value) (w0:World) (h:AggR w0 (ckeys k) kv) (wk:kwf k) (hk:keysB k=true) (hP:k.p=P) (hs:s<4294967296) (ha:a≤800000) :
  Calls Tryz.prog 55 #[kv,.agg #[.int .i64 s,.int .i64 a]] w0 fun e w'=>∃v,e=.returned (.tuple #[v,.agg #[.int .i64 s,.int .i64 ((a+2+6*(k.al.length - 1):Nat):Int)]])∧AggE w' (YA (Ys k P s a)) v∧w0.grownBy w' none:=by
 obtain ⟨A,c,rfl,hc,hm,hI⟩:=ZG h;obtain ⟨p,al⟩:=k;simp only at hP;subst hP;obtain ⟨kf,ke,n1,n5⟩:=Yc hk;obtain ⟨p2,p101⟩:=ZC kf;simp only at n1 n5 ke kf p2 p101;obtain ⟨w1,hw1⟩:∃y:World,(((w0.alloc (.cells #[.int .i64 P,.slice A al.length c] 34)).alloc (.cells #[.int .i64 s,.int .i64 a] 41)).alloc (.cells #[.slice none 0 0,.slice none 0 0,.slice none 0 0,.slice none 0 0,.slice none 0 0,.slice none 0 0] 82)).alloc (.cells #[.int .i64 0,.int .i64 0] 41)=y:=⟨_,rfl⟩;have G1:Hid (w0.grownBy w1 none):=by rw [← hw1];exact gbA (gbA (gbA (gbA (gbR _ _) _) _) _) _
 have z1:Hid (w1.heap.size=w0.heap.size+4):=by rw [← hw1];exact zH (by simp)
 have D0:Hid (Blk w1 w0.heap.size 34 #[.int .i64 P,.slice A al.length c]):=by rw [← hw1];exact (((Blk.new w0 _ _).grow (gbA (gbR _ _) _)).grow (gbA (gbR _ _) _)).grow (gbA (gbR _ _) _)
 have D1:Hid (Blk w1 (w0.heap.size+1) 41 #[.int .i64 s,.int .i64 a]):=by rw [← hw1];exact ((Blk.new' _ _ _ _ (by simp)).grow (gbA (gbR _ _) _)).grow (gbA (gbR _ _) _)
 have D2:Hid (Blk w1 (w0.heap.size+1+1) 82 #[.slice none 0 0,.slice none 0 0,.slice none 0 0,.slice none 0 0,.slice none 0 0,.slice none 0 0]):=by rw [← hw1];exact (Blk.new' _ _ _ _ (by simp)).grow (gbA (gbR _ _) _)
 have D3:Hid (Blk w1 (w0.heap.size+1+1+1) 41 #[.int .i64 0,.int .i64 0]):=by rw [← hw1];exact Blk.new' _ _ _ _ (by simp)
 have HK0:=zH h;have HK:=zH (AggR.grow h G1.out);have WK:=zH wk;have KB:=zH hk;have KF:=zH kf;have TB:=zH (Yw hs (show a≤1000000 by omega));have da:¬(800000:Int)<(a:Int):=by omega
 clear h hI wk hk ke kf
 go_enter Tryz.func55,Tryz.ntmps55
 have k0:=D0.out.cell 0;have k1:=D0.out.cell 1;simp at k0 k1;go_wp2_with fail;clear hw1 k0 k1;refine (YQ ⟨P,al⟩ _ _ HK.out WK.out).mono ?_;rintro e w2 ⟨rfl,g2⟩;rw [KB.out];have t0:=(D1.out.grow g2).cell 0;have t1:=(D1.out.grow g2).cell 1;simp at t0 t1;have Q2:=zH g2;clear g2;go_wp2_with fail;refine (Yj s a _).mono ?_;rintro e w3 ⟨rfl,g3⟩;rw [TB.out];have g13:=gbT Q2.out g3;have D0':=zH (D0.out.grow g13);have D1':=zH (D1.out.grow g13);have D2':=zH (D2.out.grow g13);have D3':=zH (D3.out.grow g13);have G3:=zH (gbT G1.out g13);have z3:w0.heap.size+4≤w3.heap.size:=by have:=z1.out;have:=g13.size;omega
 have t1':=D1'.out.cell 1;simp at t1';clear g3 g13 Q2 t0 t1 D0 D1 D2 D3 G1 HK;obtain ⟨gB,hgB⟩:∃g,w3.heap.size=g:=⟨_,rfl⟩;obtain ⟨w4,hw4⟩:∃y:World,w3.alloc (.cells #[.slice none 0 0,.slice none 0 0,.slice none 0 0,.slice none 0 0,.slice none 0 0,.slice none 0 0] 82)=y:=⟨_,rfl⟩;have hgr:w3.grownBy w4 none:=by rw [← hw4];exact gbA (gbR _ _) _
 have D0:=zH (D0'.out.grow hgr);have D1:=zH (D1'.out.grow hgr);have D2:=zH (D2'.out.grow hgr);have D3:=zH (D3'.out.grow hgr);have G4:=zH (gbT G3.out hgr);have DB:Hid (Blk w4 gB 82 #[.slice none 0 0,.slice none 0 0,.slice none 0 0,.slice none 0 0,.slice none 0 0,.slice none 0 0]):=by rw [← hw4,← hgB];exact Blk.new _ _ _
 have z4:Hid (w4.heap.size=gB+1):=by rw [← hw4,← hgB];exact zH (by simp)
 rw [hgB] at z3;have k0:=D0'.out.cell 0;have k1:=D0'.out.cell 1;have t0:=D1'.out.cell 0;have t1:=D1'.out.cell 1;simp at k0 k1 t0 t1;have q0:=fun o=>kA k0 o;have q1:=fun o=>kA k1 o;have q2:=fun o=>kA t0 o;have q3:=fun o=>kA t1 o;have HW4:=zH hw4;clear hgr D0' D1' D2' D3' G3 hw4;go_wp2_with fail;rw [HW4.out];clear HW4 k0 k1 t0 t1 t1' q0 q1 q2 q3;have Z:Hid (gB+1≤w4.heap.size):=zH (by have:=z4.out;omega);clear z4;refine (Xv s a P w4 hs (by omega) (by omega) (by omega)).mono ?_;rintro e w5 ⟨rfl,g5⟩;obtain ⟨x1,hx1⟩:∃z,belN s a P=z:=⟨_,rfl⟩;have Lx1:Hid (x1<P):=by rw [← hx1];exact zH (Qb (by omega))
 rw [hx1];have Hx1:=zH hx1;obtain ⟨a1,ha1⟩:∃z,a+1=z:=⟨_,rfl⟩;rw [show ((a:Int)+1)=((a1:Nat):Int) by omega];have ba1:a1≤a+1:=by omega
 have Ha1:=zH ha1;have z5:=g5.size;have D0':=zH (D0.out.grow g5);have D1':=D1.out.grow g5;have D2':=zH (D2.out.grow g5);have D3':=zH (D3.out.grow g5);have DB':=zH (DB.out.grow g5);have G5:=zH (gbT G4.out g5);have f1:=D1'.frozen 0;have f2:=D1'.frozen 1;have e1:=D1'.cell 0;have e2:=D1'.cell 1;have k0:=D0'.out.cell 0;have k1:=D0'.out.cell 1;simp at e1 e2 k0 k1;have CT:=zH (Za (w0.heap.size+1) [.int .i64 s,.int .i64 (a1:Int)] 0 w5);have D16:=zH (Zd D1' [.int .i64 s,.int .i64 (a1:Int)] rfl);have D06:=zH (D0'.out.chg CT.out (by omega));have D26:=zH (D2'.out.chg CT.out (by omega));have D36:=zH (D3'.out.chg CT.out (by omega));have DB6:=zH (DB'.out.chg CT.out (by omega));have G6:=zH (Zu G5.out CT.out (by omega));obtain ⟨w6,hw6⟩:∃y,Zm w5 (w0.heap.size+1) 0 [.int .i64 s,.int .i64 (a1:Int)]=y:=⟨_,rfl⟩;have z6:gB+1≤w6.heap.size:=by have:=Z.out;rw [← hw6];simp [Zm];omega
 rw [hw6] at D16 D06 D26 D36 DB6 G6;have Hw6:=zH hw6;clear g5 D0 D1 D2 D3 DB G4 D0' D2' D3' DB' D1' CT G5 hw6 hx1 ha1 z5;go_wp2_with fail;rw [show (w5.setCell ⟨w0.heap.size+1,0,none⟩ (.int .i64 s)).setCell ⟨w0.heap.size+1,1,none⟩ (.int .i64 (a1:Int))=w6 from Hw6.out];clear f1 f2 e1 e2 k0 k1 Hw6 Z;have D0:=D06;have D1:=D16;have D2:=D26;have D3:=D36;have DB:=DB6;have G4:=G6;have Z:=zH z6;clear D06 D16 D26 D36 DB6 G6 z6;refine (Xv s a1 P w6 hs (by omega) (by omega) (by omega)).mono ?_;rintro e w7 ⟨rfl,g5⟩;obtain ⟨y1,hy1⟩:∃z,belN s a1 P=z:=⟨_,rfl⟩;have Ly1:Hid (y1<P):=by rw [← hy1];exact zH (Qb (by omega))
 rw [hy1];have Hy1:=zH hy1;obtain ⟨a2,ha2⟩:∃z,a1+1=z:=⟨_,rfl⟩;rw [show ((a1:Int)+1)=((a2:Nat):Int) by omega];have ba2:a2≤a1+1:=by omega
 have Ha2:=zH ha2;have z5:=g5.size;have D0':=zH (D0.out.grow g5);have D1':=D1.out.grow g5;have D2':=zH (D2.out.grow g5);have D3':=zH (D3.out.grow g5);have DB':=zH (DB.out.grow g5);have G5:=zH (gbT G4.out g5);have f1:=D1'.frozen 0;have f2:=D1'.frozen 1;have e1:=D1'.cell 0;have e2:=D1'.cell 1;have k0:=D0'.out.cell 0;have k1:=D0'.out.cell 1;simp at e1 e2 k0 k1;have CT:=zH (Za (w0.heap.size+1) [.int .i64 s,.int .i64 (a2:Int)] 0 w7);have D16:=zH (Zd D1' [.int .i64 s,.int .i64 (a2:Int)] rfl);have D06:=zH (D0'.out.chg CT.out (by omega));have D26:=zH (D2'.out.chg CT.out (by omega));have D36:=zH (D3'.out.chg CT.out (by omega));have DB6:=zH (DB'.out.chg CT.out (by omega));have G6:=zH (Zu G5.out CT.out (by omega));obtain ⟨w8,hw6⟩:∃y,Zm w7 (w0.heap.size+1) 0 [.int .i64 s,.int .i64 (a2:Int)]=y:=⟨_,rfl⟩;have z6:gB+1≤w8.heap.size:=by have:=Z.out;rw [← hw6];simp [Zm];omega
 rw [hw6] at D16 D06 D26 D36 DB6 G6;have Hw8:=zH hw6;clear g5 D0 D1 D2 D3 DB G4 D0' D2' D3' DB' D1' CT G5 hw6 hy1 ha2 z5;go_wp2_with fail;rw [show (w7.setCell ⟨w0.heap.size+1,0,none⟩ (.int .i64 s)).setCell ⟨w0.heap.size+1,1,none⟩ (.int .i64 (a2:Int))=w8 from Hw8.out];clear f1 f2 e1 e2 k0 k1 Hw8 Z;have D0:=D06;have D1:=D16;have D2:=D26;have D3:=D36;have DB:=DB6;have G4:=G6;have Z:=zH z6;clear D06 D16 D26 D36 DB6 G6 z6;have Ex1:Hid (elemB (P:Int) (x1:Int)=true):=zH (Yi KF.out (by omega) (by have:=Lx1.out;omega));have Ey1:Hid (elemB (P:Int) (y1:Int)=true):=zH (Yi KF.out (by omega) (by have:=Ly1.out;omega));obtain ⟨a3,ha3⟩:∃z,a2+(al.length - 1)+(al.length - 1)=z:=⟨_,rfl⟩;have ba3:a3≤a2+8:=by omega
 have Ha3:=zH ha3;refine (Vj al P s a2 a3 x1 _ w8 (AggR.grow HK0.out G4.out) WK.out KB.out Ex1.out hs (by omega) ha3).mono ?_;rintro e w9 ⟨A1,n1,c1,B1,m1,d1,rfl,o1,g5⟩;have AU1':=zH (autF.lo o1 Z.out);have z5:=g5.size;have D0':=zH (D0.out.grow g5);have D1':=D1.out.grow g5;have D2':=zH (D2.out.grow g5);have D3':=zH (D3.out.grow g5);have DB':=DB.out.grow g5;have G5:=zH (gbT G4.out g5);have f1:=D1'.frozen 0;have f2:=D1'.frozen 1;have f3:=DB'.frozen 0;have f4:=DB'.frozen 1;have e1:=D1'.cell 0;have e2:=D1'.cell 1;have e3:=DB'.cell 0;have e4:=DB'.cell 1;have k0:=D0'.out.cell 0;have k1:=D0'.out.cell 1;simp at e1 e2 e3 e4 k0 k1;have CB:=zH (Za gB [.slice A1 n1 c1,.slice B1 m1 d1] 0 w9);have DBx:Hid (Blk (Zm w9 gB 0 [.slice A1 n1 c1,.slice B1 m1 d1]) gB 82 #[.slice A1 n1 c1,.slice B1 m1 d1,.slice none 0 0,.slice none 0 0,.slice none 0 0,.slice none 0 0]):=zH ((DB'.set_ 0 (.slice A1 n1 c1)).set_ 1 (.slice B1 m1 d1));have D1x:=D1'.chg CB.out (by omega);obtain ⟨wx,hwx⟩:∃y,Zm w9 gB 0 [.slice A1 n1 c1,.slice B1 m1 d1]=y:=⟨_,rfl⟩;rw [hwx] at CB DBx D1x;have CT:=zH (Za (w0.heap.size+1) [.int .i64 s,.int .i64 (a3:Int)] 0 wx);have D16:=zH (Zd D1x [.int .i64 s,.int .i64 (a3:Int)] rfl);have D06:=zH ((D0'.out.chg CB.out (by omega)).chg CT.out (by omega));have D26:=zH ((D2'.out.chg CB.out (by omega)).chg CT.out (by omega));have D36:=zH ((D3'.out.chg CB.out (by omega)).chg CT.out (by omega));have DB6:=zH (DBx.out.chg CT.out (by omega));have AU16:=zH (autF.far (autF.far AU1'.out DB' CB.out) D1x CT.out);have G6:=zH (Zu (Zu G5.out CB.out (by omega)) CT.out (by omega));obtain ⟨w10,hw6⟩:∃y,Zm wx (w0.heap.size+1) 0 [.int .i64 s,.int .i64 (a3:Int)]=y:=⟨_,rfl⟩;have z6:gB+1≤w10.heap.size:=by have:=Z.out;rw [← hw6,← hwx];simp [Zm];omega
 rw [hw6] at D16 D06 D26 D36 DB6 G6 AU16;have Hw10:=zH hw6;have HWX:=zH hwx;clear g5 D0 D1 D2 D3 DB G4 D0' D2' D3' DB' D1' CT G5 hw6 ha3 z5 o1 AU1' CB DBx D1x hwx;go_wp2_with fail;rw [show (w9.setCell ⟨gB,0,none⟩ (.slice A1 n1 c1)).setCell ⟨gB,1,none⟩ (.slice B1 m1 d1)=wx from HWX.out];rw [show (wx.setCell ⟨w0.heap.size+1,0,none⟩ (.int .i64 s)).setCell ⟨w0.heap.size+1,1,none⟩ (.int .i64 (a3:Int))=w10 from Hw10.out];clear f1 f2 f3 f4 e1 e2 e3 e4 k0 k1 Hw10 HWX Z;have D0:=D06;have D1:=D16;have D2:=D26;have D3:=D36;have DB:=DB6;have G4:=G6;have AU1:=AU16;have Z:=zH z6;clear D06 D16 D26 D36 DB6 G6 z6 AU16;obtain ⟨a4,ha4⟩:∃z,a3+(al.length - 1)+(al.length - 1)=z:=⟨_,rfl⟩;have ba4:a4≤a3+8:=by omega
 have Ha4:=zH ha4;refine (Vj al P s a3 a4 y1 _ w10 (AggR.grow HK0.out G4.out) WK.out KB.out Ey1.out hs (by omega) ha4).mono ?_;rintro e w11 ⟨A2,n2,c2,B2,m2,d2,rfl,o2,g5⟩;have AU2':=zH (autF.lo o2 Z.out);have z5:=g5.size;have D0':=zH (D0.out.grow g5);have D1':=D1.out.grow g5;have D2':=zH (D2.out.grow g5);have D3':=zH (D3.out.grow g5);have DB':=DB.out.grow g5;have AU1':=zH (AU1.out.grow g5);have G5:=zH (gbT G4.out g5);have f1:=D1'.frozen 0;have f2:=D1'.frozen 1;have f3:=DB'.frozen 2;have f4:=DB'.frozen 3;have e1:=D1'.cell 0;have e2:=D1'.cell 1;have e3:=DB'.cell 2;have e4:=DB'.cell 3;have k0:=D0'.out.cell 0;have k1:=D0'.out.cell 1;simp at e1 e2 e3 e4 k0 k1;have CB:=zH (Za gB [.slice A2 n2 c2,.slice B2 m2 d2] 2 w11);have DBx:Hid (Blk (Zm w11 gB 2 [.slice A2 n2 c2,.slice B2 m2 d2]) gB 82 #[.slice A1 n1 c1,.slice B1 m1 d1,.slice A2 n2 c2,.slice B2 m2 d2,.slice none 0 0,.slice none 0 0]):=zH ((DB'.set_ 2 (.slice A2 n2 c2)).set_ 3 (.slice B2 m2 d2));have D1x:=D1'.chg CB.out (by omega);obtain ⟨wx,hwx⟩:∃y,Zm w11 gB 2 [.slice A2 n2 c2,.slice B2 m2 d2]=y:=⟨_,rfl⟩;rw [hwx] at CB DBx D1x;have CT:=zH (Za (w0.heap.size+1) [.int .i64 s,.int .i64 (a4:Int)] 0 wx);have D16:=zH (Zd D1x [.int .i64 s,.int .i64 (a4:Int)] rfl);have D06:=zH ((D0'.out.chg CB.out (by omega)).chg CT.out (by omega));have D26:=zH ((D2'.out.chg CB.out (by omega)).chg CT.out (by omega));have D36:=zH ((D3'.out.chg CB.out (by omega)).chg CT.out (by omega));have DB6:=zH (DBx.out.chg CT.out (by omega));have AU26:=zH (autF.far (autF.far AU2'.out DB' CB.out) D1x CT.out);have AU16:=zH (autF.far (autF.far AU1'.out DB' CB.out) D1x CT.out);have G6:=zH (Zu (Zu G5.out CB.out (by omega)) CT.out (by omega));obtain ⟨w12,hw6⟩:∃y,Zm wx (w0.heap.size+1) 0 [.int .i64 s,.int .i64 (a4:Int)]=y:=⟨_,rfl⟩;have z6:gB+1≤w12.heap.size:=by have:=Z.out;rw [← hw6,← hwx];simp [Zm];omega
 rw [hw6] at D16 D06 D26 D36 DB6 G6 AU26 AU16;have Hw12:=zH hw6;have HWX:=zH hwx;clear g5 D0 D1 D2 D3 DB G4 D0' D2' D3' DB' D1' CT G5 hw6 ha4 z5 o2 AU2' CB DBx D1x hwx AU1 AU1';go_wp2_with fail;rw [show (w11.setCell ⟨gB,2,none⟩ (.slice A2 n2 c2)).setCell ⟨gB,3,none⟩ (.slice B2 m2 d2)=wx from HWX.out];rw [show (wx.setCell ⟨w0.heap.size+1,0,none⟩ (.int .i64 s)).setCell ⟨w0.heap.size+1,1,none⟩ (.int .i64 (a4:Int))=w12 from Hw12.out];clear f1 f2 f3 f4 e1 e2 e3 e4 k0 k1 Hw12 HWX Z;have D0:=D06;have D1:=D16;have D2:=D26;have D3:=D36;have DB:=DB6;have G4:=G6;have AU2:=AU26;have AU1:=AU16;clear AU16;have Z:=zH z6;clear D06 D16 D26 D36 DB6 G6 z6 AU26;obtain ⟨gT,hgT⟩:∃g,w0.heap.size+1=g:=⟨_,rfl⟩;have hgTB:gT<gB:=by omega
 have hw0T:w0.heap.size<gT:=by omega
 have hgL:gB<w12.heap.size:=by have:=Z.out;omega
 rw [hgT] at D1 D2 D3 ⊢;obtain ⟨a5,ha5⟩:∃z,a4+(al.length - 1)+(al.length - 1)=z:=⟨_,rfl⟩;obtain ⟨XY,hXY⟩:∃z,((x1:Int)*(y1:Int)) % (P:Int)=z:=⟨_,rfl⟩;have EXY:Hid (elemB (P:Int) XY=true):=by rw [← hXY];exact zH (Yg KF.out _)
 have HA5:=zH ha5;have HXY:=zH hXY;clear ha5 hXY
 refine Zg [.rd (.agg #[.int .i64 P,.slice A al.length c]),.rd (.pointer (some ⟨w0.heap.size,0,none⟩)),.rd (.int .i64 P),.rd (.int .i64 x1),.rd (.int .i64 y1),.fl (isV (.int .i64 XY)),.rd (.agg #[.int .i64 s,.int .i64 a4]),.fl (aTup w12.heap.size (ZL ⟨P,al⟩ P s a4 XY) (.agg #[.int .i64 s,.int .i64 (a5:Int)])),.fl (aTup w12.heap.size (ZL ⟨P,al⟩ P s a4 XY) (.agg #[.int .i64 s,.int .i64 (a5:Int)])),.fl (autF w12.heap.size (ZL ⟨P,al⟩ P s a4 XY)),.rd (.agg #[.int .i64 s,.int .i64 (a5:Int)]),.rd (.pointer (some ⟨gB,4,none⟩)),.ch,.ch] (fun z=>z=gB)
  [⟨[],fun _ w'=>w12.drew.grownBy w' none⟩,
   ⟨[],fun _ w'=>(∃A9 n9 c9 B9 k9 d9,autF w12.heap.size (ZL ⟨P,al⟩ P s a4 XY) (.agg #[.slice A9 n9 c9,.slice B9 k9 d9]) w'∧Blk w' gB 82 #[.slice A1 n1 c1,.slice B1 m1 d1,.slice A2 n2 c2,.slice B2 m2 d2,.slice A9 n9 c9,.slice B9 k9 d9])∧Chg (fun z=>z=gB) w12.drew w'⟩,
   ⟨[],fun _ w'=>(∃A9 n9 c9 B9 k9 d9,autF w12.heap.size (ZL ⟨P,al⟩ P s a4 XY) (.agg #[.slice A9 n9 c9,.slice B9 k9 d9]) w'∧Blk w' gB 82 #[.slice A1 n1 c1,.slice B1 m1 d1,.slice A2 n2 c2,.slice B2 m2 d2,.slice A9 n9 c9,.slice B9 k9 d9])∧Blk w' gT 41 #[.int .i64 s,.int .i64 (a5:Int)]∧Chg (fun z=>z=gB∨z=gT) w12.drew w'⟩]
  (by kernel_rfl) (by kernel_rfl) (by kernel_rfl) 2 (by kernel_rfl) ?_ (gbR _ _) rfl ?_ ?_
 ·have hst:Zw [⟨[],fun _ w'=>w12.drew.grownBy w' none⟩,
   ⟨[],fun _ w'=>(∃A9 n9 c9 B9 k9 d9,autF w12.heap.size (ZL ⟨P,al⟩ P s a4 XY) (.agg #[.slice A9 n9 c9,.slice B9 k9 d9]) w'∧Blk w' gB 82 #[.slice A1 n1 c1,.slice B1 m1 d1,.slice A2 n2 c2,.slice B2 m2 d2,.slice A9 n9 c9,.slice B9 k9 d9])∧Chg (fun z=>z=gB) w12.drew w'⟩,
   ⟨[],fun _ w'=>(∃A9 n9 c9 B9 k9 d9,autF w12.heap.size (ZL ⟨P,al⟩ P s a4 XY) (.agg #[.slice A9 n9 c9,.slice B9 k9 d9]) w'∧Blk w' gB 82 #[.slice A1 n1 c1,.slice B1 m1 d1,.slice A2 n2 c2,.slice B2 m2 d2,.slice A9 n9 c9,.slice B9 k9 d9])∧Blk w' gT 41 #[.int .i64 s,.int .i64 (a5:Int)]∧Chg (fun z=>z=gB∨z=gT) w12.drew w'⟩]:=by
   intro F hF;simp only [List.mem_cons,List.not_mem_nil,or_false] at hF
   rcases hF with rfl | rfl | rfl
   ·exact fun l w1 w2 h hg=>gbT h hg
   ·rintro l w1 w2 ⟨⟨A9,n9,c9,B9,k9,d9,h1,h2⟩,h3⟩ hg
    exact ⟨⟨A9,n9,c9,B9,k9,d9,h1.grow hg,h2.grow hg⟩,h3.trans (Chg.of hg (by simp))⟩
   ·rintro l w1 w2 ⟨⟨A9,n9,c9,B9,k9,d9,h1,h2⟩,h4,h3⟩ hg
    exact ⟨⟨A9,n9,c9,B9,k9,d9,h1.grow hg,h2.grow hg⟩,h4.grow hg,h3.trans (Chg.of hg (by simp))⟩
  simp only [flOk,true_and,and_true];exact ⟨⟨Zb _,hst⟩,⟨Jy,hst⟩,⟨Jy,hst⟩,ZR,hst⟩
 ·simp only [hopsK,hopK,Kd.next,and_true]
  refine ⟨?_, ?_, ?_, ?_, ?_, ?_, ?_, ?_, ?_, ?_, ?_, ?_, ?_, ?_⟩;rotate_left 5
  ·intro f w9 hG hd
   (try simp at hd)
   (first | simp [hd] | simp)
   clear hd;go_wp2_with fail;refine (WG P x1 y1 _ Ex1.out Ey1.out).mono ?_;rintro e w10 ⟨rfl,g10⟩;rw [HXY.out];have G10:=zH g10;clear g10;go_wp2_with fail;exact ⟨_,rfl,rfl,G10.out⟩
  rotate_left 1
  ·intro f w9 hG hd
   have hz:=hG.size;simp at hz;have kg:=zH (Zu (gbT G4.out (gbD (gbR w12 none))) hG (by omega))
   (try simp at hd)
   simp only [isV] at hd
   (first | simp [hd] | simp)
   clear hd;go_wp2_with fail;refine (Vj al P s a4 a5 XY _ w9 (AggR.grow HK0.out kg.out) WK.out KB.out EXY.out hs (by omega) HA5.out).mono ?_;rintro e w10 ⟨A9,n9,c9,B9,k9,d9,rfl,o2,g2⟩;have O2:=zH (autF.lo o2 hz);have G2:=zH g2;clear o2 g2 kg;go_wp2_with fail;exact ⟨_,rfl,⟨A9,n9,c9,B9,k9,d9,rfl,O2.out⟩,G2.out⟩
  ·intro f w9 hG hd
   (try simp at hd)
   obtain ⟨A9,n9,c9,B9,k9,d9,e2,o2⟩:=hd;simp [puts,dsts,Act.put,e2];go_wp2_with fail;exact ⟨_,rfl,⟨A9,n9,c9,B9,k9,d9,rfl,o2⟩,gbR _ _⟩
  ·intro f w9 hG hd
   (try simp at hd)
   obtain ⟨A9,n9,c9,B9,k9,d9,e2,o2⟩:=hd;simp [puts,dsts,Act.put,e2];go_wp2_with fail;exact ⟨_,rfl,o2,gbR _ _⟩
  ·intro f w9 hG hd
   (try simp at hd)
   obtain ⟨A9,n9,c9,B9,k9,d9,e2,o2⟩:=hd;simp [puts,dsts,Act.put,e2];go_wp2_with fail;exact ⟨rfl,rfl⟩
  rotate_left 1
  ·intro f w9 hG hI hd
   have hI:w12.drew.grownBy w9 none:=hI
   (try simp at hd)
   obtain ⟨e66,o2,_⟩:=hd;obtain ⟨A9,n9,c9,B9,k9,d9,e64⟩:=autF.form o2;rw [e64] at o2;have DBw:=DB.out.grow (gbT (gbD (gbR w12 none)) hI);have f4:=DBw.frozen 4;have f5:=DBw.frozen 5;have b4:=DBw.cell 4;have b5:=DBw.cell 5;simp at b4 b5;have CH:=Za gB [.slice A9 n9 c9,.slice B9 k9 d9] 4 w9;have RS:Hid (Blk (Zm w9 gB 4 [.slice A9 n9 c9,.slice B9 k9 d9]) gB 82 #[.slice A1 n1 c1,.slice B1 m1 d1,.slice A2 n2 c2,.slice B2 m2 d2,.slice A9 n9 c9,.slice B9 k9 d9]):=zH ((DBw.set_ 4 (.slice A9 n9 c9)).set_ 5 (.slice B9 k9 d9));have OS:=zH (autF.chg o2 CH hgL);have C1:=zH ((Chg.of (S:=fun z=>z=gB) hI (by simp)).trans CH);have K1:=zH (fun v (h:aTup w12.heap.size (ZL ⟨P,al⟩ P s a4 XY) (.agg #[.int .i64 s,.int .i64 (a5:Int)]) v w9)=>aTup_chg h CH hgL);have K2:=zH (fun v (h:autF w12.heap.size (ZL ⟨P,al⟩ P s a4 XY) v w9)=>autF.chg h CH hgL);have CH:=zH CH;clear o2 DBw;simp [puts,dsts,Act.put,e64,e66];go_wp2_with fail;exact ⟨rfl,⟨.bool false,⟨A9,n9,c9,B9,k9,d9,OS.out,RS.out⟩,C1.out⟩,CH.out,by simp [keepsC,dstAt];exact ⟨fun h=>h,K1.out _,K1.out _,K2.out _⟩⟩
  ·intro f w9 hG hI hd
   obtain ⟨⟨A9,n9,c9,B9,k9,d9,o2,B2⟩,C2⟩:=hI;have C2:Chg (fun z=>z=gB) w12.drew w9:=C2
   (try simp at hd)
   have e65:=hd.1;clear hd;have DTw:=(D1.out.grow (gbD (gbR w12 none))).chg C2 (by omega);have f0:=DTw.frozen 0;have f1:=DTw.frozen 1;have b0:=DTw.cell 0;have b1:=DTw.cell 1;simp at b0 b1;have RS:=zH (Zd DTw [.int .i64 s,.int .i64 (a5:Int)] rfl);have CH:=Za gT [.int .i64 s,.int .i64 (a5:Int)] 0 w9;have OS:=zH (autF.chg o2 CH (by omega));have BS:=zH (B2.chg CH (by omega));have CS:=zH ((C2.mono (T:=fun z=>z=gB∨z=gT) (fun z h=>.inl h)).trans (CH.mono (fun z h=>.inr h)));clear o2 B2 C2 CH DTw;simp [puts,dsts,Act.put,e65];go_wp2_with fail;exact ⟨rfl,.bool false,⟨A9,n9,c9,B9,k9,d9,OS.out,BS.out⟩,RS.out,CS.out⟩
  all_goals
   intro f w9 hG hd;have kg:=gbD (gbR w12 none);have k0:=((D0.out.grow kg).chg hG (by omega)).cell 0;have k1:=((D0.out.grow kg).chg hG (by omega)).cell 1;have k2:=((D1.out.grow kg).chg hG (by omega)).cell 0;have k3:=((D1.out.grow kg).chg hG (by omega)).cell 1;simp at k0 k1 k2 k3;clear kg
   (try simp at hd)
   (first | simp [hd] | simp)
   clear hd;go_wp2_with fail;exact ⟨rfl,rfl⟩
 intro f w13 hI hd;obtain ⟨⟨A9,n9,c9,B9,k9,d9,o2,B2⟩,T2,C2⟩:=hI;have C2:=chgDr C2;have AU1z:=zH (autF.chg2 AU1.out C2 (show gB<gB+1 by omega) (show gT<gB+1 by omega));have AU2z:=zH (autF.chg2 AU2.out C2 (show gB<gB+1 by omega) (show gT<gB+1 by omega));have AU3z:=zH (autF.lo o2 (show gB+1≤w12.heap.size by omega));have DA:=zH (D2.out.chg C2 (by omega));have DT:=zH (D3.out.chg C2 (by omega));have G9:=zH (gbChg G4.out C2 (fun z hz=>by rcases hz with hz | hz <;> omega));have b0:=B2.cell 0;have b1:=B2.cell 1;have b2:=B2.cell 2;have b3:=B2.cell 3;have b4:=B2.cell 4;have b5:=B2.cell 5;have t0:=T2.cell 0;have t1:=T2.cell 1;simp at b0 b1 b2 b3 b4 b5 t0 t1;clear o2 hd;simp only [puts,dsts,Act.put,zB,zC,zA,zD,zE];have BB:=zH B2;have TT:=zH T2;clear B2 T2 C2 D0 D1 D2 D3 DB AU1 AU2 G4 Z;go_wp2_with fail;obtain ⟨gA,hgA⟩:∃g,gT+1=g:=⟨_,rfl⟩;obtain ⟨gU,hgU⟩:∃g,gT+1+1=g:=⟨_,rfl⟩;rw [hgA] at DA;rw [hgU] at DT
 try rw [hgU]
 try rw [hgA]
 clear b0 b1 b2 b3 b4 b5 t0 t1
 refine Zg [.rd (.agg #[.slice A1 n1 c1,.slice B1 m1 d1,.slice A2 n2 c2,.slice B2 m2 d2,.slice A9 n9 c9,.slice B9 k9 d9]),.rd (.agg #[.int .i64 s,.int .i64 (a5:Int)]),.ch,.ch] (fun z=>z=gA)
  [⟨[],fun _ w'=>w'=w13.drew⟩,
   ⟨[],fun _ w'=>Blk w' gA 82 #[.slice A1 n1 c1,.slice B1 m1 d1,.slice A2 n2 c2,.slice B2 m2 d2,.slice A9 n9 c9,.slice B9 k9 d9]∧Chg (fun z=>z=gA) w13.drew w'⟩,
   ⟨[],fun _ w'=>Blk w' gA 82 #[.slice A1 n1 c1,.slice B1 m1 d1,.slice A2 n2 c2,.slice B2 m2 d2,.slice A9 n9 c9,.slice B9 k9 d9]∧Blk w' gU 41 #[.int .i64 s,.int .i64 (a5:Int)]∧Chg (fun z=>z=gA∨z=gU) w13.drew w'⟩]
  (by kernel_rfl) (by kernel_rfl) (by kernel_rfl) 2 (by kernel_rfl) (by simp only [flOk,and_true]) rfl rfl ?_ ?_
 ·simp only [hopsK,hopK,Kd.next,and_true]
  refine ⟨?_, ?_, ?_, ?_⟩
  ·intro f w10 hG hd
   have B4:=(BB.out.grow (gbD (gbR w13 none))).chg hG (by omega);have b0:=B4.cell 0;have b1:=B4.cell 1;have b2:=B4.cell 2;have b3:=B4.cell 3;have b4:=B4.cell 4;have b5:=B4.cell 5;simp at b0 b1 b2 b3 b4 b5;clear hd;simp [puts,dsts,Act.put];go_wp2_with fail;exact ⟨rfl,rfl⟩
  ·intro f w10 hG hd
   have B4:=(TT.out.grow (gbD (gbR w13 none))).chg hG (by omega);have b0:=B4.cell 0;have b1:=B4.cell 1;simp at b0 b1;clear hd;simp [puts,dsts,Act.put];go_wp2_with fail;exact ⟨rfl,rfl⟩
  ·intro f w10 hG hI hd
   have hI:w10=w13.drew:=hI;subst hI
   (try simp at hd)
   have e64:=hd;have R4:=DA.out.grow (gbD (gbR w13 none));have f0:=R4.frozen 0;have f1:=R4.frozen 1;have f2:=R4.frozen 2;have f3:=R4.frozen 3;have f4:=R4.frozen 4;have f5:=R4.frozen 5;have g0:=DA.out.frozen 0;have g1:=DA.out.frozen 1;have g2:=DA.out.frozen 2;have g3:=DA.out.frozen 3;have g4:=DA.out.frozen 4;have g5:=DA.out.frozen 5;have b0:=R4.cell 0;have b1:=R4.cell 1;have b2:=R4.cell 2;have b3:=R4.cell 3;have b4:=R4.cell 4;have b5:=R4.cell 5;simp at b0 b1 b2 b3 b4 b5;have RS:=zH ((Zd DA.out [.slice A1 n1 c1,.slice B1 m1 d1,.slice A2 n2 c2,.slice B2 m2 d2,.slice A9 n9 c9,.slice B9 k9 d9] rfl).grow (gbD (gbR _ _)));have CH:=zH (chgDD (Za gA [.slice A1 n1 c1,.slice B1 m1 d1,.slice A2 n2 c2,.slice B2 m2 d2,.slice A9 n9 c9,.slice B9 k9 d9] 0 w13));simp only [Zm,Nat.zero_add,Nat.reduceAdd] at RS CH;clear hd R4;simp [puts,dsts,Act.put,e64];go_wp2_with fail;exact ⟨rfl,⟨.bool false,RS.out,CH.out⟩,CH.out,by simp [keepsC]⟩
  ·intro f w10 hG hI hd
   obtain ⟨B2,C2⟩:=hI;have C2:Chg (fun z=>z=gA) w13.drew w10:=C2
   (try simp at hd)
   have e65:=hd.1;have R4:=(DT.out.grow (gbD (gbR w13 none))).chg C2 (by omega);have f0:=R4.frozen 0;have f1:=R4.frozen 1;have b0:=R4.cell 0;have b1:=R4.cell 1;simp at b0 b1;have RS:=zH (Zd R4 [.int .i64 s,.int .i64 (a5:Int)] rfl);have CH:=Za gU [.int .i64 s,.int .i64 (a5:Int)] 0 w10;have BS:=zH (B2.chg CH (by omega));have CS:=zH ((C2.mono (T:=fun z=>z=gA∨z=gU) (fun z h=>.inl h)).trans (CH.mono (fun z h=>.inr h)));clear hd R4 B2 C2 CH;simp [puts,dsts,Act.put,e65];go_wp2_with fail;exact ⟨rfl,.bool false,BS.out,RS.out,CS.out⟩
 intro f w14 hI hd;obtain ⟨BA,BU,C3⟩:=hI;have C3:=chgDr C3;have Q1:=zH (autF.far2 AU1z.out DA.out DT.out C3);have Q2:=zH (autF.far2 AU2z.out DA.out DT.out C3);have Q3:=zH (autF.far2 AU3z.out DA.out DT.out C3);have GZ:=zH (gbChg G9.out C3 (fun z hz=>by rcases hz with hz | hz <;> omega));clear hd;simp only [puts,dsts,Act.put,zB,zC,zA,zD,zE];go_wp2_with fail;refine ret_cc Tryz.results55 (by rfl) stTriple (cs:=#[.slice A1 n1 c1,.slice B1 m1 d1,.slice A2 n2 c2,.slice B2 m2 d2,.slice A9 n9 c9,.slice B9 k9 d9]) BA (by rfl) (by rfl) stTape (ds:=#[.int .i64 s,.int .i64 (a5:Int)]) BU (by rfl) (by rfl) ?_
 have e:Ys ⟨(P:Int),al⟩ P s a=⟨ZL ⟨(P:Int),al⟩ P s a2 x1,ZL ⟨(P:Int),al⟩ P s a3 y1,ZL ⟨(P:Int),al⟩ P s a4 XY⟩:=by
  have q1:a+2=a2:=by have:=Ha1.out;have:=Ha2.out;omega
  have q2:a+2+2*(al.length - 1)=a3:=by have:=Ha3.out;omega
  have q3:a+2+4*(al.length - 1)=a4:=by have:=Ha3.out;have:=Ha4.out;omega
  have q4:tnA s a P=x1:=Hx1.out;have q5:tnB s a P=y1:=by unfold tnB;rw [Ha1.out];exact Hy1.out
  unfold Ys;simp only;rw [q2,q3,q1,q4,q5,HXY.out]
 refine ⟨.agg #[.slice A1 n1 c1,.slice B1 m1 d1,.slice A2 n2 c2,.slice B2 m2 d2,.slice A9 n9 c9,.slice B9 k9 d9], ?_, ?_,GZ.out⟩
 ·have q:a+2+6*(al.length - 1)=a5:=by have:=Ha1.out;have:=Ha2.out;have:=Ha3.out;have:=Ha4.out;have:=HA5.out;omega
  rw [q]
 ·rw [e]
  exact ⟨_,rfl,OwnE.append (OwnE.aut (vs:=[_,_]) Q1.out) (OwnE.append (OwnE.aut (vs:=[_,_]) Q2.out) (OwnE.aut (vs:=[_,_]) Q3.out))⟩
end Go.Proofs.YthaadgdeadbhkaaGreat
