/-
 EngineOk of the reference.
-/
import Derived.Test.YthaadgdeadbhkaaGreatMgFnExactCountOutcomes39
import Derived.Lib.AppendZerosOnto
open Go.RowKit
set_option linter.unusedVariables false
set_option linter.unusedSimpArgs false
namespace Go.Proofs.YthaadgdeadbhkaaGreat
set_option maxHeartbeats 4000000 in
set_option maxRecDepth 100000 in
theorem specEngineOk_c (m:EM) (v:Value) (w0:World) (h:AggR w0 (Zf m) v) (wm:ewf m) :
  Calls Tryz.prog 107 #[v] w0 fun e w'=>e=.returned (.bool (engOkB m))∧w0.grownBy w' none:=by
 obtain ⟨A,B,C,D,E,a,b,c,d,e,rfl,hR⟩:=Yk h;obtain ⟨w1,hw1⟩:∃x:World,w0.alloc (.cells #[.int .i64 m.k.p,.slice A m.k.al.length a,.int .i64 m.c.p,.slice B m.c.st.length b,.slice C m.c.outs.length c,.slice D m.vs.length d,.slice E m.op.length e,.int .i64 m.rd,.bool m.bad] 58)=x:=⟨_,rfl⟩;have GW:Hid (w0.grownBy w1 none):=by rw [← hw1];exact gbA (gbR _ _) _
 have D1:Hid (Blk w1 w0.heap.size 58 #[.int .i64 m.k.p,.slice A m.k.al.length a,.int .i64 m.c.p,.slice B m.c.st.length b,.slice C m.c.outs.length c,.slice D m.vs.length d,.slice E m.op.length e,.int .i64 m.rd,.bool m.bad]):=by rw [← hw1];exact Blk.new w0 _ _
 have R1:=zH (hR.grow GW.out);have WM:=zH wm;have HB:Hid (engOkB m=(keysB m.k&&arithB m.c&&(m.k.p == m.c.p)&&decide (m.vs.length=m.c.st.length)&&inQ m.rd 0 60&&m.vs.all (okV m.k))):=rfl;obtain ⟨n,hn⟩:∃n,m.vs.length=n:=⟨_,rfl⟩;have hn20:n≤1048576:=by have:=wm.n;omega
 have LN:=zH hn;rw [hn] at D1 HB hw1;clear h hR wm
 go_enter Tryz.func107,Tryz.ntmps107
 rw [LN.out];have k0:=D1.out.cell 0;have k1:=D1.out.cell 1;simp at k0 k1;go_wp2_with fail;clear hw1 k0 k1 hn;refine (YP m.k _ _ R1.out.ky WM.out.k).mono ?_;rintro e w2 ⟨rfl,g2⟩
 cases b1:keysB m.k
 ·rw [b1] at HB
  have G2:=zH (gbT GW.out g2);clear g2;go_wp2_with fail;go_ret;exact ⟨retB (by rw [HB.out];rfl),G2.out⟩
 have x0:=(D1.out.grow g2).cell 2;have x1:=(D1.out.grow g2).cell 3;have x2:=(D1.out.grow g2).cell 4;simp at x0 x1 x2;have G2:=zH g2;have KB:=zH b1;rw [b1] at HB;clear g2 b1;go_wp2_with fail;clear x0 x1 x2;refine (Yd m.c _ _ (R1.out.ar.grow G2.out) WM.out.c.wf).mono ?_;rintro e w3 ⟨rfl,g3⟩
 cases b2:arithB m.c
 ·rw [b2] at HB
  have G3:=zH (gbT GW.out (gbT G2.out g3));clear g3;go_wp2_with fail;go_ret;exact ⟨retB (by rw [HB.out];rfl),G3.out⟩
 have G3:=zH (gbT G2.out g3);rw [b2] at HB;clear g3 b2 G2;have y0:=(D1.out.grow G3.out).cell 0;have y2:=(D1.out.grow G3.out).cell 2;have y3:=(D1.out.grow G3.out).cell 3;have y5:=(D1.out.grow G3.out).cell 5;have y7:=(D1.out.grow G3.out).cell 7;simp at y0 y2 y3 y5 y7
 cases b3:(m.k.p == m.c.p)
 ·rw [b3] at HB
  have n3:(m.k.p != m.c.p)=true:=by rw [bne,b3];rfl
  have G4:=zH (gbT GW.out G3.out);clear b3;go_wp2_with fail;go_ret;exact ⟨retB (by rw [HB.out];rfl),G4.out⟩
 have n3:(m.k.p != m.c.p)=false:=by rw [bne,b3];rfl
 rw [b3] at HB;clear b3
 cases b4:decide (n=m.c.st.length)
 ·rw [b4] at HB
  have n4:((n:Int) != (m.c.st.length:Int))=true:=by simp at b4;simp;omega
  have G4:=zH (gbT GW.out G3.out);clear b4;go_wp2_with fail;go_ret;exact ⟨retB (by rw [HB.out];rfl),G4.out⟩
 have n4:((n:Int) != (m.c.st.length:Int))=false:=by simp at b4;simp;omega
 rw [b4] at HB;clear b4;go_wp2_with fail;refine (YX m.rd 0 60 _).mono ?_;rintro e w4 ⟨rfl,rfl⟩
 cases b5:inQ m.rd 0 60
 ·rw [b5] at HB
  have G4:=zH (gbT GW.out G3.out);clear b5;go_wp2_with fail;go_ret;exact ⟨retB (by rw [HB.out];rfl),G4.out⟩
 rw [b5] at HB;simp only [Bool.and_true,Bool.true_and] at HB;clear b5;have P0:=zH (CS.grow _ R1.out.va G3.out);rw [LN.out] at P0;have B3:=zH (D1.out.grow G3.out);have GZ:=zH (gbT GW.out G3.out);go_wp2_with fail;clear n3 n4 y0 y2 y3 y5 y7
 go_loopw [3] (fun i wr=>∃k:Nat,k≤n∧i=.int .i64 k∧Hid (∀q,q<k→okV m.k (getA m.vs q)=true)∧Hid (w3.grownBy wr none)) (fun i _=>n - (intOf i).toNat)
 case atStart=>exact ⟨0,Nat.zero_le _,rfl,zH (fun q hq=>by omega),zH (gbR _ _)⟩
 case round =>
  obtain ⟨k,hk,rfl,hO,hG⟩:=hrel
  by_cases hlt:k<n
  ·have i1:(k:Int)<(n:Int):=by omega
   obtain ⟨b,o,x,Bx,dx,Cx,fx,rfl,hb,hx,q0,q1,hX⟩:=Yx (CS.grow _ P0.out hG.out) hlt;have hxg:getA m.vs k=x:=by unfold getA;rw [zF,hx];rfl
   have WX:=zH (WM.out.vs x (List.mem_of_getElem? hx));have HXG:=zH hxg;have HMX:=zH (List.mem_of_getElem? hx);have HX:=zH hX;clear hx hX hxg;have B4:=B3.out.grow hG.out;have e0:=B4.cell 0;have e1:=B4.cell 1;have e5:=B4.cell 5;simp only [List.getElem?_toArray,List.getElem?_cons_succ,List.getElem?_cons_zero] at e0 e1 e5;have e0':=fun o=>kA e0 o;have e1':=fun o=>kA e1 o;clear B4;have i3:=WX.out.1;have i4:=WX.out.2
   cases hz:zeroA x
   ·have HZ:=zH hz
    have h9:¬(x.sh.length=0∧x.mc.length=0):=fun ⟨h1,h2⟩=>by
     unfold zeroA at hz;rw [h1,h2] at hz;simp at hz
    have i2:0<(x.sh.length:Int)+(x.mc.length:Int):=by omega
    clear hz;go_wp2_with fail;clear e0 e1 e5 e0' e1' q0 q1;have GY:=zH (gbA (gbR wr none) (.cells #[.slice Bx x.sh.length dx,.slice Cx x.mc.length fx] 80));refine (ZY m.k x _ _ _ (R1.out.ky.grow (gbT G3.out (gbT hG.out GY.out))) (HX.out.grow GY.out) WM.out.k WX.out).mono ?_;rintro e w6 ⟨rfl,g6⟩;have G6:=zH (gbT hG.out (gbT GY.out g6));clear g6
    cases hfx:formB m.k x
    ·have hno:(m.vs.all (okV m.k))=false:=by
      rw [List.all_eq_false];exact ⟨x,HMX.out,by unfold okV;rw [HZ.out,hfx];decide⟩
     rw [hno] at HB;have G7:=zH (gbT GZ.out G6.out);clear hno hfx;go_wp2_with fail;go_ret;exact ⟨retB HB.out.symm,G7.out⟩
    ·have O2:Hid (∀q,q<k+1→okV m.k (getA m.vs q)=true):=zH (fun q hq=>by
      by_cases e:q=k
      ·subst e;rw [HXG.out];unfold okV;rw [hfx,Bool.or_true]
      ·exact hO.out q (by omega))
     clear hfx;go_wp2_with fail
     go_roundw
     case rel=>exact ⟨k+1,by omega,by go_num,O2,G6⟩
     case measure=>simp [intOf];omega
   ·have O2:Hid (∀q,q<k+1→okV m.k (getA m.vs q)=true):=zH (fun q hq=>by
     by_cases e:q=k
     ·subst e;rw [HXG.out];exact UN hz
     ·exact hO.out q (by omega))
    have i2:¬0<(x.sh.length:Int)+(x.mc.length:Int):=by
     unfold zeroA at hz;simp at hz;obtain ⟨h1,h2⟩:=hz;rw [h1,h2];simp
    have G6:=zH (gbA hG.out (.cells #[.slice Bx x.sh.length dx,.slice Cx x.mc.length fx] 80));clear hz;go_wp2_with fail;clear e0 e1 e5 e0' e1' q0 q1
    go_roundw
    case rel=>exact ⟨k+1,by omega,by go_num,O2,G6⟩
    case measure=>simp [intOf];omega
  ·have e5:=(B3.out.grow hG.out).cell 5
   simp only [List.getElem?_toArray,List.getElem?_cons_succ,List.getElem?_cons_zero] at e5;have hkn:k=n:=by omega
   subst hkn
   have hyes:(m.vs.all (okV m.k))=true:=by
    rw [List.all_eq_true];intro x hx;obtain ⟨i,hi,rfl⟩:=List.getElem_of_mem hx;have:=hO.out i (by rw [← LN.out];exact hi);unfold getA at this;rw [zF,List.getElem?_eq_getElem hi] at this;exact this
   rw [hyes] at HB;have G7:=zH (gbT GZ.out hG.out);go_wp2_with fail;go_ret;exact ⟨retB HB.out.symm,G7.out⟩
def keyO (lo:Nat) (k:KM) (v:Value) (w:World):Prop:=∃A c,v=.agg #[.int .i64 k.p,.slice A k.al.length c]∧w.ownsRow lo 3 1 (.slice A k.al.length c) k.al.length (k.al.map (Value.int .i64))
def arO (lo:Nat) (m:AM) (v:Value) (w:World):Prop:=∃A c B d,v=.agg #[.int .i64 m.p,.slice A m.st.length c,.slice B m.outs.length d]∧w.ownsRow lo 102 3 (.slice A m.st.length c) m.st.length (m.st.flatMap c3)∧w.ownsRow lo 3 1 (.slice B m.outs.length d) m.outs.length (m.outs.map (Value.int .i64))
theorem keyO.of {lo:Nat} {k:KM} {v:Value} {w:World} (h:aggF lo (ckeys k) v w):keyO lo k v w:=by
 obtain ⟨F,h1,h2⟩:=h;obtain ⟨u1,F1,rfl,rfl,o1⟩:=ckeys_oopen h1;obtain ⟨A,c,rfl,rfl,hr⟩:=UB o1;exact ⟨A,c,rfl,hr lo (fun g hg=>h2 g (by simpa using hg))⟩
theorem arO.of {lo:Nat} {m:AM} {v:Value} {w:World} (h:aggF lo (carith m) v w):arO lo m v w:=by
 obtain ⟨F,h1,h2⟩:=h;obtain ⟨u1,u2,F1,F2,rfl,rfl,o1,o2,d⟩:=Qy h1;obtain ⟨A,c,rfl,rfl,hr⟩:=QX (s:=3) (fun _=>rfl) (by omega) o1;obtain ⟨B,e,rfl,rfl,hs⟩:=UB o2;exact ⟨A,c,B,e,rfl,hr lo (fun g hg=>h2 g (by simp [hg])),hs lo (fun g hg=>h2 g (by simp [hg]))⟩
theorem keyO.typ {lo:Nat} {k:KM} {v:Value} {w w':World} {S:Nat→Prop} (h:keyO lo k v w) (q:Chg S w w') (hS:∀g,S g→g<w.heap.size→∃T us,Blk w g T us∧T≠3):keyO lo k v w':=by
 obtain ⟨A,c,e,h1⟩:=h;exact ⟨A,c,e,Um h1 q hS⟩
theorem arO.typ {lo:Nat} {m:AM} {v:Value} {w w':World} {S:Nat→Prop} (h:arO lo m v w) (q:Chg S w w') (hS:∀g,S g→g<w.heap.size→∃T us,Blk w g T us∧T≠3∧T≠102):arO lo m v w':=by
 obtain ⟨A,c,B,d,e,h1,h2⟩:=h;refine ⟨A,c,B,d,e,Um h1 q (fun g a b => ?_),Um h2 q (fun g a b => ?_)⟩
 ·obtain ⟨T,us,hB,_,h4⟩:=hS g a b;exact ⟨T,us,hB,h4⟩
 ·obtain ⟨T,us,hB,h3,_⟩:=hS g a b;exact ⟨T,us,hB,h3⟩
section
variable {Wn lo gK:Nat} {m:EM} {kv cv ov:Value}
end
theorem specOpenAdd_y (p:Int) (A:Option Addr) (n c:Nat) (zs:List Int) (w:World) (h:elemsB p zs=true) (hx:Ints w A n zs) (h1:1≤n) (h5:n≤5) :
  Calls Tryz.prog 108 #[.int .i64 p,.slice A n c] w fun e w'=>e=.returned (.int .i64 (fsum p zs))∧w=w':=by
 have HE:=zH h;have HX:=zH hx;have q1:=zH (YE (z:=(n:Int)) (a:=1) (b:=5) (by omega) (by omega));clear h hx
 go_enter Tryz.func108,Tryz.ntmps108
 go_wp2_with fail;refine (YX n 1 5 _).mono ?_;rintro e w1 ⟨rfl,rfl⟩;rw [q1.out];go_wp2_with fail;refine (XV p A n c zs _ HE.out HX.out (by omega)).mono ?_;rintro e w1 ⟨rfl,rfl⟩;go_wp2_with fail;go_ret;exact ⟨rfl,rfl⟩
theorem specOpenAdd_n (p:Int) (A:Option Addr) (c:Nat) (w:World) :
  Calls Tryz.prog 108 #[.int .i64 p,.slice A 0 c] w fun e w'=>e=.returned (.int .i64 (-1))∧w=w':=by
 have q1:=zH (show inQ (0:Int) 1 5=false by decide)
 go_enter Tryz.func108,Tryz.ntmps108
 go_wp2_with fail;refine (YX 0 1 5 _).mono ?_;rintro e w1 ⟨rfl,rfl⟩;rw [q1.out];go_wp2_with fail;go_ret;exact ⟨rfl,rfl⟩
theorem cauth_ints {w:World} {a:AuM} {B C:Option Addr} {n d m f:Nat} (h:AggR w (cauth a) (.agg #[.slice B n d,.slice C m f])):Ints w B a.sh.length a.sh:=by
 obtain ⟨A9,c9,B9,d9,e9,_,_,_,_,h9,_⟩:=ZO h;simp at e9;obtain ⟨⟨rfl,_,_⟩,_⟩:=e9;exact h9
theorem OutJ.noS {m:EM} {w w':World} {V:Value} (h:outB m=false) (ho:w'.ownsRow w.heap.size 3 1 V 0 []) (hg:w.grownBy w' none):OutJ m w (.returned (.tuple #[V,.bool false])) w':=by
 refine ⟨_,by rw [h], ?_,hg⟩;unfold outR;rw [h];exact ho
set_option maxHeartbeats 4000000 in
set_option maxRecDepth 100000 in
theorem Ws (m:EM) (v:Value) (w0:World) (h:AggR w0 (Zf m) v) (wm:ewf m) :
  Calls Tryz.prog 47 #[v] w0 (OutJ m w0):=by
 obtain ⟨A,B,C,D,E,a,b,c,d,e,rfl,hR⟩:=Yk h;obtain ⟨w1,hw1⟩:∃x:World,w0.alloc (.cells #[.int .i64 m.k.p,.slice A m.k.al.length a,.int .i64 m.c.p,.slice B m.c.st.length b,.slice C m.c.outs.length c,.slice D m.vs.length d,.slice E m.op.length e,.int .i64 m.rd,.bool m.bad] 58)=x:=⟨_,rfl⟩;have GW:Hid (w0.grownBy w1 none):=by rw [← hw1];exact gbA (gbR _ _) _
 have D1:Hid (Blk w1 w0.heap.size 58 #[.int .i64 m.k.p,.slice A m.k.al.length a,.int .i64 m.c.p,.slice B m.c.st.length b,.slice C m.c.outs.length c,.slice D m.vs.length d,.slice E m.op.length e,.int .i64 m.rd,.bool m.bad]):=by rw [← hw1];exact Blk.new w0 _ _
 have R1:=zH (hR.grow GW.out);have WM:=zH wm;have HB:Hid (outB m=(engOkB m&&!m.bad&&m.c.outs.all fun z=>out1 m z.toNat)):=rfl;clear h hR wm
 go_enter Tryz.func47,Tryz.ntmps47
 obtain ⟨k0,k1,k2,k3,k4,k5,k6,k7,k8⟩:=D1.out.c9;have k0':=fun o=>kA k0 o;have k1':=fun o=>kA k1 o;have k2':=fun o=>kA k2 o;have k3':=fun o=>kA k3 o;have k4':=fun o=>kA k4 o;have k5':=fun o=>kA k5 o;have k6':=fun o=>kA k6 o;have k7':=fun o=>kA k7 o;have k8':=fun o=>kA k8 o;go_wp2_with fail;clear k0' k1' k2' k3' k4' k5' k6' k7' k8';clear hw1 k0 k1 k2 k3 k4 k5 k6 k7 k8;obtain ⟨wb,hwb⟩:∃x:World,w1.alloc (.cells #[] 3)=x:=⟨_,rfl⟩;rw [hwb];have OWB:Hid (wb.ownsRow w1.heap.size 3 1 (.slice (some ⟨w1.heap.size,0,none⟩) 0 0) 0 []):=by rw [← hwb];exact zH (World.ownsRow_made w1 #[] 0 (Nat.le_refl _) (by simp) rfl)
 have GB:Hid (w1.grownBy wb none):=by rw [← hwb];exact gbA (gbR _ _) _
 refine (specEngineOk_c m _ _ (R1.out.grow GB.out).al9 WM.out).mono ?_;rintro e' w2 ⟨rfl,g2⟩;have G2:=zH (gbT GB.out g2);have GZ:=zH (gbT GW.out G2.out);have OW2:=zH (Zj OWB.out g2);have e8:=(D1.out.grow G2.out).cell 8;simp at e8;clear g2 hwb OWB GB
 cases b1:engOkB m
 ·rw [b1] at HB
  clear e8 b1;go_wp2_with fail;refine bodyPost_ret (v:=.tuple #[.slice (some ⟨w1.heap.size,0,none⟩) 0 0,.bool false]) (by simp [results,Tryz.results47]) rfl ?_;exact OutJ.noS (by rw [HB.out];rfl) (ZE OW2.out GW.out.size) GZ.out
 have OKB:=zH (XD b1);rw [b1] at HB;clear b1
 cases b2:m.bad
 rotate_left
 ·rw [b2] at HB
  rw [b2] at e8;clear b2;go_wp2_with fail;refine bodyPost_ret (v:=.tuple #[.slice (some ⟨w1.heap.size,0,none⟩) 0 0,.bool false]) (by simp [results,Tryz.results47]) rfl ?_;exact OutJ.noS (by rw [HB.out];rfl) (ZE OW2.out GW.out.size) GZ.out
 rw [b2] at HB e8;simp only [Bool.not_false,Bool.and_true,Bool.true_and] at HB;obtain ⟨nO,hnO⟩:∃n,m.c.outs.length=n:=⟨_,rfl⟩;obtain ⟨n,hn⟩:∃n,m.vs.length=n:=⟨_,rfl⟩;have B2:=zH D1.out;rw [hnO,hn] at B2;have LO:=zH hnO;have LN:=zH hn;have hO20:nO≤1048576:=by have:=WM.out.c.outs;omega
 have hn60:n≤60:=by have:=OKB.out.2.1.few;have:=OKB.out.2.2.2.1;omega
 have e4:=(B2.out.grow G2.out).cell 4;simp at e4;have e4':=fun o=>kA e4 o;have P0:=zH (R1.out.va);rw [LN.out] at P0;have O0:=zH (R1.out.ou);rw [LO.out] at O0;have K2:=zH (R1.out.ky);clear D1 hnO hn R1;have hbd:=zH b2;clear b2;go_wp2_with fail
 go_loopw [4,5] (fun v i wr=>∃k:Nat,k≤nO∧i=.int .i64 k∧Hid (wr.ownsRow w1.heap.size 3 1 v k ((outTo m k).map (Value.int .i64)))∧Hid (∀q,q<k→out1 m (m.c.outs.getD q 0).toNat=true)∧Hid (w1.grownBy wr none)) (fun _ i _=>nO - (intOf i).toNat)
 case atStart=>exact ⟨0,Nat.zero_le _,rfl,by unfold outTo;exact OW2,zH (fun q hq=>by omega),G2⟩
 clear e4 e4'
 case round =>
  obtain ⟨k,hk,rfl,hown,hO,hG⟩:=hrel;have e4r:=(B2.out.grow hG.out).cell 4;simp only [List.getElem?_toArray,List.getElem?_cons_succ,List.getElem?_cons_zero] at e4r
  by_cases hlt:k<nO
  ·have i1:(k:Int)<(nO:Int):=by omega
   obtain ⟨z,hz,hzn⟩:=outs_at OKB.out.2.1 (j:=k) (by rw [LO.out];exact hlt);have hzn:z<n:=by have:=OKB.out.2.2.2.1;have:=LN.out;omega
   have i2:(z:Int)<(n:Int):=by omega
   obtain ⟨ob,oo,rfl,hob,hoc⟩:=(O0.out.grow hG.out).at_ (by omega);have oc:=hoc k hlt;rw [hz] at oc;have OC:=zH oc;obtain ⟨b,o,x,Bx,dx,Cx,fx,rfl,hb,hx,q0,q1,hX⟩:=Yx (CS.grow _ P0.out hG.out) hzn;have hxg:getA m.vs z=x:=by unfold getA;rw [zF,hx];rfl
   have WX:=zH (WM.out.vs x (List.mem_of_getElem? hx));have HXG:=zH hxg;have HX:=zH hX;have HZ9:=zH hz;have OKX:=OKB.out.2.2.2.2.2 z;rw [hxg] at OKX;have EX:=zH (okV_el OKB.out.1 OKX);have OKX:=zH OKX;have Q0:=zH q0;have Q1:=zH q1;have C0:=zH ((B2.out.grow hG.out).cell 0);have C1:=zH ((B2.out.grow hG.out).cell 1);have C5:=zH ((B2.out.grow hG.out).cell 5);simp only [List.getElem?_toArray,List.getElem?_cons_succ,List.getElem?_cons_zero] at C0 C1 C5;have KW:=zH (K2.out.grow hG.out);have HO1:Hid (out1 m z=(!zeroA x&&Ye m.k (fsum m.k.p x.sh) x)):=by unfold Hid out1;rw [hxg]
   clear hoc hx hX hxg hz q0 q1;go_wp2_with fail;clear oc e4r;have C2:=zH ((B2.out.grow hG.out).cell 4);simp only [List.getElem?_toArray,List.getElem?_cons_succ,List.getElem?_cons_zero] at C2
   refine Zg [.rd (.pointer (some ⟨w0.heap.size,5,none⟩)),.rd (.slice (some ⟨b,o,none⟩) n d),.rd (.pointer (some ⟨w0.heap.size,2,none⟩)),.rd (.pointer (some ⟨w0.heap.size,4,none⟩)),.rd (.slice (some ⟨ob,oo,none⟩) nO c),.rd (.int .i64 k),.rd (.pointer (some ⟨ob,oo+k,none⟩)),.rd (.int .i64 z),.rd (.pointer (some ⟨b,o+z*2,none⟩)),.rd (.agg #[.slice Bx x.sh.length dx,.slice Cx x.mc.length fx]),.ch,.ch] (fun _=>False)
    [⟨[],fun _ w'=>wr.drew.grownBy w' none⟩,
     ⟨[6],fun l w'=>(∃g,l.getD 0 undef=.pointer (some ⟨g,0,none⟩)∧wr.heap.size≤g∧Blk w' g 80 #[.slice none 0 0,.slice none 0 0])∧wr.grownBy w' none⟩,
     ⟨[6],fun l w'=>(∃g,l.getD 0 undef=.pointer (some ⟨g,0,none⟩)∧wr.heap.size≤g∧Blk w' g 80 #[.slice Bx x.sh.length dx,.slice Cx x.mc.length fx])∧wr.grownBy w' none⟩]
    (by kernel_rfl) (by kernel_rfl) (by kernel_rfl) 2 (by kernel_rfl) (by simp only [flOk,and_true]) (gbR _ _) rfl ?_ ?_
   ·simp only [hopsK,hopK,Kd.next,and_true]
    refine ⟨?_, ?_, ?_, ?_, ?_, ?_, ?_, ?_, ?_, ?_, ?_, ?_⟩;rotate_left 10
    ·intro f w4 hG hI hd
     have hg4:=gbT (gbD (gbR wr none)) (chgF hG);have hz4:=hg4.size;clear hd;simp [puts,dsts,Act.put];go_wp2_with fail;exact ⟨_,rfl,⟨⟨_,rfl,hz4,Blk.new _ _ _⟩,gbA hg4 _⟩,⟨Chg.of (gbA (gbR _ none) _) (by simp),by simp [keepsC,dstAt]⟩⟩
    ·intro f w4 hG hI hd
     have hg4:=gbT (gbD (gbR wr none)) (chgF hG);have hz4:=hg4.size;obtain ⟨⟨g6,e6,hg6,R4⟩,hI⟩:=hI;have e6:f 6=.pointer (some ⟨g6,0,none⟩):=e6
     (try simp [depsC,dstAt,kAt,bindE,List.filter_cons,Zz,Zq,Zr,Zs,ZA,ZW] at hd)
     have f0:=R4.frozen 0;have f1:=R4.frozen 1;have b0:=R4.cell 0;have b1:=R4.cell 1;simp at b0 b1;have RS:=zH (Yf R4 (.slice Bx x.sh.length dx) (.slice Cx x.mc.length fx));have GS:=zH (Zu hg4 (Za g6 [.slice Bx x.sh.length dx,.slice Cx x.mc.length fx] 0 w4) hg6);clear R4 hI;simp [puts,dsts,Act.put,e6,hd];clear hd;go_wp2_with fail;exact ⟨rfl,.bool false,⟨g6,e6,hg6,RS.out⟩,GS.out⟩
    all_goals
     intro f w4 hG hd;have hg4:=gbT (gbD (gbR wr none)) (chgF hG);have k0:=gbk hg4 (C0.out);have k1:=gbk hg4 (C1.out);have k2:=gbk hg4 (C2.out);have k3:=gbk hg4 (C5.out);have k4:=gbk hg4 (Q0.out);have k5:=gbk hg4 (Q1.out);have k6:=gbk hg4 (OC.out)
     (try simp [depsC,dstAt,kAt,bindE,List.filter_cons,Zz,Zq,Zr,Zs,ZA,ZW] at hd)
     (first | simp [puts,dsts,Act.put,hd] | simp [puts,dsts,Act.put])
     clear hd;go_wp2_with fail;exact ⟨rfl,rfl⟩
   intro f w5 hI hd;simp only [puts,dsts,Act.put,zB,zC,zA,zD,zE];obtain ⟨⟨g6,e6,hg6,B6⟩,g5⟩:=hI;have e6:f 6=.pointer (some ⟨g6,0,none⟩):=e6;rw [e6];have C0':=zH (gbk g5 C0.out);have C1':=zH (gbk g5 C1.out);have KW':=zH (KW.out.grow g5);have HX':=zH (HX.out.grow g5);have A0':=zH (B6.cell 0);have A1':=zH (B6.cell 1);simp at A0' A1';have GA:=zH (gbT hG.out g5);have OW1:=zH (Zj hown.out g5);clear g5 e6 hd B6 C0 C1 C2 C5 KW HX hown OC
   cases hz:zeroA x
   rotate_left
   ·rw [hz] at HO1
    have hno:outB m=false:=by
     rw [HB.out,List.all_eq_false];exact ⟨m.c.outs.getD k 0,Wv (by rw [LO.out];exact hlt),by rw [HZ9.out,Int.toNat_natCast,HO1.out];simp⟩
    have HNO:=zH hno;have hz0:x.sh.length=0:=by unfold zeroA at hz;simp at hz;rw [hz.1];rfl
    have HZ0:=zH hz0;clear hno hz hz0;have c0p:=C0'.out;have a0p:=A0'.out;go_wp2_with fail;clear c0p a0p;rw [HZ0.out];refine (specOpenAdd_n m.k.p Bx dx w5).mono ?_;rintro e w6 ⟨rfl,rfl⟩;have A0'':=zH A0'.out;have G6:=GA;rw [HZ0.out] at A0'';have a0p:=A0''.out;have G9:=zH (gbT GW.out G6.out);go_wp2_with fail;refine bodyPost_ret (v:=.tuple #[.slice (some ⟨w5.heap.size,0,none⟩) 0 0,.bool false]) (by simp [results,Tryz.results47]) rfl ?_;exact OutJ.noS HNO.out (World.ownsRow_made w5 #[] 0 G9.out.size (by simp) rfl) (gbA G9.out _)
   obtain ⟨val,hval⟩:∃q,fsum m.k.p x.sh=q:=⟨_,rfl⟩;rw [hz,Bool.not_false,Bool.true_and,hval] at HO1;have HVAL:=zH hval
   have hl5:1≤x.sh.length∧x.sh.length≤5:=by
    have:=OKX.out;unfold okV at this;rw [hz,Bool.false_or] at this;have:=Yb this;omega
   have hl1:=hl5.1;have hl5:=hl5.2;clear hz hval;have IS:=zH (cauth_ints HX'.out);have c0p:=C0'.out;have a0p:=A0'.out;go_wp2_with fail;clear c0p a0p;refine (specOpenAdd_y m.k.p Bx x.sh.length dx x.sh w5 EX.out IS.out hl1 hl5).mono ?_;rintro e w6 ⟨rfl,rfl⟩;rw [HVAL.out];have c0p:=C0'.out;have c1p:=C1'.out;have a0p:=A0'.out;have a1p:=A1'.out;have zl:((x.sh.length:Int) == 0)=false:=by simp;intro h;rw [h] at hl1;simp at hl1
   go_wp2_with fail;clear c0p c1p a0p a1p zl;refine (YL m.k val x _ _ w5 KW'.out HX'.out WM.out.k WX.out).mono ?_;rintro e w8 ⟨rfl,g8⟩
   cases hmc:Ye m.k val x
   ·rw [hmc] at HO1
    have hno:outB m=false:=by
     rw [HB.out,List.all_eq_false];exact ⟨m.c.outs.getD k 0,Wv (by rw [LO.out];exact hlt),by rw [HZ9.out,Int.toNat_natCast,HO1.out];simp⟩
    have HNO:=zH hno;clear hno;have G9:=zH (gbT GW.out (gbT GA.out g8));clear g8;go_wp2_with fail;refine bodyPost_ret (v:=.tuple #[.slice (some ⟨w8.heap.size,0,none⟩) 0 0,.bool false]) (by simp [results,Tryz.results47]) rfl ?_;exact OutJ.noS HNO.out (World.ownsRow_made w8 #[] 0 G9.out.size (by simp) rfl) (gbA G9.out _)
   ·rw [hmc] at HO1
    have GA2:=zH (gbT GA.out g8);have OW2:=zH (Zj OW1.out g8)
    have HS9:Hid ((outTo m (k+1)).map (Value.int .i64)=(outTo m k).map (Value.int .i64) ++ [.int .i64 val]):=by
     unfold Hid;rw [outTo_succ (by rw [LO.out];exact hlt) HZ9.out,HXG.out,HVAL.out];simp
    clear g8 OW1
    go_wp2_with (at_builtin;refine ZK _ w8.heap.size rfl ZZ rfl (.tmp 54) (.tmp 56) rfl _ rfl (by simp [Value.oneCell']) w1.heap.size _ k _ OW2.out rfl rfl (by unfold maxLen;omega) (by omega) GA2.out.size ?_;intro v' w9 o9 g9)
    have h1:Hid (w9.ownsRow w1.heap.size 3 1 v' (k+1) ((outTo m (k+1)).map (Value.int .i64))):=by unfold Hid;rw [HS9.out];exact o9
    have h2:=zH (gbN GA2.out g9 (fun g e=>(OW2.out.lt g e).1))
    have h3:Hid (∀q,q<k+1→out1 m (m.c.outs.getD q 0).toNat=true):=zH (fun q hq=>by
     by_cases e:q=k
     ·subst e;rw [HZ9.out,Int.toNat_natCast,HO1.out]
     ·exact hO.out q (by omega))
    clear o9 g9 OW2 GA2;go_wp2_with fail
    go_roundw
    case rel=>exact ⟨k+1,by omega,by go_num,h1,h3,h2⟩
    case measure=>simp [intOf];omega
  ·have hkn:k=nO:=by omega
   subst hkn
   have hyes:outB m=true:=by
    rw [HB.out,List.all_eq_true];intro zz hzz;obtain ⟨i,hi,rfl⟩:=List.getElem_of_mem hzz;have:=hO.out i (by rw [← LO.out];exact hi);rw [getI _ _ hi] at this;exact this
   have hout:outR m=outTo m k:=by
    unfold outR outTo;rw [hyes,if_pos rfl,List.take_of_length_le (by rw [LO.out];exact Nat.le_refl _)]
   have HYES:=zH hyes;have HOUT:=zH hout;have HLK:Hid ((outTo m k).length=k):=zH (outTo_len (by rw [LO.out];exact Nat.le_refl _));have G9:=zH (gbT GW.out hG.out);clear hyes hout;obtain ⟨Av,cv,rfl,_⟩:=ZB hown.out;go_wp2_with fail;refine bodyPost_ret (v:=.tuple #[.slice Av k cv,.bool true]) (by simp [results,Tryz.results47]) rfl ?_;refine ⟨_,by rw [HYES.out], ?_,G9.out⟩;rw [HOUT.out,HLK.out];exact ZE hown.out GW.out.size
section
variable {P:Program}
variable {ops:Array Oper} {rest:List Oper} {o:Oper} {a:Act} {Q:Exit→Act→World→Prop}
end
def keyR (p:Int) (al:List Int) (A:Option Addr) (c:Nat) (w:World):Prop:=keysB ⟨p,al⟩=true∧w.ownsRow 0 3 1 (.slice A al.length c) al.length (al.map (Value.int .i64))
def boxA (lo:Nat) (T:TypeId) (v:Value) (w:World):Prop:=∃g u0 u1,v=.pointer (some ⟨g,0,none⟩)∧lo≤g∧Blk w g T #[u0,u1]
theorem keyR.grow {p:Int} {al:List Int} {A:Option Addr} {c:Nat} {w w':World} (h:keyR p al A c w) (k:w.grownBy w' none):keyR p al A c w':=⟨h.1,Zj h.2 k⟩
theorem keyR.typ {p:Int} {al:List Int} {A:Option Addr} {c:Nat} {w w':World} {S:Nat→Prop} (h:keyR p al A c w) (k:Chg S w w') (hS:∀g,S g→g<w.heap.size→∃T us,Blk w g T us∧T≠3):keyR p al A c w':=⟨h.1,Um h.2 k hS⟩
theorem boxA_st {lo:Nat} {T:TypeId}:stable (boxA lo T):=fun v w w' ⟨g,u0,u1,h1,h2,h3⟩ hg=>⟨g,u0,u1,h1,h2,h3.grow hg⟩
theorem boxA_set {lo g:Nat} {T T':TypeId} {v:Value} {w w':World} {cs:Array Value} {x0 x1:Value} (h:boxA lo T v w) (B:Blk w g T' cs) (RS:Blk w' g T' #[x0,x1]) (k:Chg (fun y=>y=g) w w'):boxA lo T v w':=by
 obtain ⟨g',u0,u1,h1,h2,h3⟩:=h
 by_cases e:g'=g
 ·subst e
  unfold Blk at B h3;have hT:T=T':=by rw [B] at h3;injection h3 with h3;injection h3 with _ h4 _;exact h4.symm
  rw [hT];exact ⟨g',x0,x1,h1,h2,RS⟩
 ·exact ⟨g',u0,u1,h1,h2,h3.chg k e⟩
theorem blk_ne {w:World} {g h:Nat} {T U:TypeId} {cs ds:Array Value} (B:Blk w g T cs) (D:Blk w h U ds) (hT:T≠U):g≠h:=by
 intro e;subst e;unfold Blk at B D;rw [B] at D;injection D with D;injection D with _ h2 _;exact hT h2
def insR (lo P:Nat) (v:Value) (w:World):Prop:=∃(I:Option Addr) (ci:Nat) (ins:List Int),v=.slice I 60 ci∧60≤ci∧ins.length=60∧(∀x∈ins,0≤x∧x<(P:Int))∧w.ownsRow lo 3 1 (.slice I 60 ci) 60 (ins.map (Value.int .i64))
theorem insR.grow {lo P:Nat} {v:Value} {w w':World} (h:insR lo P v w) (k:w.grownBy w' none):insR lo P v w':=by
 obtain ⟨I,ci,ins,h1,h2,h3,h4,h5⟩:=h;exact ⟨I,ci,ins,h1,h2,h3,h4,Zj h5 k⟩
theorem insR.chg {lo P:Nat} {v:Value} {w w':World} {S:Nat→Prop} (h:insR lo P v w) (k:Chg S w w') (hS:∀y,S y→y<lo):insR lo P v w':=by
 obtain ⟨I,ci,ins,h1,h2,h3,h4,h5⟩:=h;exact ⟨I,ci,ins,h1,h2,h3,h4,Chg.own h5 k (fun y hy hs=>by have:=(h5.lt y hy).1;have:=hS y hs;omega)⟩
def OwnB (lo:Nat) (w:World) (cs:List CS) (vs:List Value):Prop:=vs.length=cs.length∧∀(i:Nat) (c:CS) (v:Value),cs[i]?=some c→vs[i]?=some v→∃F,c.own w F v∧∀x∈F,lo≤x
def AggB (lo:Nat) (w:World) (cs:List CS) (v:Value):Prop:=∃vs:List Value,v=.agg vs.toArray∧OwnB lo w cs vs
theorem OwnB.toE {lo:Nat} {w:World} {cs:List CS} {vs:List Value} (h:OwnB lo w cs vs):OwnE w cs vs:=⟨h.1,fun i c v hc hv=>by
 obtain ⟨F,hF,_⟩:=h.2 i c v hc hv
 exact ⟨F,hF⟩⟩
theorem AggB.toE {lo:Nat} {w:World} {cs:List CS} {v:Value} (h:AggB lo w cs v):AggE w cs v:=by
 obtain ⟨vs,rfl,h⟩:=h;exact ⟨vs,rfl,h.toE⟩
theorem OwnB.lo {lo lo':Nat} {w:World} {cs:List CS} {vs:List Value} (h:OwnB lo w cs vs) (hl:lo'≤lo):OwnB lo' w cs vs:=⟨h.1,fun i c v hc hv=>by
 obtain ⟨F,hF,hx⟩:=h.2 i c v hc hv
 exact ⟨F,hF,fun x h=>Nat.le_trans hl (hx x h)⟩⟩
theorem OwnB.nil (lo:Nat) (w:World):OwnB lo w [] []:=⟨rfl,fun i c v h=>by simp at h⟩
theorem OwnB.append {lo:Nat} {w:World} {cs ds:List CS} {vs us:List Value} (h:OwnB lo w cs vs) (k:OwnB lo w ds us):OwnB lo w (cs ++ ds) (vs ++ us):=by
 refine ⟨by simp [h.1,k.1],fun i c v hc hv => ?_⟩;rw [List.getElem?_append] at hc hv;rw [h.1] at hv
 split at hc
 ·rename_i hl
  rw [if_pos hl] at hv;exact h.2 i c v hc hv
 ·rename_i hl
  rw [if_neg hl] at hv;exact k.2 _ c v hc hv
theorem OwnB.aut {w:World} {lo:Nat} {m:AuM} {vs:List Value} (h:autF lo m (.agg vs.toArray) w):OwnB lo w (cauth m) vs:=by
 obtain ⟨F,⟨us,Fs,e,h1,hF⟩,hx⟩:=h;injection e with e;have e:vs=us:=by have:=congrArg Array.toList e;simpa using this
 subst e;refine ⟨h1.lv,fun i c v hc hv => ?_⟩;have hi:=(List.getElem?_eq_some_iff.1 hc).1;obtain ⟨c',v',F',e1,e2,e3,ho⟩:=h1.get hi;rw [hc] at e1;injection e1 with e1;subst e1;rw [hv] at e2;injection e2 with e2;subst e2;exact ⟨F',ho,fun x hx'=>hx x (by rw [hF];exact VE e3 hx')⟩
theorem OwnB.typ {lo:Nat} {Ts:List TypeId} {w w':World} {cs:List CS} {vs:List Value} {S:Nat→Prop} (h:OwnB lo w cs vs) (hc:∀c∈cs,tyd Ts c) (k:Chg S w w') (hS:∀g,S g→g<w.heap.size→∃T us,Blk w g T us∧T∉Ts):OwnB lo w' cs vs :=
 ⟨h.1,fun i c v h1 h2=>by
  obtain ⟨F,ho,hx⟩:=h.2 i c v h1 h2;refine ⟨F,c.kept ho fun g hg=>k.block g (c.lt ho g hg) fun hs => ?_,hx⟩;obtain ⟨T,us,hB,hT⟩:=hS g hs (c.lt ho g hg)
  exact own_ty (hc c (List.mem_of_getElem? h1)) ho hB hT hg⟩
theorem OwnB.chg {lo:Nat} {w w':World} {cs:List CS} {vs:List Value} {S:Nat→Prop} (h:OwnB lo w cs vs) (k:Chg S w w') (hS:∀g,S g→g<lo):OwnB lo w' cs vs :=
 ⟨h.1,fun i c v h1 h2=>by
  obtain ⟨F,ho,hx⟩:=h.2 i c v h1 h2
  exact ⟨F,c.kept ho fun g hg=>k.block g (c.lt ho g hg) fun hs=>by have:=hx g hg;have:=hS g hs;omega,hx⟩⟩
theorem OwnB.grow {lo:Nat} {w w':World} {cs:List CS} {vs:List Value} (h:OwnB lo w cs vs) (k:w.grownBy w' none):OwnB lo w' cs vs:=h.chg (S:=fun _=>False) (Chg.of k (by simp)) (fun _ h=>h.elim)
theorem AggB.open {lo:Nat} {w:World} {m:TrM} {v:Value} (h:AggB lo w (YA m) v):∃A a B b C c D d E e F f,v=.agg #[.slice A m.a.sh.length a,.slice B m.a.mc.length b,.slice C m.b.sh.length c,.slice D m.b.mc.length d,.slice E m.c.sh.length e,.slice F m.c.mc.length f] ∧
  OwnB lo w (YA m) [.slice A m.a.sh.length a,.slice B m.a.mc.length b,.slice C m.b.sh.length c,.slice D m.b.mc.length d,.slice E m.c.sh.length e,.slice F m.c.mc.length f]:=by
 obtain ⟨A,a,B,b,C,c,D,d,E,e,F,f,hv,_⟩:=XX h.toE.rd;obtain ⟨us,hv',hus⟩:=h;refine ⟨A,a,B,b,C,c,D,d,E,e,F,f,hv, ?_⟩;rw [hv] at hv';injection hv' with hv';have hv':us=[.slice A m.a.sh.length a,.slice B m.a.mc.length b,.slice C m.b.sh.length c,.slice D m.b.mc.length d,.slice E m.c.sh.length e,.slice F m.c.mc.length f]:=by have:=congrArg Array.toList hv';simpa using this.symm
 rw [← hv'];exact hus
def TLB (lo:Nat) (ts:List TrM) (v:Value) (w:World):Prop:=∃vs,w.ownsRow lo 82 6 v ts.length vs∧OwnB lo w (ts.flatMap YA) vs
theorem TLB.rd {lo:Nat} {ts:List TrM} {v:Value} {w:World} (h:TLB lo ts v w):(Vk ts).rd w v:=by
 obtain ⟨vs,h1,h2⟩:=h;exact TL.rd (lo:=lo) ⟨vs,h1,h2.toE⟩
theorem TLB.typ {lo:Nat} {ts:List TrM} {v:Value} {w w':World} {S:Nat→Prop} (h:TLB lo ts v w) (k:Chg S w w') (hS:∀g,S g→g<w.heap.size→∃T us,Blk w g T us∧T≠82∧T≠3):TLB lo ts v w':=by
 obtain ⟨vs,h1,h2⟩:=h;refine ⟨vs,Um h1 k fun g hg hl => ?_,h2.typ (Wq ts) k fun g hg hl => ?_⟩
 ·obtain ⟨T,us,B,e,_⟩:=hS g hg hl;exact ⟨T,us,B,e⟩
 ·obtain ⟨T,us,B,_,e⟩:=hS g hg hl;exact ⟨T,us,B,by simpa using e⟩
theorem TLB.chg {lo:Nat} {ts:List TrM} {v:Value} {w w':World} {S:Nat→Prop} (h:TLB lo ts v w) (k:Chg S w w') (hS:∀g,S g→g<lo):TLB lo ts v w':=by
 obtain ⟨vs,h1,h2⟩:=h;exact ⟨vs,Chg.own h1 k fun y hy hs=>by obtain ⟨_,_,hb⟩:=XA h1 hy;have:=hS y hs;omega,h2.chg k hS⟩
theorem TLB.grow {lo:Nat} {ts:List TrM} {v:Value} {w w':World} (h:TLB lo ts v w) (k:w.grownBy w' none):TLB lo ts v w':=h.chg (S:=fun _=>False) (Chg.of k (by simp)) (fun _ h=>h.elim)
theorem TLB.push {lo:Nat} {ts:List TrM} {x:TrM} {v v':Value} {w w':World} {vs us:List Value} (h1:w.ownsRow lo 82 6 v ts.length vs) (h2:OwnB lo w (ts.flatMap YA) vs) (h3:OwnB lo w (YA x) us) (k1:w'.ownsRow lo 82 6 v' (ts.length+1) (vs ++ us)) (k2:Chg (fun g=>v.ownBlock=some g) w w'):TLB lo (ts ++ [x]) v' w':=by
 refine ⟨vs ++ us,by rw [List.length_append];exact k1, ?_⟩;rw [List.flatMap_append];refine OwnB.append (OwnB.typ h2 (Wq ts) k2 ?_) (OwnB.typ (by simpa using h3) (by intro c hc;exact VT x c (by simpa using hc)) k2 ?_)
 all_goals
  intro g hg hl;obtain ⟨cur,hb,_⟩:=XA h1 hg;exact ⟨_,_,hb,by decide⟩
end Go.Proofs.YthaadgdeadbhkaaGreat
