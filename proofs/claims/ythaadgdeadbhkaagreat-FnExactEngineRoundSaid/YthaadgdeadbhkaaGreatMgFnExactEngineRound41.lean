/-
 EngineOk of the reference.
-/
import Derived.Test.YthaadgdeadbhkaaGreatMgFnExactEngineRound29
open Go.RowKit
set_option linter.unusedVariables false
set_option linter.unusedSimpArgs false
namespace Go.Proofs.YthaadgdeadbhkaaGreat
set_option maxHeartbeats 4000000 in
set_option maxRecDepth 100000 in
theorem Yt (m:EM) (v:Value) (w0:World) (h:AggR w0 (Zd m) v) (wm:ewf m) :
  Calls Tryz.prog 107 #[v] w0 fun e w'=>e=.returned (.bool (engOkB m))∧w0.grownBy w' none:=by
 obtain ⟨A,B,C,D,E,a,b,c,d,e,rfl,hR⟩:=Zo h;obtain ⟨w1,hw1⟩:∃x:World,w0.alloc (.cells #[.int .i64 m.k.p,.slice A m.k.al.length a,.int .i64 m.c.p,.slice B m.c.st.length b,.slice C m.c.outs.length c,.slice D m.vs.length d,.slice E m.op.length e,.int .i64 m.rd,.bool m.bad] 58)=x:=⟨_,rfl⟩;have GW:Hid (w0.grownBy w1 none):=by rw [← hw1];exact gbA (gbR _ _) _
 have D1:Hid (Blk w1 w0.heap.size 58 #[.int .i64 m.k.p,.slice A m.k.al.length a,.int .i64 m.c.p,.slice B m.c.st.length b,.slice C m.c.outs.length c,.slice D m.vs.length d,.slice E m.op.length e,.int .i64 m.rd,.bool m.bad]):=by rw [← hw1];exact Blk.new w0 _ _
 have R1:=zH (hR.grow GW.out);have WM:=zH wm;have HB:Hid (engOkB m=(keysB m.k&&arithB m.c&&(m.k.p == m.c.p)&&decide (m.vs.length=m.c.st.length)&&inQ m.rd 0 60&&m.vs.all (okV m.k))):=rfl;obtain ⟨n,hn⟩:∃n,m.vs.length=n:=⟨_,rfl⟩;have hn20:n≤1048576:=by have:=wm.n;omega
 have LN:=zH hn;rw [hn] at D1 HB hw1;clear h hR wm
 go_enter Tryz.func107,Tryz.ntmps107
 rw [LN.out];have k0:=D1.out.cell 0;have k1:=D1.out.cell 1;simp at k0 k1;go_wp2_with fail;clear hw1 k0 k1 hn;refine (Wm m.k _ _ R1.out.ky WM.out.k).mono ?_;rintro e w2 ⟨rfl,g2⟩
 cases b1:keysB m.k
 ·rw [b1] at HB
  have G2:=zH (gbT GW.out g2);clear g2;go_wp2_with fail;go_ret;exact ⟨retB (by rw [HB.out];rfl),G2.out⟩
 have x0:=(D1.out.grow g2).cell 2;have x1:=(D1.out.grow g2).cell 3;have x2:=(D1.out.grow g2).cell 4;simp at x0 x1 x2;have G2:=zH g2;have KB:=zH b1;rw [b1] at HB;clear g2 b1;go_wp2_with fail;clear x0 x1 x2;refine (We m.c _ _ (R1.out.ar.grow G2.out) WM.out.c.wf).mono ?_;rintro e w3 ⟨rfl,g3⟩
 cases b2:arithB m.c
 ·rw [b2] at HB
  have G3:=zH (gbT GW.out (gbT G2.out g3));clear g3;go_wp2_with fail;go_ret;exact ⟨retB (by rw [HB.out];rfl),G3.out⟩
 have G3:=zH (gbT G2.out g3);rw [b2] at HB;clear g3 b2 G2;have y0:=(D1.out.grow G3.out).cell 0;have y2:=(D1.out.grow G3.out).cell 2;have y3:=(D1.out.grow G3.out).cell 3;have y5:=(D1.out.grow G3.out).cell 5;have y7:=(D1.out.grow G3.out).cell 7;simp at y0 y2 y3 y5 y7
 cases b3:(m.k.p == m.c.p)
 ·rw [b3] at HB
  have n3:(m.k.p != m.c.p)=true:=by rw [bne,b3];rfl
  have G4:=zH (gbT GW.out G3.out);clear b3;go_wp2_with fail;go_ret;exact ⟨retB (by rw [HB.out];rfl),G4.out⟩
 have n3:(m.k.p != m.c.p)=false:=by rw [bne,b3];rfl
 rw [b3] at HB;clear b3
 cases b4:decide (n=m.c.st.length)
 ·rw [b4] at HB
  have n4:((n:Int) != (m.c.st.length:Int))=true:=by simp at b4;simp;omega
  have G4:=zH (gbT GW.out G3.out);clear b4;go_wp2_with fail;go_ret;exact ⟨retB (by rw [HB.out];rfl),G4.out⟩
 have n4:((n:Int) != (m.c.st.length:Int))=false:=by simp at b4;simp;omega
 rw [b4] at HB;clear b4;go_wp2_with fail;refine (specInq_c m.rd 0 60 _).mono ?_;rintro e w4 ⟨rfl,rfl⟩
 cases b5:inQ m.rd 0 60
 ·rw [b5] at HB
  have G4:=zH (gbT GW.out G3.out);clear b5;go_wp2_with fail;go_ret;exact ⟨retB (by rw [HB.out];rfl),G4.out⟩
 rw [b5] at HB;simp only [Bool.and_true,Bool.true_and] at HB;clear b5;have P0:=zH (CS.grow _ R1.out.va G3.out);rw [LN.out] at P0;have B3:=zH (D1.out.grow G3.out);have GZ:=zH (gbT GW.out G3.out);go_wp2_with fail;clear n3 n4 y0 y2 y3 y5 y7
 go_loopw [3] (fun i wr=>∃k:Nat,k≤n∧i=.int .i64 k∧Hid (∀q,q<k→okV m.k (getA m.vs q)=true)∧Hid (w3.grownBy wr none)) (fun i _=>n - (intOf i).toNat)
 case atStart=>exact ⟨0,Nat.zero_le _,rfl,zH (fun q hq=>by omega),zH (gbR _ _)⟩
 case round =>
  obtain ⟨k,hk,rfl,hO,hG⟩:=hrel
  by_cases hlt:k<n
  ·have i1:(k:Int)<(n:Int):=by omega
   obtain ⟨b,o,x,Bx,dx,Cx,fx,rfl,hb,hx,q0,q1,hX⟩:=ZL (CS.grow _ P0.out hG.out) hlt;have hxg:getA m.vs k=x:=by unfold getA;rw [zF,hx];rfl
   have WX:=zH (WM.out.vs x (List.mem_of_getElem? hx));have HXG:=zH hxg;have HMX:=zH (List.mem_of_getElem? hx);have HX:=zH hX;clear hx hX hxg;have B4:=B3.out.grow hG.out;have e0:=B4.cell 0;have e1:=B4.cell 1;have e5:=B4.cell 5;simp only [List.getElem?_toArray,List.getElem?_cons_succ,List.getElem?_cons_zero] at e0 e1 e5;have e0':=fun o=>kA e0 o;have e1':=fun o=>kA e1 o;clear B4;have i3:=WX.out.1;have i4:=WX.out.2
   cases hz:zeroA x
   ·have HZ:=zH hz
    have h9:¬(x.sh.length=0∧x.mc.length=0):=fun ⟨h1,h2⟩=>by
     unfold zeroA at hz;rw [h1,h2] at hz;simp at hz
    have i2:0<(x.sh.length:Int)+(x.mc.length:Int):=by omega
    clear hz;go_wp2_with fail;clear e0 e1 e5 e0' e1' q0 q1;have GY:=zH (gbA (gbR wr none) (.cells #[.slice Bx x.sh.length dx,.slice Cx x.mc.length fx] 80));refine (Zx m.k x _ _ _ (R1.out.ky.grow (gbT G3.out (gbT hG.out GY.out))) (HX.out.grow GY.out) WM.out.k WX.out).mono ?_;rintro e w6 ⟨rfl,g6⟩;have G6:=zH (gbT hG.out (gbT GY.out g6));clear g6
    cases hfx:formB m.k x
    ·have hno:(m.vs.all (okV m.k))=false:=by
      rw [List.all_eq_false];exact ⟨x,HMX.out,by unfold okV;rw [HZ.out,hfx];decide⟩
     rw [hno] at HB;have G7:=zH (gbT GZ.out G6.out);clear hno hfx;go_wp2_with fail;go_ret;exact ⟨retB HB.out.symm,G7.out⟩
    ·have O2:Hid (∀q,q<k+1→okV m.k (getA m.vs q)=true):=zH (fun q hq=>by
      by_cases e:q=k
      ·subst e;rw [HXG.out];unfold okV;rw [hfx,Bool.or_true]
      ·exact hO.out q (by omega))
     clear hfx;go_wp2_with fail
     go_roundw
     case rel=>exact ⟨k+1,by omega,by go_num,O2,G6⟩
     case measure=>simp [intOf];omega
   ·have O2:Hid (∀q,q<k+1→okV m.k (getA m.vs q)=true):=zH (fun q hq=>by
     by_cases e:q=k
     ·subst e;rw [HXG.out];exact okV_zero hz
     ·exact hO.out q (by omega))
    have i2:¬0<(x.sh.length:Int)+(x.mc.length:Int):=by
     unfold zeroA at hz;simp at hz;obtain ⟨h1,h2⟩:=hz;rw [h1,h2];simp
    have G6:=zH (gbA hG.out (.cells #[.slice Bx x.sh.length dx,.slice Cx x.mc.length fx] 80));clear hz;go_wp2_with fail;clear e0 e1 e5 e0' e1' q0 q1
    go_roundw
    case rel=>exact ⟨k+1,by omega,by go_num,O2,G6⟩
    case measure=>simp [intOf];omega
  ·have e5:=(B3.out.grow hG.out).cell 5
   simp only [List.getElem?_toArray,List.getElem?_cons_succ,List.getElem?_cons_zero] at e5;have hkn:k=n:=by omega
   subst hkn
   have hyes:(m.vs.all (okV m.k))=true:=by
    rw [List.all_eq_true];intro x hx;obtain ⟨i,hi,rfl⟩:=List.getElem_of_mem hx;have:=hO.out i (by rw [← LN.out];exact hi);unfold getA at this;rw [zF,List.getElem?_eq_getElem hi] at this;exact this
   rw [hyes] at HB;have G7:=zH (gbT GZ.out hG.out);go_wp2_with fail;go_ret;exact ⟨retB HB.out.symm,G7.out⟩
end Go.Proofs.YthaadgdeadbhkaaGreat
