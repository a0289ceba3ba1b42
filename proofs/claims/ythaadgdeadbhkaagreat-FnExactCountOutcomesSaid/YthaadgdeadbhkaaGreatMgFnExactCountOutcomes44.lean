/-
 CountOutcomes of both,for all arguments (printed by wip/gen_countk.py).
-/
import Derived.Test.YthaadgdeadbhkaaGreatMgFnExactCountOutcomes43
open Go.RowKit
set_option linter.unusedVariables false
set_option linter.unusedSimpArgs false
namespace Go.Proofs.YthaadgdeadbhkaaGreat
noncomputable def cntK (m:AM) (ins es:List Int) (s a:Int):Nat→Nat→Nat
 | 0,_=>0
 | x+1,j=>cntK m ins es s a x j+if outN ⟨m.p,[(x:Int)]⟩ m ins es s a=j then 1 else 0
theorem Uo (m:AM) (ins es:List Int) (s a:Int) (j:Nat):∀x,cntK m ins es s a x j≤x
 | 0=>Nat.le_refl _
 | x+1=>by
  have:=Uo m ins es s a j x;rw [cntK]
  split <;> omega
noncomputable def rowK (m:AM) (ins es:List Int) (s a:Int) (x:Nat):List Int:=[(cntK m ins es s a x 0:Int),(cntK m ins es s a x 1:Int),(cntK m ins es s a x 2:Int)]
noncomputable def cntR (m:AM) (ins es:List Int) (s a:Int):List Int:=if arithB m=true then rowK m ins es s a m.p.toNat else []
theorem cntR_len (m:AM) (ins es:List Int) (s a:Int):(cntR m ins es s a).length≤1048576:=by
 unfold cntR
 split <;> simp [rowK]
theorem keys_one {P x:Nat} (hf:fieldB (P:Int)=true) (hx:x<P):keysB ⟨(P:Int),[(x:Int)]⟩=true:=by
 unfold keysB;simp only;rw [YZ hf (by intro a ha;simp at ha;omega)];rfl
theorem own_blk9' {w:World} {b s n:Nat} {e:TypeId} {v:Value} {vs:List Value} (h:w.ownsRow b e s v n vs) {g:Nat} (hg:v.ownBlock=some g):∃cur,Blk w g e cur∧b≤g:=by
 rcases h.2 with ⟨e1,_⟩ | ⟨g1,cap,cur,hv,hb,hg1,_⟩
 ·rw [e1] at hg;cases hg
 ·rw [hv] at hg
  have:g1=g:=by simpa [Value.ownBlock] using hg
  subst this;exact ⟨_,hg1,hb⟩
set_option maxHeartbeats 4000000 in
set_option maxRecDepth 100000 in
theorem Up (mst:List Stp) (mou:List Int) (P:Nat) (s a:Int) (ins es:List Int) (cv iv ev:Value) (w0:World) (hc:AggR w0 (carith ⟨(P:Int),mst,mou⟩) cv) (hi:(cints ins).rd w0 iv) (he:(cints es).rd w0 ev) (hok:AOk ⟨(P:Int),mst,mou⟩) (ho:mou.length≤1048576) (hn:ins.length≤1048576) (hne:es.length≤1048576) :
  Calls Tryz.prog 35 #[cv,iv,.agg #[.int .i64 s,.int .i64 a],ev] w0 fun e w'=>∃V F,e=.returned V∧(cints (rowK ⟨(P:Int),mst,mou⟩ ins es s a P)).own w' F V∧(∀g∈F,w0.heap.size≤g)∧w0.grownBy w' none:=by
 obtain ⟨u1,u2,rfl,c1,c2⟩:=Zt hc;obtain ⟨A1,n1,rfl,_,_,_⟩:=ZP (s:=3) (fun _=>rfl) (by omega) c1;obtain ⟨A2,n2,rfl,_,_,_⟩:=Zx c2;have HC:=zH hc;obtain ⟨I,ci,rfl,_,_,_⟩:=Zx hi;obtain ⟨R,cr,rfl,_,_,_⟩:=Zx he;have HI:=zH hi;have HE:=zH he;have OK:=zH hok;have AB:=zH (Yq hok);have WF:=zH (AOk.wf9 hok);have WC:=zH (show amwf ⟨(P:Int),mst,mou⟩ from ⟨WF.out,by have h9:=hok.few;exact Nat.le_trans h9 (by omega),ho⟩);have HFL:=zH (show fieldB (P:Int)=true from hok.fld);obtain ⟨p2,p101⟩:=ZC HFL.out;clear hc hi he hok c1 c2
 go_enter Tryz.func35,Tryz.ntmps35
 go_wp2_with fail;obtain ⟨wu,hwu⟩:∃x:World,(w0.alloc (.cells #[.int .i64 P,.slice A1 mst.length n1,.slice A2 mou.length n2] 38)).alloc (.cells #[.int .i64 s,.int .i64 a] 41)=x:=⟨_,rfl⟩;have GU:Hid (w0.grownBy wu none):=by rw [← hwu];exact zH (gbA (gbA (gbR _ _) _) _)
 have B4:Hid (Blk wu w0.heap.size 38 #[.int .i64 P,.slice A1 mst.length n1,.slice A2 mou.length n2]):=by rw [← hwu];exact zH ((Blk.new w0 _ _).grow (gbA (gbR _ _) _))
 have B6:Hid (Blk wu (w0.heap.size+1) 41 #[.int .i64 s,.int .i64 a]):=by rw [← hwu];exact zH (Blk.new' _ _ _ _ (by simp))
 try rw [hwu]
 clear hwu;refine (Yd ⟨(P:Int),mst,mou⟩ _ _ (HC.out.grow GU.out) WF.out).mono ?_;rintro e wb ⟨rfl,g3⟩;rw [AB.out];have GB:=zH (gbT GU.out g3);have C4:=zH (B4.out.grow g3);have C6:=zH (B6.out.grow g3);clear g3 B4 B6 GU
 go_wp2_with (at_make;refine XK _ ZZ rfl _ _ rfl 3 rfl rfl (by omega) (by unfold maxLen;omega) ?_;intro w6 o6 g6)
 rw [show (Value.int IntKind.i64 0).cells=#[.int .i64 0] from rfl,Vc] at o6;have e6:(rowK ⟨(P:Int),mst,mou⟩ ins es s a 0).map (Value.int .i64)=List.replicate 3 (.int .i64 0):=by simp [rowK,cntK,List.replicate]
 obtain ⟨gO,hgO'⟩:∃g,wb.heap.size=g:=⟨_,rfl⟩;have hgO:wb.heap.size≤gO:=by omega
 have O6:Hid (w6.ownsRow wb.heap.size 3 1 (.slice (some ⟨gO,0,none⟩) 3 3) 3 ((rowK ⟨(P:Int),mst,mou⟩ ins es s a 0).map (Value.int .i64))):=by rw [← hgO',e6];exact zH o6
 have G6:=zH g6
 try rw [hgO']
 clear o6 g6 e6
 go_loopw [10] (fun i wr=>∃x:Nat,x≤P∧i=.int .i64 x∧Hid (wr.ownsRow wb.heap.size 3 1 (.slice (some ⟨gO,0,none⟩) 3 3) 3 ((rowK ⟨(P:Int),mst,mou⟩ ins es s a x).map (Value.int .i64)))∧Hid (wb.grownBy wr none)) (fun i _=>P - (intOf i).toNat)
 case atStart=>exact ⟨0,Nat.zero_le _,rfl,O6,G6⟩
 case round =>
  clear O6 G6;obtain ⟨x,hx,rfl,ROW,G6⟩:=hrel;have x0:=(C4.out.grow G6.out).cell 0;have x1:=(C4.out.grow G6.out).cell 1;have x2:=(C4.out.grow G6.out).cell 2;have y0:=(C6.out.grow G6.out).cell 0;have y1:=(C6.out.grow G6.out).cell 1;simp only [List.getElem?_toArray,List.getElem?_cons_succ,List.getElem?_cons_zero] at x0 x1 x2 y0 y1
  by_cases hlt:x<P
  ·have i1:(x:Int)<(P:Int):=by omega
   have x0':=fun o=>kA x0 o;have x1':=fun o=>kA x1 o;have x2':=fun o=>kA x2 o;have y0':=fun o=>kA y0 o;have y1':=fun o=>kA y1 o;go_wp2_with fail;clear x0 x1 x2 y0 y1 x0' x1' x2' y0' y1';have hg5:wr.grownBy (wr.alloc (.cells #[.int .i64 x] 3)) none:=gbA (gbR _ _) _;have hlit:(cints [(x:Int)]).rd (wr.alloc (.cells #[.int .i64 x] 3)) (.slice (some ⟨wr.heap.size,0,none⟩) 1 1):=CS.toRd _ (Ya (World.ownsRow_lit (base:=0) wr #[.int .i64 x] 1 (Nat.zero_le _) (by unfold maxLen;omega) rfl));have hkw:=QY (m:=⟨(P:Int),[(x:Int)]⟩) hlit;have HKB:=zH (keys_one HFL.out hlt);refine (Jn ⟨(P:Int),[(x:Int)]⟩ ⟨(P:Int),mst,mou⟩ ins es s a (kwf_of HKB.out) WC.out hn hne _ _ _ _ _ hkw (HC.out.grow (gbT GB.out (gbT G6.out hg5))) (CS.grow _ HI.out (gbT GB.out (gbT G6.out hg5))) (CS.grow _ HE.out (gbT GB.out (gbT G6.out hg5)))).mono ?_;rintro e w7 ⟨rfl,g7⟩;have hoc3:=outN_lt ⟨(P:Int),[(x:Int)]⟩ ⟨(P:Int),mst,mou⟩ ins es s a;obtain ⟨oc,hoc'⟩:∃o,outN ⟨(P:Int),[(x:Int)]⟩ ⟨(P:Int),mst,mou⟩ ins es s a=o:=⟨_,rfl⟩;rw [hoc'] at hoc3;rw [hoc'];have HOC:=zH hoc';have G7:=zH (gbT G6.out (gbT hg5 g7));have hrow:=Zj ROW.out (gbT hg5 g7);have hk0:=Uo ⟨(P:Int),mst,mou⟩ ins es s a 0 x;have hk1:=Uo ⟨(P:Int),mst,mou⟩ ins es s a 1 x;have hk2:=Uo ⟨(P:Int),mst,mou⟩ ins es s a 2 x;unfold rowK at hrow;obtain ⟨k0,hc0⟩:∃z,cntK ⟨(P:Int),mst,mou⟩ ins es s a x 0=z:=⟨_,rfl⟩;obtain ⟨k1,hc1⟩:∃z,cntK ⟨(P:Int),mst,mou⟩ ins es s a x 1=z:=⟨_,rfl⟩;obtain ⟨k2,hc2⟩:∃z,cntK ⟨(P:Int),mst,mou⟩ ins es s a x 2=z:=⟨_,rfl⟩;rw [hc0,hc1,hc2] at hrow;rw [hc0] at hk0;rw [hc1] at hk1;rw [hc2] at hk2;have HC0:=zH hc0;have HC1:=zH hc1;have HC2:=zH hc2;have ROW7:=zH hrow;clear hoc' g7 hg5 hlit hkw HKB hrow hc0 hc1 hc2 ROW G6
   rcases (by omega:oc=0∨oc=1∨oc=2) with hoc | hoc | hoc
   ·
    have hO:outN ⟨(P:Int),[(x:Int)]⟩ ⟨(P:Int),mst,mou⟩ ins es s a=0:=HOC.out.trans hoc
    have HN:Hid (rowK ⟨(P:Int),mst,mou⟩ ins es s a (x+1)=[(k0:Int)+1,(k1:Int),(k2:Int)]):=by
     unfold Hid rowK;rw [cntK,cntK,cntK];simp only [hO];simp [HC0.out,HC1.out,HC2.out]
    subst hoc;have v0:=ROW7.out.cellAt 0 (by omega);have fz:=ROW7.out.frozenAt 0;simp at v0;have hst:=zH (ROW7.out.stored 0 (.int .i64 ((k0:Int)+1)));clear hO;go_wp2_with fail;have hst':=hst.out;simp only [List.map_cons,List.map_nil,zD,zE] at hst';have L1:Hid (World.ownsRow _ wb.heap.size 3 1 (.slice (some ⟨gO,0,none⟩) 3 3) 3 ((rowK ⟨(P:Int),mst,mou⟩ ins es s a (x+1)).map (Value.int .i64))):=zH (by rw [HN.out];simp only [List.map_cons,List.map_nil];exact hst'.1);have L2:=zH (gbS G7.out (p:=⟨gO,0,none⟩) hgO (.int .i64 ((k0:Int)+1)));clear v0 fz hst hst'
    go_roundw
    case rel=>exact ⟨x+1,by omega,by go_num,L1,L2⟩
    case measure=>simp [intOf];omega
   ·
    have hO:outN ⟨(P:Int),[(x:Int)]⟩ ⟨(P:Int),mst,mou⟩ ins es s a=1:=HOC.out.trans hoc
    have HN:Hid (rowK ⟨(P:Int),mst,mou⟩ ins es s a (x+1)=[(k0:Int),(k1:Int)+1,(k2:Int)]):=by
     unfold Hid rowK;rw [cntK,cntK,cntK];simp only [hO];simp [HC0.out,HC1.out,HC2.out]
    subst hoc;have v0:=ROW7.out.cellAt 1 (by omega);have fz:=ROW7.out.frozenAt 1;simp at v0;have hst:=zH (ROW7.out.stored 1 (.int .i64 ((k1:Int)+1)));clear hO;go_wp2_with fail;have hst':=hst.out;simp only [List.map_cons,List.map_nil,zD,zE] at hst';have L1:Hid (World.ownsRow _ wb.heap.size 3 1 (.slice (some ⟨gO,0,none⟩) 3 3) 3 ((rowK ⟨(P:Int),mst,mou⟩ ins es s a (x+1)).map (Value.int .i64))):=zH (by rw [HN.out];simp only [List.map_cons,List.map_nil];exact hst'.1);have L2:=zH (gbS G7.out (p:=⟨gO,1,none⟩) hgO (.int .i64 ((k1:Int)+1)));clear v0 fz hst hst'
    go_roundw
    case rel=>exact ⟨x+1,by omega,by go_num,L1,L2⟩
    case measure=>simp [intOf];omega
   ·
    have hO:outN ⟨(P:Int),[(x:Int)]⟩ ⟨(P:Int),mst,mou⟩ ins es s a=2:=HOC.out.trans hoc
    have HN:Hid (rowK ⟨(P:Int),mst,mou⟩ ins es s a (x+1)=[(k0:Int),(k1:Int),(k2:Int)+1]):=by
     unfold Hid rowK;rw [cntK,cntK,cntK];simp only [hO];simp [HC0.out,HC1.out,HC2.out]
    subst hoc;have v0:=ROW7.out.cellAt 2 (by omega);have fz:=ROW7.out.frozenAt 2;simp at v0;have hst:=zH (ROW7.out.stored 2 (.int .i64 ((k2:Int)+1)));clear hO;go_wp2_with fail;have hst':=hst.out;simp only [List.map_cons,List.map_nil,zD,zE] at hst';have L1:Hid (World.ownsRow _ wb.heap.size 3 1 (.slice (some ⟨gO,0,none⟩) 3 3) 3 ((rowK ⟨(P:Int),mst,mou⟩ ins es s a (x+1)).map (Value.int .i64))):=zH (by rw [HN.out];simp only [List.map_cons,List.map_nil];exact hst'.1);have L2:=zH (gbS G7.out (p:=⟨gO,2,none⟩) hgO (.int .i64 ((k2:Int)+1)));clear v0 fz hst hst'
    go_roundw
    case rel=>exact ⟨x+1,by omega,by go_num,L1,L2⟩
    case measure=>simp [intOf];omega
  ·have hxp:x=P:=by omega
   subst hxp;have RO:=zH ROW.out;have GZ:=zH (gbT GB.out G6.out);have hz9:=GB.out.size;clear x1 x2 y0 y1 ROW G6;go_wp2_with fail;go_ret
   exact ⟨_,_,rfl,Ya RO.out,fun g hg=>by
    obtain ⟨_,_,h9⟩:=own_blk9' RO.out (by simpa using hg)
    omega,GZ.out⟩
set_option maxHeartbeats 4000000 in
set_option maxRecDepth 100000 in
theorem Uq (mst:List Stp) (mou:List Int) (P:Nat) (s a:Int) (ins es:List Int) (cv iv ev:Value) (w0:World) (hc:AggR w0 (carith ⟨(P:Int),mst,mou⟩) cv) (hi:(cints ins).rd w0 iv) (he:(cints es).rd w0 ev) (hok:AOk ⟨(P:Int),mst,mou⟩) (ho:mou.length≤1048576) (hn:ins.length≤1048576) (hne:es.length≤1048576) :
  Calls Tryz.prog 36 #[cv,iv,.agg #[.int .i64 s,.int .i64 a],ev] w0 fun e w'=>∃V F,e=.returned V∧(cints (rowK ⟨(P:Int),mst,mou⟩ ins es s a P)).own w' F V∧(∀g∈F,w0.heap.size≤g)∧w0.grownBy w' none:=by
 obtain ⟨u1,u2,rfl,c1,c2⟩:=Zt hc;obtain ⟨A1,n1,rfl,_,_,_⟩:=ZP (s:=3) (fun _=>rfl) (by omega) c1;obtain ⟨A2,n2,rfl,_,_,_⟩:=Zx c2;have HC:=zH hc;obtain ⟨I,ci,rfl,_,_,_⟩:=Zx hi;obtain ⟨R,cr,rfl,_,_,_⟩:=Zx he;have HI:=zH hi;have HE:=zH he;have OK:=zH hok;have AB:=zH (Yq hok);have WF:=zH (AOk.wf9 hok);have WC:=zH (show amwf ⟨(P:Int),mst,mou⟩ from ⟨WF.out,by have h9:=hok.few;exact Nat.le_trans h9 (by omega),ho⟩);have HFL:=zH (show fieldB (P:Int)=true from hok.fld);obtain ⟨p2,p101⟩:=ZC HFL.out;clear hc hi he hok c1 c2
 go_enter Tryz.func36,Tryz.ntmps36
 go_wp2_with fail;obtain ⟨wu,hwu⟩:∃x:World,(w0.alloc (.cells #[.int .i64 P,.slice A1 mst.length n1,.slice A2 mou.length n2] 38)).alloc (.cells #[.int .i64 s,.int .i64 a] 41)=x:=⟨_,rfl⟩;have GU:Hid (w0.grownBy wu none):=by rw [← hwu];exact zH (gbA (gbA (gbR _ _) _) _)
 have B4:Hid (Blk wu w0.heap.size 38 #[.int .i64 P,.slice A1 mst.length n1,.slice A2 mou.length n2]):=by rw [← hwu];exact zH ((Blk.new w0 _ _).grow (gbA (gbR _ _) _))
 have B6:Hid (Blk wu (w0.heap.size+1) 41 #[.int .i64 s,.int .i64 a]):=by rw [← hwu];exact zH (Blk.new' _ _ _ _ (by simp))
 try rw [hwu]
 clear hwu;refine (ZU ⟨(P:Int),mst,mou⟩ _ _ (HC.out.grow GU.out) WF.out).mono ?_;rintro e wb ⟨rfl,g3⟩;rw [AB.out];have GB:=zH (gbT GU.out g3);have C4:=zH (B4.out.grow g3);have C6:=zH (B6.out.grow g3);clear g3 B4 B6 GU
 go_wp2_with (at_make;refine XK _ ZZ rfl _ _ rfl 3 rfl rfl (by omega) (by unfold maxLen;omega) ?_;intro w6 o6 g6)
 rw [show (Value.int IntKind.i64 0).cells=#[.int .i64 0] from rfl,Vc] at o6;have e6:(rowK ⟨(P:Int),mst,mou⟩ ins es s a 0).map (Value.int .i64)=List.replicate 3 (.int .i64 0):=by simp [rowK,cntK,List.replicate]
 obtain ⟨gO,hgO'⟩:∃g,wb.heap.size=g:=⟨_,rfl⟩;have hgO:wb.heap.size≤gO:=by omega
 have O6:Hid (w6.ownsRow wb.heap.size 3 1 (.slice (some ⟨gO,0,none⟩) 3 3) 3 ((rowK ⟨(P:Int),mst,mou⟩ ins es s a 0).map (Value.int .i64))):=by rw [← hgO',e6];exact zH o6
 have G6:=zH g6
 try rw [hgO']
 clear o6 g6 e6
 go_loopw [10] (fun i wr=>∃x:Nat,x≤P∧i=.int .i64 x∧Hid (wr.ownsRow wb.heap.size 3 1 (.slice (some ⟨gO,0,none⟩) 3 3) 3 ((rowK ⟨(P:Int),mst,mou⟩ ins es s a x).map (Value.int .i64)))∧Hid (wb.grownBy wr none)) (fun i _=>P - (intOf i).toNat)
 case atStart=>exact ⟨0,Nat.zero_le _,rfl,O6,G6⟩
 case round =>
  clear O6 G6;obtain ⟨x,hx,rfl,ROW,G6⟩:=hrel;have x0:=(C4.out.grow G6.out).cell 0;have x1:=(C4.out.grow G6.out).cell 1;have x2:=(C4.out.grow G6.out).cell 2;have y0:=(C6.out.grow G6.out).cell 0;have y1:=(C6.out.grow G6.out).cell 1;simp only [List.getElem?_toArray,List.getElem?_cons_succ,List.getElem?_cons_zero] at x0 x1 x2 y0 y1
  by_cases hlt:x<P
  ·have i1:(x:Int)<(P:Int):=by omega
   have x0':=fun o=>kA x0 o;have x1':=fun o=>kA x1 o;have x2':=fun o=>kA x2 o;have y0':=fun o=>kA y0 o;have y1':=fun o=>kA y1 o;go_wp2_with fail;clear x0 x1 x2 y0 y1 x0' x1' x2' y0' y1';have hg5:wr.grownBy (wr.alloc (.cells #[.int .i64 x] 3)) none:=gbA (gbR _ _) _;have hlit:(cints [(x:Int)]).rd (wr.alloc (.cells #[.int .i64 x] 3)) (.slice (some ⟨wr.heap.size,0,none⟩) 1 1):=CS.toRd _ (Ya (World.ownsRow_lit (base:=0) wr #[.int .i64 x] 1 (Nat.zero_le _) (by unfold maxLen;omega) rfl));have hkw:=QY (m:=⟨(P:Int),[(x:Int)]⟩) hlit;have HKB:=zH (keys_one HFL.out hlt);refine (Jo ⟨(P:Int),[(x:Int)]⟩ ⟨(P:Int),mst,mou⟩ ins es s a (kwf_of HKB.out) WC.out hn hne _ _ _ _ _ hkw (HC.out.grow (gbT GB.out (gbT G6.out hg5))) (CS.grow _ HI.out (gbT GB.out (gbT G6.out hg5))) (CS.grow _ HE.out (gbT GB.out (gbT G6.out hg5)))).mono ?_;rintro e w7 ⟨rfl,g7⟩;have hoc3:=outN_lt ⟨(P:Int),[(x:Int)]⟩ ⟨(P:Int),mst,mou⟩ ins es s a;obtain ⟨oc,hoc'⟩:∃o,outN ⟨(P:Int),[(x:Int)]⟩ ⟨(P:Int),mst,mou⟩ ins es s a=o:=⟨_,rfl⟩;rw [hoc'] at hoc3;rw [hoc'];have HOC:=zH hoc';have G7:=zH (gbT G6.out (gbT hg5 g7));have hrow:=Zj ROW.out (gbT hg5 g7);have hk0:=Uo ⟨(P:Int),mst,mou⟩ ins es s a 0 x;have hk1:=Uo ⟨(P:Int),mst,mou⟩ ins es s a 1 x;have hk2:=Uo ⟨(P:Int),mst,mou⟩ ins es s a 2 x;unfold rowK at hrow;obtain ⟨k0,hc0⟩:∃z,cntK ⟨(P:Int),mst,mou⟩ ins es s a x 0=z:=⟨_,rfl⟩;obtain ⟨k1,hc1⟩:∃z,cntK ⟨(P:Int),mst,mou⟩ ins es s a x 1=z:=⟨_,rfl⟩;obtain ⟨k2,hc2⟩:∃z,cntK ⟨(P:Int),mst,mou⟩ ins es s a x 2=z:=⟨_,rfl⟩;rw [hc0,hc1,hc2] at hrow;rw [hc0] at hk0;rw [hc1] at hk1;rw [hc2] at hk2;have HC0:=zH hc0;have HC1:=zH hc1;have HC2:=zH hc2;have ROW7:=zH hrow;clear hoc' g7 hg5 hlit hkw HKB hrow hc0 hc1 hc2 ROW G6
   rcases (by omega:oc=0∨oc=1∨oc=2) with hoc | hoc | hoc
   ·
    have hO:outN ⟨(P:Int),[(x:Int)]⟩ ⟨(P:Int),mst,mou⟩ ins es s a=0:=HOC.out.trans hoc
    have HN:Hid (rowK ⟨(P:Int),mst,mou⟩ ins es s a (x+1)=[(k0:Int)+1,(k1:Int),(k2:Int)]):=by
     unfold Hid rowK;rw [cntK,cntK,cntK];simp only [hO];simp [HC0.out,HC1.out,HC2.out]
    subst hoc;have v0:=ROW7.out.cellAt 0 (by omega);have fz:=ROW7.out.frozenAt 0;simp at v0;have hst:=zH (ROW7.out.stored 0 (.int .i64 ((k0:Int)+1)));clear hO;go_wp2_with fail;have hst':=hst.out;simp only [List.map_cons,List.map_nil,zD,zE] at hst';have L1:Hid (World.ownsRow _ wb.heap.size 3 1 (.slice (some ⟨gO,0,none⟩) 3 3) 3 ((rowK ⟨(P:Int),mst,mou⟩ ins es s a (x+1)).map (Value.int .i64))):=zH (by rw [HN.out];simp only [List.map_cons,List.map_nil];exact hst'.1);have L2:=zH (gbS G7.out (p:=⟨gO,0,none⟩) hgO (.int .i64 ((k0:Int)+1)));clear v0 fz hst hst'
    go_roundw
    case rel=>exact ⟨x+1,by omega,by go_num,L1,L2⟩
    case measure=>simp [intOf];omega
   ·
    have hO:outN ⟨(P:Int),[(x:Int)]⟩ ⟨(P:Int),mst,mou⟩ ins es s a=1:=HOC.out.trans hoc
    have HN:Hid (rowK ⟨(P:Int),mst,mou⟩ ins es s a (x+1)=[(k0:Int),(k1:Int)+1,(k2:Int)]):=by
     unfold Hid rowK;rw [cntK,cntK,cntK];simp only [hO];simp [HC0.out,HC1.out,HC2.out]
    subst hoc;have v0:=ROW7.out.cellAt 1 (by omega);have fz:=ROW7.out.frozenAt 1;simp at v0;have hst:=zH (ROW7.out.stored 1 (.int .i64 ((k1:Int)+1)));clear hO;go_wp2_with fail;have hst':=hst.out;simp only [List.map_cons,List.map_nil,zD,zE] at hst';have L1:Hid (World.ownsRow _ wb.heap.size 3 1 (.slice (some ⟨gO,0,none⟩) 3 3) 3 ((rowK ⟨(P:Int),mst,mou⟩ ins es s a (x+1)).map (Value.int .i64))):=zH (by rw [HN.out];simp only [List.map_cons,List.map_nil];exact hst'.1);have L2:=zH (gbS G7.out (p:=⟨gO,1,none⟩) hgO (.int .i64 ((k1:Int)+1)));clear v0 fz hst hst'
    go_roundw
    case rel=>exact ⟨x+1,by omega,by go_num,L1,L2⟩
    case measure=>simp [intOf];omega
   ·
    have hO:outN ⟨(P:Int),[(x:Int)]⟩ ⟨(P:Int),mst,mou⟩ ins es s a=2:=HOC.out.trans hoc
    have HN:Hid (rowK ⟨(P:Int),mst,mou⟩ ins es s a (x+1)=[(k0:Int),(k1:Int),(k2:Int)+1]):=by
     unfold Hid rowK;rw [cntK,cntK,cntK];simp only [hO];simp [HC0.out,HC1.out,HC2.out]
    subst hoc;have v0:=ROW7.out.cellAt 2 (by omega);have fz:=ROW7.out.frozenAt 2;simp at v0;have hst:=zH (ROW7.out.stored 2 (.int .i64 ((k2:Int)+1)));clear hO;go_wp2_with fail;have hst':=hst.out;simp only [List.map_cons,List.map_nil,zD,zE] at hst';have L1:Hid (World.ownsRow _ wb.heap.size 3 1 (.slice (some ⟨gO,0,none⟩) 3 3) 3 ((rowK ⟨(P:Int),mst,mou⟩ ins es s a (x+1)).map (Value.int .i64))):=zH (by rw [HN.out];simp only [List.map_cons,List.map_nil];exact hst'.1);have L2:=zH (gbS G7.out (p:=⟨gO,2,none⟩) hgO (.int .i64 ((k2:Int)+1)));clear v0 fz hst hst'
    go_roundw
    case rel=>exact ⟨x+1,by omega,by go_num,L1,L2⟩
    case measure=>simp [intOf];omega
  ·have hxp:x=P:=by omega
   subst hxp;have RO:=zH ROW.out;have GZ:=zH (gbT GB.out G6.out);have hz9:=GB.out.size;clear x1 x2 y0 y1 ROW G6;go_wp2_with fail;go_ret
   exact ⟨_,_,rfl,Ya RO.out,fun g hg=>by
    obtain ⟨_,_,h9⟩:=own_blk9' RO.out (by simpa using hg)
    omega,GZ.out⟩
set_option maxHeartbeats 1000000 in
theorem Ur (c:AM) (s a:Int) (cv iv ev:Value) (w0:World) (hc:AggR w0 (carith c) cv) (wf:c.wf) (hok:arithB c=false) (ni ne:Nat) (I R:Option Addr) (ci cr:Nat) (hiv:iv=.slice I ni ci) (hev:ev=.slice R ne cr) :
  Calls Tryz.prog 35 #[cv,iv,.agg #[.int .i64 s,.int .i64 a],ev] w0 fun e w'=>∃V F,e=.returned V∧(cints []).own w' F V∧(∀g∈F,w0.heap.size≤g)∧w0.grownBy w' none:=by
 subst hiv;subst hev;obtain ⟨u1,u2,rfl,_,_⟩:=Zt hc;have HC:=zH hc;have AB:=zH hok;clear hc hok
 go_enter Tryz.func35,Tryz.ntmps35
 go_wp2_with fail;obtain ⟨wu,hwu⟩:∃x:World,(w0.alloc (.cells #[.int .i64 c.p,u1,u2] 38)).alloc (.cells #[.int .i64 s,.int .i64 a] 41)=x:=⟨_,rfl⟩;have GU:Hid (w0.grownBy wu none):=by rw [← hwu];exact zH (gbA (gbA (gbR _ _) _) _)
 try rw [hwu]
 clear hwu;refine (Yd c _ wu (HC.out.grow GU.out) wf).mono ?_;rintro e w1 ⟨rfl,g1⟩;rw [AB.out];have G1:=zH (gbT GU.out g1);clear g1;go_wp2_with fail;go_ret
 first
  | exact ⟨_,[],rfl,YS _,by simp,G1.out⟩
  | exact ⟨_,_,rfl,Ya (World.ownsRow_made w1 #[] 0 (Nat.zero_le _) (by simp) rfl),fun g hg=>by simp [Value.ownBlock] at hg;have:=G1.out.size;omega,gbA G1.out _⟩
theorem Us (c:AM) (ins es:List Int) (s a:Int) (wc:amwf c) (hn:ins.length≤1048576) (he:es.length≤1048576) (w:World) (v0 v1 v3:Value) (h0:AggR w (carith c) v0) (h1:(cints ins).rd w v1) (h3:(cints es).rd w v3) :
  Calls Tryz.prog 35 #[v0,v1,.agg #[.int .i64 s,.int .i64 a],v3] w fun e w'=>∃V F,e=.returned V∧(cints (cntR c ins es s a)).own w' F V∧(∀g∈F,w.heap.size≤g)∧w.grownBy w' none:=by
 cases hb:arithB c
 ·rw [show cntR c ins es s a=[] by unfold cntR;rw [if_neg (by rw [hb];decide)]]
  obtain ⟨I,ci,rfl,_,_,_⟩:=Zx h1;obtain ⟨R,cr,rfl,_,_,_⟩:=Zx h3;exact Ur c s a v0 _ _ w h0 wc.wf hb _ _ _ _ _ _ rfl rfl
 ·rw [show cntR c ins es s a=rowK c ins es s a c.p.toNat by unfold cntR;rw [if_pos hb]]
  have hok:=WI hb;obtain ⟨p2,_⟩:=ZC hok.fld;obtain ⟨p,mst,mou⟩:=c;obtain ⟨P,rfl⟩:∃P:Nat,p=P:=⟨p.toNat,by have:2≤p:=p2;omega⟩;exact Up mst mou P s a ins es v0 v1 v3 w h0 h1 h3 hok wc.outs hn he
set_option maxHeartbeats 1000000 in
theorem Ut (c:AM) (s a:Int) (cv iv ev:Value) (w0:World) (hc:AggR w0 (carith c) cv) (wf:c.wf) (hok:arithB c=false) (ni ne:Nat) (I R:Option Addr) (ci cr:Nat) (hiv:iv=.slice I ni ci) (hev:ev=.slice R ne cr) :
  Calls Tryz.prog 36 #[cv,iv,.agg #[.int .i64 s,.int .i64 a],ev] w0 fun e w'=>∃V F,e=.returned V∧(cints []).own w' F V∧(∀g∈F,w0.heap.size≤g)∧w0.grownBy w' none:=by
 subst hiv;subst hev;obtain ⟨u1,u2,rfl,_,_⟩:=Zt hc;have HC:=zH hc;have AB:=zH hok;clear hc hok
 go_enter Tryz.func36,Tryz.ntmps36
 go_wp2_with fail;obtain ⟨wu,hwu⟩:∃x:World,(w0.alloc (.cells #[.int .i64 c.p,u1,u2] 38)).alloc (.cells #[.int .i64 s,.int .i64 a] 41)=x:=⟨_,rfl⟩;have GU:Hid (w0.grownBy wu none):=by rw [← hwu];exact zH (gbA (gbA (gbR _ _) _) _)
 try rw [hwu]
 clear hwu;refine (ZU c _ wu (HC.out.grow GU.out) wf).mono ?_;rintro e w1 ⟨rfl,g1⟩;rw [AB.out];have G1:=zH (gbT GU.out g1);clear g1;go_wp2_with fail;go_ret
 first
  | exact ⟨_,[],rfl,YS _,by simp,G1.out⟩
  | exact ⟨_,_,rfl,Ya (World.ownsRow_made w1 #[] 0 (Nat.zero_le _) (by simp) rfl),fun g hg=>by simp [Value.ownBlock] at hg;have:=G1.out.size;omega,gbA G1.out _⟩
theorem Uu (c:AM) (ins es:List Int) (s a:Int) (wc:amwf c) (hn:ins.length≤1048576) (he:es.length≤1048576) (w:World) (v0 v1 v3:Value) (h0:AggR w (carith c) v0) (h1:(cints ins).rd w v1) (h3:(cints es).rd w v3) :
  Calls Tryz.prog 36 #[v0,v1,.agg #[.int .i64 s,.int .i64 a],v3] w fun e w'=>∃V F,e=.returned V∧(cints (cntR c ins es s a)).own w' F V∧(∀g∈F,w.heap.size≤g)∧w.grownBy w' none:=by
 cases hb:arithB c
 ·rw [show cntR c ins es s a=[] by unfold cntR;rw [if_neg (by rw [hb];decide)]]
  obtain ⟨I,ci,rfl,_,_,_⟩:=Zx h1;obtain ⟨R,cr,rfl,_,_,_⟩:=Zx h3;exact Ut c s a v0 _ _ w h0 wc.wf hb _ _ _ _ _ _ rfl rfl
 ·rw [show cntR c ins es s a=rowK c ins es s a c.p.toNat by unfold cntR;rw [if_pos hb]]
  have hok:=WI hb;obtain ⟨p2,_⟩:=ZC hok.fld;obtain ⟨p,mst,mou⟩:=c;obtain ⟨P,rfl⟩:∃P:Nat,p=P:=⟨p.toNat,by have:2≤p:=p2;omega⟩;exact Uq mst mou P s a ins es v0 v1 v3 w h0 h1 h3 hok wc.outs hn he
set_option maxRecDepth 100000 in
theorem toTape_c (s a:Int) (w:World) :
  Calls Tryz.prog 13 #[.agg #[.int .i64 s,.int .i64 a]] w fun e w'=>e=.returned (.agg #[.int .i64 s,.int .i64 a])∧w.grownBy w' none:=by
 go_enter Tryz.func13,Tryz.ntmps13
 go_wp2_with fail;refine YJ Tryz.results13 (by rfl) stTape (cs:=#[.int .i64 s,.int .i64 a]) ((Blk.new' (w.alloc _) _ _ (w.heap.size+1) (by simp)).grow (gbA (gbR _ _) _)) (by rfl) (by rfl) ?_;exact ⟨rfl,gbA (gbA (gbA (gbR _ _) _) _) _⟩
def intF (lo:Nat) (es:List Int) (v:Value) (w:World):Prop:=aggF lo [cints es] (.agg #[v]) w
theorem Wy {lo:Nat} {es:List Int}:stable (intF lo es):=fun v w w' h hg=>YG _ _ _ h hg
theorem intF.of {lo:Nat} {es:List Int} {v:Value} {w:World} {F:List Nat} (h:(cints es).own w F v) (hl:∀x∈F,lo≤x):intF lo es v w:=⟨_,⟨_,_,rfl,OwnAll.cons h (OwnAll.nil _) (by simp),rfl⟩,fun x hx=>hl x (by simpa using hx)⟩
theorem intF.own {lo:Nat} {es:List Int} {v:Value} {w:World} (h:intF lo es v w):∃F,(cints es).own w F v∧∀x∈F,lo≤x:=by
 obtain ⟨F,⟨vs,Fs,e,h1,hF⟩,h2⟩:=h;injection e with e;have e:vs=[v]:=by have:=congrArg Array.toList e;simpa using this.symm
 subst e;obtain ⟨c,u,F',e1,e2,e3,ho⟩:=h1.get (i:=0) (by simp);simp at e1 e2;subst e1;subst e2;exact ⟨F',ho,fun x hx=>h2 x (by rw [hF];exact VE e3 hx)⟩
theorem intF.rd {lo:Nat} {es:List Int} {v:Value} {w:World} (h:intF lo es v w):(cints es).rd w v:=by
 obtain ⟨F,h1,_⟩:=h.own;exact (cints es).toRd h1
theorem gb0 {W w:World} (hG:Chg (fun b=>∃s,(s,b)∈([]:List (Nat × Nat))) W w):W.grownBy w none:=⟨hG.os,hG.tape,hG.output,hG.size,fun i hi _=>hG.block i hi (by rintro ⟨s,hs⟩;cases hs)⟩
end Go.Proofs.YthaadgdeadbhkaaGreat
