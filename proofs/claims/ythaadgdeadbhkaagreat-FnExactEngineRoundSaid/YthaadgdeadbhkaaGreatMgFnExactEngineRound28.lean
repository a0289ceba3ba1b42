/-
 The laws' marks on slices of Triples (printed by wip/gen_tripsm.py).
-/
import Derived.Test.YthaadgdeadbhkaaGreatMgFnExactEngineRound27
open Go.RowKit
set_option linter.unusedVariables false
set_option linter.unusedSimpArgs false
namespace Go.Proofs.YthaadgdeadbhkaaGreat
def TrM.mkd (k:Int) (m:TrM):TrM:=⟨m.a.mkd k,m.b.mkd (k+(m.a.sz:Nat)),m.c.mkd (k+(m.a.sz:Nat)+(m.b.sz:Nat))⟩
def mkTS (k:Int):List TrM→List TrM
 | []=>[]
 | x :: xs=>x.mkd k :: mkTS (k+(x.sz:Nat)) xs
theorem UF (xss:List TrM):∀k,(mkTS k xss).length=xss.length:=by
 induction xss with
 | nil=>intro k;rfl
 | cons x xs ih=>intro k;rw [mkTS,List.length_cons,ih,List.length_cons]
theorem mkTS_get (xss:List TrM):∀(k:Int) (j:Nat),(mkTS k xss)[j]?=xss[j]?.map fun x=>x.mkd (k+(trS xss j:Nat)):=by
 induction xss with
 | nil=>intro k j;simp [mkTS]
 | cons x xs ih =>
  intro k j
  cases j with
  | zero=>simp [mkTS,trS]
  | succ j =>
   rw [mkTS,List.getElem?_cons_succ,ih,List.getElem?_cons_succ];have:trS (x :: xs) (j+1)=x.sz+trS xs j:=by simp [trS]
   rw [this]
   cases xs[j]? with
   | none=>rfl
   | some y=>simp only [Option.map_some];congr 2;omega
theorem mkTS_step (xss:List TrM) (k:Int) (j:Nat) (x:TrM) (h:xss[j]?=some x):((mkTS k xss).take j ++ xss.drop j).set j (x.mkd (k+(trS xss j:Nat)))=(mkTS k xss).take (j+1) ++ xss.drop (j+1):=by
 obtain ⟨hj,rfl⟩:=List.getElem?_eq_some_iff.1 h;have hl:=UF xss k;have hg:=mkTS_get xss k j;rw [h] at hg;rw [List.set_append_right _ _ (by simp;omega),List.length_take,Nat.min_eq_left (by omega),Nat.sub_self,List.drop_eq_getElem_cons hj,zD];have hj':j<(mkTS k xss).length:=by omega
 rw [List.take_succ_eq_append_getElem hj',List.append_assoc]
 have:(mkTS k xss)[j]=(xss[j]).mkd (k+(trS xss j:Nat)):=by
  rw [List.getElem?_eq_getElem hj'] at hg;simpa using hg
 rw [this];rfl
theorem ctriples_ptr {xs:List TrM} {w:World} {F:List Nat} {D:Option Addr} {n c:Nat} (h:(Zs xs).own w F (.slice D n c)) (hi:0<xs.length):∃gv,D=some ⟨gv,0,none⟩∧gv∈F:=by
 obtain ⟨g,n',c',e,hg⟩:=Vq (by omega) h (by rw [ZI (sz:=6) (fun _=>rfl)];omega);injection e with e;exact ⟨g,e,hg⟩
set_option maxRecDepth 100000 in
set_option maxHeartbeats 4000000 in
theorem markTripleS_z (xss:List TrM) (v:Value) (F:List Nat) (k0:Int) (w:World) (h:(Zs xss).own w F v) (hn:szT xss≤1048576) (h0:0≤k0) (h1:k0≤274877906944) :
  Calls Tryz.prog 31 #[v,.int .i64 k0] w fun e w'=>e=.returned (.int .i64 (k0+(trS xss xss.length:Nat)))∧(Zs (mkTS k0 xss)).own w' F v∧Chg (fun g=>g∈F) w w':=by
 obtain ⟨A,c,rfl,hc,hm⟩:=XY (CS.toRd _ h);have HX:=zH h;unfold szT at hn;obtain ⟨n,hnn⟩:∃n,xss.length=n:=⟨_,rfl⟩;rw [hnn] at hc hn HX ⊢;have LX:=zH hnn;unfold maxLen at hm;clear h hnn
 go_enter Tryz.func31,Tryz.ntmps31
 go_wp2_with fail
 go_loopw [1,5] (fun s i wr=>∃j:Nat,j≤n∧i=.int .i64 j∧s=.int .i64 (k0+(trS xss j:Nat))∧Hid ((Zs ((mkTS k0 xss).take j ++ xss.drop j)).own wr F (.slice A n c))∧Hid (Chg (fun g=>g∈F) w wr)) (fun _ i _=>n - (intOf i).toNat)
 case atStart=>exact ⟨0,Nat.zero_le _,rfl,by rw [trS_zero];go_num,by simpa [Hid] using HX.out,Chg.refl _ _⟩
 case round =>
  obtain ⟨j,hj,rfl,rfl,hown,hch⟩:=hrel
  by_cases hlt:j<n
  ·have hF:=hown.out
   have hjx:j<xss.length:=by have:=LX.out;omega
   have hx:xss[j]?=some xss[j]:=List.getElem?_eq_getElem hjx;have HS:=zH (UE xss j _ hx);have HM:=zH (trS_mono xss (show j+1≤n by omega));have hst:=mkTS_step xss k0 j _ hx;generalize xss[j]=x at *;have hll:((mkTS k0 xss).take j ++ xss.drop j).length=n:=by rw [List.length_append,List.length_take,UF,List.length_drop];have:=LX.out;omega
   have hlist:((mkTS k0 xss).take j ++ xss.drop j)[j]?=some x:=by
    rw [List.getElem?_append_right (by simp;omega),List.length_take,UF,Nat.min_eq_left (by omega),Nat.sub_self,List.getElem?_drop]
    simpa using hx
   have HST:=zH hst;have HLL:=zH hll;have hfl:(((mkTS k0 xss).take j ++ xss.drop j).flatMap ctriple).length=n*6:=by rw [ZI (sz:=6) (fun _=>rfl),hll]
   generalize hys:(mkTS k0 xss).take j ++ xss.drop j=ys at *;obtain ⟨cs,hcs⟩:∃cs,ys.flatMap ctriple=cs:=⟨_,rfl⟩
   have hg:∀q,q<6→cs[j*6+q]?=(ctriple x)[q]?:=fun q hq=>by
    have:=YL (sz:=6) (F:=ctriple) (fun _=>rfl) ys j q hq;rw [hlist,hcs] at this;exact this
   have HCS:=zH hcs;have HG:=zH hg;have HFL:Hid (cs.length=n*6):=by rw [← hcs];exact hfl
   have K0:Hid ((row 82 6 cs).own wr F (.slice A n c)):=by rw [← hcs];exact hF
   have HHYS:=zH hys;have i1:(j:Int)<(n:Int):=by omega
   have hsz:x.sz=x.a.sh.length+x.a.mc.length+(x.b.sh.length+x.b.mc.length)+(x.c.sh.length+x.c.mc.length):=rfl
   have hb1:trS xss j+x.sz≤1048576:=by
    have h1:=HS.out;have h2:=HM.out;omega
   obtain ⟨g,rfl,hgF⟩:=ctriples_ptr hF (by rw [hll];omega);clear hx hst hlist hown hF hll hfl hys hcs hg;have C0:=hch;clear hch;have hd0:cs[j*6]?=some (cints x.a.sh):=by exact HG.out 0 (by omega)
   obtain ⟨u0,F0,q0,ho0,hsub0,hnext0⟩:=YC K0.out hd0;have HO0:=zH ho0;have HSUB0:=zH hsub0;have HNX0:=zH hnext0;clear hd0 ho0 hsub0 hnext0 K0;go_wp2_with fail;refine (Yh x.a.sh u0 F0 (k0+(trS xss j:Nat)) _ HO0.out (by omega) (by omega) (by omega)).mono ?_;rintro e w1 ⟨rfl,o2,c2⟩;have K1:=zH (HNX0.out w1 _ c2 o2);have C1:=zH (C0.out.trans (c2.mono fun y hy=>HSUB0.out y hy));clear o2 c2 q0 C0 HO0 HSUB0 HNX0;have hd1:(cs.set (j*6) (cints (marks (k0+(trS xss j:Nat)) x.a.sh.length)))[j*6+1]?=some (cints x.a.mc):=by rw [List.getElem?_set_ne (by omega)];exact HG.out 1 (by omega)
   obtain ⟨u1,F1,q1,ho1,hsub1,hnext1⟩:=YC K1.out hd1;have HO1:=zH ho1;have HSUB1:=zH hsub1;have HNX1:=zH hnext1;clear hd1 ho1 hsub1 hnext1 K1;go_wp2_with fail;refine (Yh x.a.mc u1 F1 (k0+(trS xss j:Nat)+x.a.sh.length) _ HO1.out (by omega) (by omega) (by omega)).mono ?_;rintro e w2 ⟨rfl,o2,c2⟩;have K2:=zH (HNX1.out w2 _ c2 o2);have C2:=zH (C1.out.trans (c2.mono fun y hy=>HSUB1.out y hy));clear o2 c2 q1 C1 HO1 HSUB1 HNX1;have hd2:((cs.set (j*6) (cints (marks (k0+(trS xss j:Nat)) x.a.sh.length))).set (j*6+1) (cints (marks (k0+(trS xss j:Nat)+x.a.sh.length) x.a.mc.length)))[j*6+2]?=some (cints x.b.sh):=by rw [List.getElem?_set_ne (by omega),List.getElem?_set_ne (by omega)];exact HG.out 2 (by omega)
   obtain ⟨u2,F2,q2,ho2,hsub2,hnext2⟩:=YC K2.out hd2;have HO2:=zH ho2;have HSUB2:=zH hsub2;have HNX2:=zH hnext2;clear hd2 ho2 hsub2 hnext2 K2;go_wp2_with fail;refine (Yh x.b.sh u2 F2 (k0+(trS xss j:Nat)+x.a.sh.length+x.a.mc.length) _ HO2.out (by omega) (by omega) (by omega)).mono ?_;rintro e w3 ⟨rfl,o2,c2⟩;have K3:=zH (HNX2.out w3 _ c2 o2);have C3:=zH (C2.out.trans (c2.mono fun y hy=>HSUB2.out y hy));clear o2 c2 q2 C2 HO2 HSUB2 HNX2;have hd3:(((cs.set (j*6) (cints (marks (k0+(trS xss j:Nat)) x.a.sh.length))).set (j*6+1) (cints (marks (k0+(trS xss j:Nat)+x.a.sh.length) x.a.mc.length))).set (j*6+2) (cints (marks (k0+(trS xss j:Nat)+x.a.sh.length+x.a.mc.length) x.b.sh.length)))[j*6+3]?=some (cints x.b.mc):=by rw [List.getElem?_set_ne (by omega),List.getElem?_set_ne (by omega),List.getElem?_set_ne (by omega)];exact HG.out 3 (by omega)
   obtain ⟨u3,F3,q3,ho3,hsub3,hnext3⟩:=YC K3.out hd3;have HO3:=zH ho3;have HSUB3:=zH hsub3;have HNX3:=zH hnext3;clear hd3 ho3 hsub3 hnext3 K3;go_wp2_with fail;refine (Yh x.b.mc u3 F3 (k0+(trS xss j:Nat)+x.a.sh.length+x.a.mc.length+x.b.sh.length) _ HO3.out (by omega) (by omega) (by omega)).mono ?_;rintro e w4 ⟨rfl,o2,c2⟩;have K4:=zH (HNX3.out w4 _ c2 o2);have C4:=zH (C3.out.trans (c2.mono fun y hy=>HSUB3.out y hy));clear o2 c2 q3 C3 HO3 HSUB3 HNX3;have hd4:((((cs.set (j*6) (cints (marks (k0+(trS xss j:Nat)) x.a.sh.length))).set (j*6+1) (cints (marks (k0+(trS xss j:Nat)+x.a.sh.length) x.a.mc.length))).set (j*6+2) (cints (marks (k0+(trS xss j:Nat)+x.a.sh.length+x.a.mc.length) x.b.sh.length))).set (j*6+3) (cints (marks (k0+(trS xss j:Nat)+x.a.sh.length+x.a.mc.length+x.b.sh.length) x.b.mc.length)))[j*6+4]?=some (cints x.c.sh):=by rw [List.getElem?_set_ne (by omega),List.getElem?_set_ne (by omega),List.getElem?_set_ne (by omega),List.getElem?_set_ne (by omega)];exact HG.out 4 (by omega)
   obtain ⟨u4,F4,q4,ho4,hsub4,hnext4⟩:=YC K4.out hd4;have HO4:=zH ho4;have HSUB4:=zH hsub4;have HNX4:=zH hnext4;clear hd4 ho4 hsub4 hnext4 K4;go_wp2_with fail;refine (Yh x.c.sh u4 F4 (k0+(trS xss j:Nat)+x.a.sh.length+x.a.mc.length+x.b.sh.length+x.b.mc.length) _ HO4.out (by omega) (by omega) (by omega)).mono ?_;rintro e w5 ⟨rfl,o2,c2⟩;have K5:=zH (HNX4.out w5 _ c2 o2);have C5:=zH (C4.out.trans (c2.mono fun y hy=>HSUB4.out y hy));clear o2 c2 q4 C4 HO4 HSUB4 HNX4;have hd5:(((((cs.set (j*6) (cints (marks (k0+(trS xss j:Nat)) x.a.sh.length))).set (j*6+1) (cints (marks (k0+(trS xss j:Nat)+x.a.sh.length) x.a.mc.length))).set (j*6+2) (cints (marks (k0+(trS xss j:Nat)+x.a.sh.length+x.a.mc.length) x.b.sh.length))).set (j*6+3) (cints (marks (k0+(trS xss j:Nat)+x.a.sh.length+x.a.mc.length+x.b.sh.length) x.b.mc.length))).set (j*6+4) (cints (marks (k0+(trS xss j:Nat)+x.a.sh.length+x.a.mc.length+x.b.sh.length+x.b.mc.length) x.c.sh.length)))[j*6+5]?=some (cints x.c.mc):=by rw [List.getElem?_set_ne (by omega),List.getElem?_set_ne (by omega),List.getElem?_set_ne (by omega),List.getElem?_set_ne (by omega),List.getElem?_set_ne (by omega)];exact HG.out 5 (by omega)
   obtain ⟨u5,F5,q5,ho5,hsub5,hnext5⟩:=YC K5.out hd5;have HO5:=zH ho5;have HSUB5:=zH hsub5;have HNX5:=zH hnext5;clear hd5 ho5 hsub5 hnext5 K5;go_wp2_with fail;refine (Yh x.c.mc u5 F5 (k0+(trS xss j:Nat)+x.a.sh.length+x.a.mc.length+x.b.sh.length+x.b.mc.length+x.c.sh.length) _ HO5.out (by omega) (by omega) (by omega)).mono ?_;rintro e w6 ⟨rfl,o2,c2⟩;have K6:=zH (HNX5.out w6 _ c2 o2);have C6:=zH (C5.out.trans (c2.mono fun y hy=>HSUB5.out y hy));clear o2 c2 q5 C5 HO5 HSUB5 HNX5
   have K7:Hid ((Zs ((mkTS k0 xss).take (j+1) ++ xss.drop (j+1))).own w6 F (.slice (some ⟨g,0,none⟩) n c)):=by
    have h9:=flat_setL (sz:=6) (F:=ctriple) (fun _=>rfl) (by omega) ys j (by rw [HLL.out];exact hlt) (x.mkd (k0+(trS xss j:Nat)));rw [HST.out,HCS.out] at h9;have k6:=K6.out
    have e:setL cs (j*6) (ctriple (x.mkd (k0+(trS xss j:Nat))))=((((((cs.set (j*6) (cints (marks (k0+(trS xss j:Nat)) x.a.sh.length))).set (j*6+1) (cints (marks (k0+(trS xss j:Nat)+x.a.sh.length) x.a.mc.length))).set (j*6+2) (cints (marks (k0+(trS xss j:Nat)+x.a.sh.length+x.a.mc.length) x.b.sh.length))).set (j*6+3) (cints (marks (k0+(trS xss j:Nat)+x.a.sh.length+x.a.mc.length+x.b.sh.length) x.b.mc.length))).set (j*6+4) (cints (marks (k0+(trS xss j:Nat)+x.a.sh.length+x.a.mc.length+x.b.sh.length+x.b.mc.length) x.c.sh.length))).set (j*6+5) (cints (marks (k0+(trS xss j:Nat)+x.a.sh.length+x.a.mc.length+x.b.sh.length+x.b.mc.length+x.c.sh.length) x.c.mc.length))):=by
     have z1:k0+(trS xss j:Nat)+(x.a.sz:Nat)=k0+(trS xss j:Nat)+x.a.sh.length+x.a.mc.length:=by have:x.a.sz=x.a.sh.length+x.a.mc.length:=rfl;omega
     have z2:k0+(trS xss j:Nat)+(x.a.sz:Nat)+(x.b.sz:Nat)=k0+(trS xss j:Nat)+x.a.sh.length+x.a.mc.length+x.b.sh.length+x.b.mc.length:=by have:x.a.sz=x.a.sh.length+x.a.mc.length:=rfl;have:x.b.sz=x.b.sh.length+x.b.mc.length:=rfl;omega
     unfold TrM.mkd;rw [z2,z1];rfl
    rw [e] at h9;rw [h9] at k6;exact k6
   clear K6;go_wp2_with fail
   go_roundw
   case rel=>exact ⟨j+1,by omega,by go_num,by rw [HS.out,hsz];go_num,K7.out,C6.out⟩
   case measure=>simp [intOf];omega
  ·have hjn:j=n:=by omega
   subst hjn;go_wp2_with fail;go_ret;have hF:=hown.out;have hl:=LX.out;rw [List.take_of_length_le (by rw [UF];omega),List.drop_of_length_le (by omega),List.append_nil] at hF;exact ⟨rfl,hF,hch.out⟩
theorem eqIntS_l (xs:List (Int)) (v u:Value) (w:World) (h:(cints xs).rd w v) (k:(cints xs).rd w u) (hn:xs.length≤2097152) :
  Calls Tryz.prog 15 #[v,u] w fun e w'=>e=.returned (.bool true)∧w.grownBy w' none:=by
 obtain ⟨A,c,rfl,hc,hm,hI⟩:=ZX (s:=1) (fun _=>rfl) (by omega) h;obtain ⟨B,d,rfl,hd,_,hJ⟩:=ZX (s:=1) (fun _=>rfl) (by omega) k;refine (eqIntS_c A B _ _ c d xs xs w (by have:=hI.rd;rw [Yl] at this;exact this) (by have:=hJ.rd;rw [Yl] at this;exact this) (by omega) (by omega)).mono ?_;rintro e w' ⟨rfl,q,rfl⟩;exact ⟨by rw [beq_self_eq_true],gbDN (gbR _ _) _⟩
theorem markIntS_l (xs:List (Int)) (v:Value) (F:List Nat) (k0:Int) (w:World) (h:(cints xs).own w F v) (hn:xs.length≤2097152) (h0:0≤k0) (h1:k0≤549755813888) :
  Calls Tryz.prog 20 #[v,.int .i64 k0] w fun e w'=>e=.returned (.int .i64 (k0+xs.length))∧(cints (marks k0 xs.length)).own w' F v∧Chg (fun g=>g∈F) w w':=by
 obtain ⟨A,c,rfl,hF,hr⟩:=Wu (s:=1) (fun _=>rfl) (by omega) h;refine (markIntS_c 0 A _ c xs k0 w (by have:=hr 0 (fun _ _=>Nat.zero_le _);rw [Yl] at this;exact this) (by omega) h0 (by omega)).mono ?_;rintro e w' ⟨rfl,ho,hg⟩;subst hF;exact ⟨rfl,(by rw [← Yl] at ho;exact Xl (s:=1) (fun _=>rfl) (by omega) UR ho),Chg.of hg fun g hg'=>by rw [← ownB A xs.length c] at hg';rw [hg'];simp⟩
theorem heldIntS_l (n:Nat) (v:Value) (k0:Int) (w:World) (h:(cints (marks k0 n)).rd w v) (hn:n≤2097152) (h0:0≤k0) (h1:k0≤549755813888) :
  Calls Tryz.prog 21 #[v,.int .i64 k0] w fun e w'=>e=.returned (.int .i64 (k0+n))∧w.grownBy w' none:=by
 obtain ⟨A,c,rfl,hc,hm,hI⟩:=ZX (s:=1) (fun _=>rfl) (by omega) h;have hl:(marks k0 n).length=n:=by simp [marks]
 rw [hl] at hI ⊢;refine (heldIntS_c A n c k0 w (by have:=hI.rd;rw [Yl] at this;exact this) (by omega) h0 (by omega)).mono ?_;rintro e w' ⟨rfl,rfl⟩;exact ⟨rfl,gbR _ _⟩
def EM.prt (m:EM):Prop:=m.k.sz≤1048576∧m.c.sz≤1048576∧szA m.vs≤1048576∧m.op.length≤2097152
theorem EM.prt_bd {m:EM} (h:m.prt):1≤m.cnt 1∧m.cnt 1≤16777216:=by
 obtain ⟨hz1,hz2,hz3,hz4⟩:m.k.al.length≤1048576∧m.c.st.length+m.c.outs.length≤1048576∧m.vs.length+auS m.vs m.vs.length≤1048576∧m.op.length≤2097152:=h;have hc:m.cnt 1=1+m.k.al.length+3*m.c.st.length+m.c.outs.length+(auS m.vs m.vs.length:Nat)+m.op.length:=rfl;rw [hc];omega
set_option maxHeartbeats 4000000 in
set_option maxRecDepth 100000 in
theorem VV (m:EM) (v u:Value) (w:World) (h:AggR w (Zd m) v) (k:AggR w (Zd m) u) (hn:m.prt) :
  Calls Tryz.prog 28 #[v,u] w fun e w'=>e=.returned (.bool true)∧w.grownBy w' none:=by
 obtain ⟨A,B,C,D,E,a,b,c,d,e,rfl,hR⟩:=Zo h;obtain ⟨A',B',C',D',E',a',b',c',d',e',rfl,hQ⟩:=Zo k;have HN:=zH hn;obtain ⟨x0,hx0⟩:∃x:World,(w.alloc (.cells #[.int .i64 m.k.p,.slice A m.k.al.length a,.int .i64 m.c.p,.slice B m.c.st.length b,.slice C m.c.outs.length c,.slice D m.vs.length d,.slice E m.op.length e,.int .i64 m.rd,.bool m.bad] 58)).alloc (.cells #[.int .i64 m.k.p,.slice A' m.k.al.length a',.int .i64 m.c.p,.slice B' m.c.st.length b',.slice C' m.c.outs.length c',.slice D' m.vs.length d',.slice E' m.op.length e',.int .i64 m.rd,.bool m.bad] 58)=x:=⟨_,rfl⟩;have GG:Hid (w.grownBy x0 none):=by rw [← hx0];exact gbA (gbA (gbR _ _) _) _
 have S0:Hid (Blk x0 w.heap.size 58 #[.int .i64 m.k.p,.slice A m.k.al.length a,.int .i64 m.c.p,.slice B m.c.st.length b,.slice C m.c.outs.length c,.slice D m.vs.length d,.slice E m.op.length e,.int .i64 m.rd,.bool m.bad]):=by rw [← hx0];exact (Blk.new w _ _).grow (gbA (gbR _ _) _)
 have T0:Hid (Blk x0 (w.heap.size+1) 58 #[.int .i64 m.k.p,.slice A' m.k.al.length a',.int .i64 m.c.p,.slice B' m.c.st.length b',.slice C' m.c.outs.length c',.slice D' m.vs.length d',.slice E' m.op.length e',.int .i64 m.rd,.bool m.bad]):=by rw [← hx0];exact Blk.new' _ _ _ _ (by simp)
 have RR:=zH hR;have QQ:=zH hQ;clear h k hn hR hQ
 go_enter Tryz.func28,Tryz.ntmps28
 have s0:=S0.out.cell 0;have t0:=T0.out.cell 0;have s1:=S0.out.cell 1;have t1:=T0.out.cell 1;simp only [List.getElem?_toArray,List.getElem?_cons_succ,List.getElem?_cons_zero] at s0 t0 s1 t1;go_wp2_with fail;clear s0 t0 s1 t1 hx0;refine (eqKeys_k m.k _ _ _ (RR.out.grow GG.out).ky (QQ.out.grow GG.out).ky (by have:=HN.out;first | exact this.1 | exact this.2.1 | exact this.2.2.1 | exact this.2.2.2)).mono ?_;rintro e' x1 ⟨rfl,gg⟩;have S1:=zH (S0.out.grow gg);have T1:=zH (T0.out.grow gg);have G1:=zH (gbT GG.out gg);clear S0 T0 GG gg;have S0:=S1;have T0:=T1;have GG:=G1;clear S1 T1 G1;have s2:=S0.out.cell 2;have t2:=T0.out.cell 2;have s3:=S0.out.cell 3;have t3:=T0.out.cell 3;have s4:=S0.out.cell 4;have t4:=T0.out.cell 4;simp only [List.getElem?_toArray,List.getElem?_cons_succ,List.getElem?_cons_zero] at s2 t2 s3 t3 s4 t4;go_wp2_with fail;clear s2 t2 s3 t3 s4 t4;refine (eqArith_k m.c _ _ _ (RR.out.grow GG.out).ar (QQ.out.grow GG.out).ar (by have:=HN.out;first | exact this.1 | exact this.2.1 | exact this.2.2.1 | exact this.2.2.2)).mono ?_;rintro e' x2 ⟨rfl,gg⟩;have S1:=zH (S0.out.grow gg);have T1:=zH (T0.out.grow gg);have G1:=zH (gbT GG.out gg);clear S0 T0 GG gg;have S0:=S1;have T0:=T1;have GG:=G1;clear S1 T1 G1;have s5:=S0.out.cell 5;have t5:=T0.out.cell 5;simp only [List.getElem?_toArray,List.getElem?_cons_succ,List.getElem?_cons_zero] at s5 t5;go_wp2_with fail;clear s5 t5;refine (eqAuthS_z m.vs _ _ _ (RR.out.grow GG.out).va (QQ.out.grow GG.out).va (by have:=HN.out;first | exact this.1 | exact this.2.1 | exact this.2.2.1 | exact this.2.2.2)).mono ?_;rintro e' x3 ⟨rfl,gg⟩;have S1:=zH (S0.out.grow gg);have T1:=zH (T0.out.grow gg);have G1:=zH (gbT GG.out gg);clear S0 T0 GG gg;have S0:=S1;have T0:=T1;have GG:=G1;clear S1 T1 G1;have s6:=S0.out.cell 6;have t6:=T0.out.cell 6;simp only [List.getElem?_toArray,List.getElem?_cons_succ,List.getElem?_cons_zero] at s6 t6;go_wp2_with fail;clear s6 t6;refine (eqIntS_l m.op _ _ _ (RR.out.grow GG.out).opn (QQ.out.grow GG.out).opn (by have:=HN.out;first | exact this.1 | exact this.2.1 | exact this.2.2.1 | exact this.2.2.2)).mono ?_;rintro e' x4 ⟨rfl,gg⟩;have S1:=zH (S0.out.grow gg);have T1:=zH (T0.out.grow gg);have G1:=zH (gbT GG.out gg);clear S0 T0 GG gg;have S0:=S1;have T0:=T1;have GG:=G1;clear S1 T1 G1;have s7:=S0.out.cell 7;have t7:=T0.out.cell 7;have s8:=S0.out.cell 8;have t8:=T0.out.cell 8;simp only [List.getElem?_toArray,List.getElem?_cons_succ,List.getElem?_cons_zero] at s7 t7 s8 t8;go_wp2_with fail;clear s7 t7 s8 t8;go_ret;exact ⟨rfl,GG.out⟩
set_option maxHeartbeats 4000000 in
set_option maxRecDepth 100000 in
theorem markEngine_p (m:EM) (v:Value) (F:List Nat) (k:Int) (w:World) (h:AggO w (Zd m) F v) (hn:m.prt) (h0:0≤k) (h1:k≤1073741824) :
  Calls Tryz.prog 30 #[v,.int .i64 k] w fun e w'=>e=.returned (.int .i64 (m.cnt k))∧AggO w' (Zd (m.mkd k)) F v∧Chg (fun g=>g∈F) w w':=by
 obtain ⟨u1,u3,u4,u5,u6,F1,F3,F4,F5,F6,rfl,rfl,o1,o3,o4,o5,o6,d13,d14,d15,d16,d34,d35,d36,d45,d46,d56⟩:=VA h;have D13:=zH d13;have D14:=zH d14;have D15:=zH d15;have D16:=zH d16;have D34:=zH d34;have D35:=zH d35;have D36:=zH d36;have D45:=zH d45;have D46:=zH d46;have D56:=zH d56;have HF1:=zH (Um o1);have HF3:=zH (own_F3 o3);have HF4:=zH (Um o4);have V1:Hid (∀g∈[[],F1].flatten,g<w.heap.size):=zH (fun g hg=>CS.lt _ o1 g (by simpa using hg));have V2:Hid (∀g∈[[],F3,F4].flatten,g<w.heap.size):=zH (fun g hg=>by simp at hg;rcases hg with hg | hg;exact CS.lt _ o3 g hg;exact CS.lt _ o4 g hg);have V5:Hid (∀g∈F5,g<w.heap.size):=zH (CS.lt _ o5);have V6:Hid (∀g∈F6,g<w.heap.size):=zH (CS.lt _ o6);have k0:m.k.cnt k=k+m.k.al.length:=rfl;have k1:∀q,m.c.cnt q=q+3*m.c.st.length+m.c.outs.length:=fun _=>rfl;obtain ⟨hz1,hz2,hz3,hz4⟩:m.k.al.length≤1048576∧m.c.st.length+m.c.outs.length≤1048576∧m.vs.length+auS m.vs m.vs.length≤1048576∧m.op.length≤2097152:=hn;have kb0:0≤m.k.cnt k∧m.k.cnt k≤1073741824+1048576:=by rw [k0];omega
 have kb1:0≤m.c.cnt (m.k.cnt k)∧m.c.cnt (m.k.cnt k)≤1073741824+8388608:=by rw [k1,k0];omega
 have HK0:=zH k0;have HK1:=zH k1;clear k0 k1;obtain ⟨c0,hc0⟩:∃x,m.k.cnt k=x:=⟨_,rfl⟩;obtain ⟨c1,hc1⟩:∃x,m.c.cnt (m.k.cnt k)=x:=⟨_,rfl⟩;have HC0:=zH hc0;have HC1:=zH (show m.c.cnt c0=c1 by rw [← hc0];exact hc1);rw [hc0] at kb0;rw [hc1] at kb1;clear hc0 hc1;have G0:=zH (gbA (gbR w none) (.cells #[.int .i64 m.k.p,u1,.int .i64 m.c.p,u3,u4,u5,u6,.int .i64 m.rd,.bool m.bad] 58));have B0:=zH (Blk.new w 58 #[.int .i64 m.k.p,u1,.int .i64 m.c.p,u3,u4,u5,u6,.int .i64 m.rd,.bool m.bad]);obtain ⟨x0,hx0⟩:∃x:World,w.alloc (.cells #[.int .i64 m.k.p,u1,.int .i64 m.c.p,u3,u4,u5,u6,.int .i64 m.rd,.bool m.bad] 58)=x:=⟨_,rfl⟩;rw [hx0] at G0 B0;have M0:Hid (Chg (fun g=>g∈[[],F1,[],F3,F4,F5,F6,[],[]].flatten) x0 x0):=Chg.refl _ _;have PK:=zH (AggO.grow (XN o1) G0.out);have PA:=zH (AggO.grow (WF o3 o4 d34) G0.out);have P5:=zH (Zj _ o5 G0.out);have P6:=zH (Zj _ o6 G0.out);clear h o1 o3 o4 o5 o6 d13 d14 d15 d16 d34 d35 d36 d45 d46 d56
 go_enter Tryz.func30,Tryz.ntmps30
 have s0:=B0.out.cell 0;have s1:=B0.out.cell 1;simp only [List.getElem?_toArray,List.getElem?_cons_succ,List.getElem?_cons_zero] at s0 s1;go_wp2_with fail;clear s0 s1 hx0;refine (markKeys_k m.k _ _ k _ PK.out (by unfold KM.sz;omega) (by omega) (by omega)).mono ?_;rintro e' x1 ⟨rfl,oo,gg⟩;rw [HC0.out];have NN:=zH oo
 have EE:=zH (AggO.chg PA.out gg (fun g hg hg'=>by
  have q1:g∈F3∨g∈F4:=by simpa using hg
  have q2:g∈F1:=by simpa using hg'
  rcases q1 with h1 | h1 <;> have h2:=q2 <;> first | exact D13.out g h2 h1 | exact D14.out g h2 h1))
 clear PA;have PA:=EE;clear EE
 have EE:=zH (ZO _ P5.out gg (fun g hg hg'=>by
  have q1:g∈F5:=by simpa using hg
  have q2:g∈F1:=by simpa using hg'
  have h1:=q1;have h2:=q2
  exact D15.out g h2 h1))
 clear P5;have P5:=EE;clear EE
 have EE:=zH (ZO _ P6.out gg (fun g hg hg'=>by
  have q1:g∈F6:=by simpa using hg
  have q2:g∈F1:=by simpa using hg'
  have h1:=q1;have h2:=q2
  exact D16.out g h2 h1))
 clear P6;have P6:=EE;clear EE;clear PK;have PK:=NN;clear NN;have B1:=zH (ZP B0.out gg (fun hg=>by have:=V1.out _ hg;omega));have M1:=zH (M0.out.trans (gg.mono (fun g hg=>by simp at hg ⊢;exact .inl hg)));clear B0 M0 oo gg;have B0:=B1;have M0:=M1;clear B1 M1;have s2:=B0.out.cell 2;have s3:=B0.out.cell 3;have s4:=B0.out.cell 4;simp only [List.getElem?_toArray,List.getElem?_cons_succ,List.getElem?_cons_zero] at s2 s3 s4;go_wp2_with fail;clear s2 s3 s4;refine (UV m.c _ _ c0 _ PA.out (by unfold AM.sz;omega) (by omega) (by omega)).mono ?_;rintro e' x2 ⟨rfl,oo,gg⟩;rw [HC1.out];have NN:=zH oo
 have EE:=zH (AggO.chg PK.out gg (fun g hg hg'=>by
  have q1:g∈F1:=by simpa using hg
  have q2:g∈F3∨g∈F4:=by simpa using hg'
  have h1:=q1 <;> rcases q2 with h2 | h2 <;> first | exact D13.out g h1 h2 | exact D14.out g h1 h2))
 clear PK;have PK:=EE;clear EE
 have EE:=zH (ZO _ P5.out gg (fun g hg hg'=>by
  have q1:g∈F5:=by simpa using hg
  have q2:g∈F3∨g∈F4:=by simpa using hg'
  have h1:=q1 <;> rcases q2 with h2 | h2 <;> first | exact D35.out g h2 h1 | exact D45.out g h2 h1))
 clear P5;have P5:=EE;clear EE
 have EE:=zH (ZO _ P6.out gg (fun g hg hg'=>by
  have q1:g∈F6:=by simpa using hg
  have q2:g∈F3∨g∈F4:=by simpa using hg'
  have h1:=q1 <;> rcases q2 with h2 | h2 <;> first | exact D36.out g h2 h1 | exact D46.out g h2 h1))
 clear P6;have P6:=EE;clear EE;clear PA;have PA:=NN;clear NN;have B1:=zH (ZP B0.out gg (fun hg=>by have:=V2.out _ hg;omega));have M1:=zH (M0.out.trans (gg.mono (fun g hg=>by simp at hg ⊢;rcases hg with hg | hg <;> simp [hg])));clear B0 M0 oo gg;have B0:=B1;have M0:=M1;clear B1 M1;have s5:=B0.out.cell 5;simp only [List.getElem?_toArray,List.getElem?_cons_succ,List.getElem?_cons_zero] at s5;go_wp2_with fail;clear s5;refine (Qn m.vs _ F5 c1 _ P5.out (by unfold szA;omega) (by omega) (by omega)).mono ?_;rintro e' x3 ⟨rfl,oo,gg⟩;have NN:=zH oo
 have EE:=zH (AggO.chg PK.out gg (fun g hg hg'=>by
  have q1:g∈F1:=by simpa using hg
  have q2:g∈F5:=by simpa using hg'
  have h1:=q1;have h2:=q2
  exact D15.out g h1 h2))
 clear PK;have PK:=EE;clear EE
 have EE:=zH (AggO.chg PA.out gg (fun g hg hg'=>by
  have q1:g∈F3∨g∈F4:=by simpa using hg
  have q2:g∈F5:=by simpa using hg'
  rcases q1 with h1 | h1 <;> have h2:=q2 <;> first | exact D35.out g h1 h2 | exact D45.out g h1 h2))
 clear PA;have PA:=EE;clear EE
 have EE:=zH (ZO _ P6.out gg (fun g hg hg'=>by
  have q1:g∈F6:=by simpa using hg
  have q2:g∈F5:=by simpa using hg'
  have h1:=q1;have h2:=q2
  exact D56.out g h2 h1))
 clear P6;have P6:=EE;clear EE;clear P5;have P5:=NN;clear NN;have B1:=zH (ZP B0.out gg (fun hg=>by have:=V5.out _ hg;omega));have M1:=zH (M0.out.trans (gg.mono (fun g hg=>by simp at hg ⊢;simp [hg])));clear B0 M0 oo gg;have B0:=B1;have M0:=M1;clear B1 M1;have s6:=B0.out.cell 6;simp only [List.getElem?_toArray,List.getElem?_cons_succ,List.getElem?_cons_zero] at s6;go_wp2_with fail;clear s6;refine (markIntS_l m.op _ F6 (c1+(auS m.vs m.vs.length:Nat)) _ P6.out (by omega) (by omega) (by omega)).mono ?_;rintro e' x4 ⟨rfl,oo,gg⟩;have NN:=zH oo
 have EE:=zH (AggO.chg PK.out gg (fun g hg hg'=>by
  have q1:g∈F1:=by simpa using hg
  have q2:g∈F6:=by simpa using hg'
  have h1:=q1;have h2:=q2
  exact D16.out g h1 h2))
 clear PK;have PK:=EE;clear EE
 have EE:=zH (AggO.chg PA.out gg (fun g hg hg'=>by
  have q1:g∈F3∨g∈F4:=by simpa using hg
  have q2:g∈F6:=by simpa using hg'
  rcases q1 with h1 | h1 <;> have h2:=q2 <;> first | exact D36.out g h1 h2 | exact D46.out g h1 h2))
 clear PA;have PA:=EE;clear EE
 have EE:=zH (ZO _ P5.out gg (fun g hg hg'=>by
  have q1:g∈F5:=by simpa using hg
  have q2:g∈F6:=by simpa using hg'
  have h1:=q1;have h2:=q2
  exact D56.out g h1 h2))
 clear P5;have P5:=EE;clear EE;clear P6;have P6:=NN;clear NN;have B1:=zH (ZP B0.out gg (fun hg=>by have:=V6.out _ hg;omega));have M1:=zH (M0.out.trans (gg.mono (fun g hg=>by simp at hg ⊢;simp [hg])));clear B0 M0 oo gg;have B0:=B1;have M0:=M1;clear B1 M1;go_wp2_with fail;go_ret;obtain ⟨t1,G1',e1,_,r1⟩:=Wd PK.out;injection e1 with e1;injection e1 with e1;injection e1 with _ e1;injection e1 with e1 _;subst e1;have hG1:=Um r1;obtain ⟨t3,t4,G3',G4',e2,_,r3,r4,_⟩:=XI PA.out;injection e2 with e2;injection e2 with e2;injection e2 with _ e2;injection e2 with e3 e2;injection e2 with e4 _;subst e3;subst e4;have hG3:=own_F3 r3;have hG4:=Um r4;rw [hG1,← HF1.out] at r1;rw [hG3,← HF3.out] at r3;rw [hG4,← HF4.out] at r4;have hM:=M0.out;have r5:=P5.out;have r6:=P6.out;rw [← HC1.out,← HC0.out] at r5 r6;rw [← HC0.out] at r3 r4;refine ⟨retI (by rw [← HC1.out,← HC0.out];rfl),Qo (m:=m.mkd k) r1 r3 r4 r5 r6 D13.out D14.out D15.out D16.out D34.out D35.out D36.out D45.out D46.out D56.out,⟨hM.os.trans G0.out.os,hM.tape.trans G0.out.tape,hM.output.trans G0.out.output,Nat.le_trans G0.out.size hM.size,fun i hi hs=>(hM.block i (Nat.lt_of_lt_of_le hi G0.out.size) hs).trans (G0.out.block i hi (by simp))⟩⟩
set_option maxHeartbeats 4000000 in
set_option maxRecDepth 100000 in
theorem Un (m:EM) (v:Value) (k:Int) (w:World) (h:AggR w (Zd (m.mkd k)) v) (hn:m.prt) (h0:0≤k) (h1:k≤1073741824) :
  Calls Tryz.prog 32 #[v,.int .i64 k] w fun e w'=>e=.returned (.int .i64 (m.cnt k))∧w.grownBy w' none:=by
 obtain ⟨A,B,C,D,E,a,b,c,d,e,rfl,hR⟩:=Zo h;have k0:m.k.cnt k=k+m.k.al.length:=rfl;have k1:∀q,m.c.cnt q=q+3*m.c.st.length+m.c.outs.length:=fun _=>rfl;obtain ⟨hz1,hz2,hz3,hz4⟩:m.k.al.length≤1048576∧m.c.st.length+m.c.outs.length≤1048576∧m.vs.length+auS m.vs m.vs.length≤1048576∧m.op.length≤2097152:=hn;have kb0:0≤m.k.cnt k∧m.k.cnt k≤1073741824+1048576:=by rw [k0];omega
 have kb1:0≤m.c.cnt (m.k.cnt k)∧m.c.cnt (m.k.cnt k)≤1073741824+8388608:=by rw [k1,k0];omega
 clear k0 k1;have HF:Hid (m.mkd k=⟨m.k.mkd k,m.c.mkd (m.k.cnt k),mkAS (m.c.cnt (m.k.cnt k)) m.vs,marks (m.c.cnt (m.k.cnt k)+(auS m.vs m.vs.length:Nat)) m.op.length,m.rd,m.bad⟩):=rfl;obtain ⟨M,hM⟩:∃x,m.mkd k=x:=⟨_,rfl⟩;have HCN:Hid (m.cnt k=m.c.cnt (m.k.cnt k)+(auS m.vs m.vs.length:Nat)+m.op.length):=rfl;rw [hM] at hR ⊢ HF;have RK:Hid (M.k=m.k.mkd k):=by rw [HF.out];exact zH rfl
 have RA:Hid (M.c=m.c.mkd (m.k.cnt k)):=by rw [HF.out];exact zH rfl
 have RV:Hid (M.vs=mkAS (m.c.cnt (m.k.cnt k)) m.vs):=by rw [HF.out];exact zH rfl
 have RO:Hid (M.op=marks (m.c.cnt (m.k.cnt k)+(auS m.vs m.vs.length:Nat)) m.op.length):=by rw [HF.out];exact zH rfl
 obtain ⟨c0,hc0⟩:∃x,m.k.cnt k=x:=⟨_,rfl⟩;obtain ⟨c1,hc1⟩:∃x,m.c.cnt c0=x:=⟨_,rfl⟩;rw [hc0] at kb0 kb1 RA RV RO HCN;rw [hc1] at kb1 RV RO HCN;have HC0:=zH hc0;have HC1:=zH hc1;clear hc0 hc1 hM HF;obtain ⟨x0,hx0⟩:∃x:World,w.alloc (.cells #[.int .i64 M.k.p,.slice A M.k.al.length a,.int .i64 M.c.p,.slice B M.c.st.length b,.slice C M.c.outs.length c,.slice D M.vs.length d,.slice E M.op.length e,.int .i64 M.rd,.bool M.bad] 58)=x:=⟨_,rfl⟩;have GG:Hid (w.grownBy x0 none):=by rw [← hx0];exact gbA (gbR _ _) _
 have S0:Hid (Blk x0 w.heap.size 58 #[.int .i64 M.k.p,.slice A M.k.al.length a,.int .i64 M.c.p,.slice B M.c.st.length b,.slice C M.c.outs.length c,.slice D M.vs.length d,.slice E M.op.length e,.int .i64 M.rd,.bool M.bad]):=by rw [← hx0];exact Blk.new w _ _
 have RR:=zH hR;clear h hR
 go_enter Tryz.func32,Tryz.ntmps32
 have s0:=S0.out.cell 0;have s1:=S0.out.cell 1;simp only [List.getElem?_toArray,List.getElem?_cons_succ,List.getElem?_cons_zero] at s0 s1;go_wp2_with fail;clear s0 s1 hx0;refine (heldKeys_k m.k _ k _ (by rw [← RK.out];exact (RR.out.grow GG.out).ky) (by unfold KM.sz;omega) (by omega) (by omega)).mono ?_;rintro e' x1 ⟨rfl,gg⟩;rw [HC0.out];have S1:=zH (S0.out.grow gg);have G1:=zH (gbT GG.out gg);clear S0 GG gg;have S0:=S1;have GG:=G1;clear S1 G1;have n0:¬c0<0:=by omega
 have s2:=S0.out.cell 2;have s3:=S0.out.cell 3;have s4:=S0.out.cell 4;simp only [List.getElem?_toArray,List.getElem?_cons_succ,List.getElem?_cons_zero] at s2 s3 s4;go_wp2_with fail;clear s2 s3 s4;refine (heldArith_k m.c _ c0 _ (by rw [← RA.out];exact (RR.out.grow GG.out).ar) (by unfold AM.sz;omega) (by omega) (by omega)).mono ?_;rintro e' x2 ⟨rfl,gg⟩;rw [HC1.out];have S1:=zH (S0.out.grow gg);have G1:=zH (gbT GG.out gg);clear S0 GG gg;have S0:=S1;have GG:=G1;clear S1 G1;have n1:¬c1<0:=by omega
 have s5:=S0.out.cell 5;simp only [List.getElem?_toArray,List.getElem?_cons_succ,List.getElem?_cons_zero] at s5;go_wp2_with fail;clear s5;refine (heldAuthS_z m.vs _ c1 _ (by rw [← RV.out];exact (RR.out.grow GG.out).va) (by unfold szA;omega) (by omega) (by omega)).mono ?_;rintro e' x3 ⟨rfl,gg⟩;have S1:=zH (S0.out.grow gg);have G1:=zH (gbT GG.out gg);clear S0 GG gg;have S0:=S1;have GG:=G1;clear S1 G1;have n2:¬c1+((auS m.vs m.vs.length:Nat):Int)<0:=by omega
 have s6:=S0.out.cell 6;simp only [List.getElem?_toArray,List.getElem?_cons_succ,List.getElem?_cons_zero] at s6;go_wp2_with fail;clear s6;refine (heldIntS_l m.op.length _ (c1+(auS m.vs m.vs.length:Nat)) _ (by rw [← RO.out];exact (RR.out.grow GG.out).opn) (by omega) (by omega) (by omega)).mono ?_;rintro e' x4 ⟨rfl,gg⟩;have S1:=zH (S0.out.grow gg);have G1:=zH (gbT GG.out gg);clear S0 GG gg;have S0:=S1;have GG:=G1;clear S1 G1;have n3:¬c1+((auS m.vs m.vs.length:Nat):Int)+(m.op.length:Int)<0:=by omega
 go_wp2_with fail;go_ret;exact ⟨retI (by rw [HCN.out]),GG.out⟩
end Go.Proofs.YthaadgdeadbhkaaGreat
