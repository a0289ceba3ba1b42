/-
  FnExactOutcomeOf's core (printed by wip/gen_exrun.py).
-/
import Derived.Test.YthaadgdeadbhkaaGreatMgFnExactOutcomeOf44
open Go.RowKit
set_option linter.unusedVariables false
set_option linter.unusedSimpArgs false
namespace Go.Proofs.YthaadgdeadbhkaaGreat
attribute [local simp] depsF bindE List.filter_cons Zx Zo Zp Zq Zy ZT fAt Zw isV puts dsts Act.put
set_option maxRecDepth 100000 in
set_option maxHeartbeats 2000000 in
theorem FnExactOutcomeOf.core (kk:KM) (cc:AM) (ins:List Int) (es:List Int) (ts ta:Int) (r0:Int) (w:World) (v0 v1 v2 v4:Value) (ha0:AggR w (ckeys kk) v0) (ha1:AggR w (carith cc) v1) (ha2:(cints ins).rd w v2) (ha4:(cints es).rd w v4) (hz0:kk.sz≤1048576) (hz1:cc.sz≤1048576 - kk.sz) (hz2:ins.length≤1048576) (hz4:es.length≤1048576)
    (hs:∀(w:World) (v0 v1 v2 v4:Value),AggR w (ckeys kk) v0→AggR w (carith cc) v1→(cints ins).rd w v2→(cints es).rd w v4→Calls Tryz.prog 33 #[v0,v1,v2,.agg #[.int .i64 ts,.int .i64 ta],v4] w fun e w'=>e=.returned (.int .i64 r0)∧w.grownBy w' none)
    (hi:∀(w:World) (v0 v1 v2 v4:Value),AggR w (ckeys kk) v0→AggR w (carith cc) v1→(cints ins).rd w v2→(cints es).rd w v4→Calls Tryz.prog 34 #[v0,v1,v2,.agg #[.int .i64 ts,.int .i64 ta],v4] w fun e w'=>e=.returned (.int .i64 r0)∧w.grownBy w' none) :
    Calls Tryz.prog 5 #[v0,v1,v2,.agg #[.int .i64 ts,.int .i64 ta],v4] w fun e w'=>e=.returned (.bool true)∧w.grownBy w' none:=by
  have HS:=zH hs;have HI:=zH hi;obtain ⟨p0_1,rfl,_⟩:=YJ (m:=kk) ha0;obtain ⟨p1_1,p1_2,rfl,_,_⟩:=Zu (m:=cc) ha1;obtain ⟨pa2,pc2,rfl,_,_,_⟩:=ZB ha2;have hb2:¬(1048576:Int)<(ins.length:Int):=by omega
  obtain ⟨pa4,pc4,rfl,_,_,_⟩:=ZB ha4;have hb4:¬(1048576:Int)<(es.length:Int):=by omega
  have kc0:1≤kk.cnt 1∧kk.cnt 1≤4194304:=by
    have h1:kk.cnt 1=1+kk.al.length:=rfl;have h3:kk.sz=kk.al.length:=rfl;omega
  have kc1:1≤cc.cnt (kk.cnt 1)∧cc.cnt (kk.cnt 1)≤8388608:=by
    have h2:cc.cnt (kk.cnt 1)=kk.cnt 1+3*cc.st.length+cc.outs.length:=rfl;have h4:cc.sz=cc.st.length+cc.outs.length:=rfl;omega
  have HA0:=zH ha0;have HZ0:=zH hz0;have HA1:=zH ha1;have HZ1:=zH hz1;have HA2:=zH ha2;have HZ2:=zH hz2;have HA4:=zH ha4;have HZ4:=zH hz4;clear hs hi ha0 ha1 ha2 ha4 hz0 hz1 hz2 hz4;obtain ⟨y,hyy⟩:∃q:World,(((w).alloc (.cells #[.int .i64 kk.p,p0_1] 24)).alloc (.cells #[.int .i64 cc.p,p1_1,p1_2] 27)).alloc (.cells #[.int .i64 ts,.int .i64 ta] 29)=q:=⟨_,rfl⟩;have G:Hid (w.grownBy y none):=by rw [← hyy];exact gbA (gbA (gbA (gbR _ _) _) _) _
  have z00:w.heap.size+3≤y.heap.size:=by rw [← hyy];simp
  have B0:Hid (Blk y (w.heap.size) 24 #[.int .i64 kk.p,p0_1]):=by rw [← hyy];exact ((Blk.new w _ _).grow (gbA (gbR _ _) _)).grow (gbA (gbR _ _) _)
  have B1:Hid (Blk y (w.heap.size+1) 27 #[.int .i64 cc.p,p1_1,p1_2]):=by rw [← hyy];exact (Blk.new' _ _ _ _ (by simp)).grow (gbA (gbR _ _) _)
  have BT:Hid (Blk y (w.heap.size+1+1) 29 #[.int .i64 ts,.int .i64 ta]):=by rw [← hyy];exact Blk.new' _ _ _ _ (by simp)
  go_enter Tryz.func5,Tryz.ntmps5
  have k_B0_0:=B0.out.cell 0;have k_B0_1:=B0.out.cell 1;have k_B1_0:=B1.out.cell 0;have k_B1_1:=B1.out.cell 1;have k_B1_2:=B1.out.cell 2;have k_BT_0:=BT.out.cell 0;have k_BT_1:=BT.out.cell 1;simp at k_B0_0 k_B0_1 k_B1_0 k_B1_1 k_B1_2 k_BT_0 k_BT_1;go_wp2_with fail;clear k_B0_0 k_B0_1 k_B1_0 k_B1_1 k_B1_2 k_BT_0 k_BT_1;clear hyy;refine (szKeys_k kk _ (1048576) _ (AggR.grow HA0.out G.out) (by omega)).mono ?_;rintro e y ⟨rfl,g⟩;rw [Ww HZ0.out];replace B0:=zH (Blk.grow B0.out g);replace B1:=zH (Blk.grow B1.out g);replace BT:=zH (Blk.grow BT.out g);have z1:=World.grownBy.size g
  try simp at z1
  replace G:=zH (gbT G.out g);clear g;have k_B0_0:=B0.out.cell 0;have k_B0_1:=B0.out.cell 1;have k_B1_0:=B1.out.cell 0;have k_B1_1:=B1.out.cell 1;have k_B1_2:=B1.out.cell 2;have k_BT_0:=BT.out.cell 0;have k_BT_1:=BT.out.cell 1;simp at k_B0_0 k_B0_1 k_B1_0 k_B1_1 k_B1_2 k_BT_0 k_BT_1;go_wp2_with fail;clear k_B0_0 k_B0_1 k_B1_0 k_B1_1 k_B1_2 k_BT_0 k_BT_1;refine (szArith_k cc _ (1048576 - kk.sz) _ (AggR.grow HA1.out G.out) (by omega)).mono ?_;rintro e y ⟨rfl,g⟩;rw [Ww HZ1.out];replace B0:=zH (Blk.grow B0.out g);replace B1:=zH (Blk.grow B1.out g);replace BT:=zH (Blk.grow BT.out g);have z2:=World.grownBy.size g
  try simp at z2
  replace G:=zH (gbT G.out g);clear g;have k_B0_0:=B0.out.cell 0;have k_B0_1:=B0.out.cell 1;have k_B1_0:=B1.out.cell 0;have k_B1_1:=B1.out.cell 1;have k_B1_2:=B1.out.cell 2;have k_BT_0:=BT.out.cell 0;have k_BT_1:=BT.out.cell 1;simp at k_B0_0 k_B0_1 k_B1_0 k_B1_1 k_B1_2 k_BT_0 k_BT_1;go_wp2_with fail;clear k_B0_0 k_B0_1 k_B1_0 k_B1_1 k_B1_2 k_BT_0 k_BT_1;have kkB0_0:=zH (B0.out.cell 0);have kkB0_1:=zH (B0.out.cell 1);have kkB1_0:=zH (B1.out.cell 0);have kkB1_1:=zH (B1.out.cell 1);have kkB1_2:=zH (B1.out.cell 2);have kkBT_0:=zH (BT.out.cell 0);have kkBT_1:=zH (BT.out.cell 1);simp only [List.getElem?_toArray,List.getElem?_cons_succ,List.getElem?_cons_zero] at kkB0_0 kkB0_1 kkB1_0 kkB1_1 kkB1_2 kkBT_0 kkBT_1
  refine Wh [onT 34 (isV (.agg #[.int .i64 kk.p,p0_1])),
     onT 35 (aggF y.heap.size (ckeys kk)),
     onT 36 (isV (.agg #[.int .i64 cc.p,p1_1,p1_2])),
     onT 37 (aggF y.heap.size (carith cc)),
     onT 38 (isV (.slice pa2 ins.length pc2)),
     onT 39 (intF y.heap.size ins),
     onT 40 (isV (.agg #[.int .i64 ts,.int .i64 ta])),
     onT 41 (isV (.agg #[.int .i64 ts,.int .i64 ta])),
     onT 42 (isV (.slice pa4 es.length pc4)),
     onT 43 (intF y.heap.size es),
     onT 44 (isV (.int .i64 r0)),
     onT 12 (isV (.int .i64 r0))] [] (by kernel_rfl) (by kernel_rfl) (by kernel_rfl) ?_ ?_ ?_
  · exact Ze (Zi (Zb _)) (Ze (Zi (YF)) (Ze (Zi (Zb _)) (Ze (Zi (YF)) (Ze (Zi (Zb _)) (Ze (Zi (intF_st)) (Ze (Zi (Zb _)) (Ze (Zi (Zb _)) (Ze (Zi (Zb _)) (Ze (Zi (intF_st)) (Ze (Zi (Zb _)) (Ze (Zi (Zb _)) ZW)))))))))))
  · simp only [hops6,and_true]
    refine ⟨?_, ?_, ?_, ?_, ?_, ?_, ?_, ?_, ?_, ?_, ?_, ?_⟩
    · intro f w1 hG hpre hold hd
      have hg4:=gbT (gbD (gbR y none)) (gb0 hG);clear hG hpre hold;have k0:=gbk hg4 (kkB0_0.out);have k1:=gbk hg4 (kkB0_1.out)
      (try simp at hd)
      first | simp [hd] | simp
      try clear hd
      go_wp2_with fail;exact ⟨_,rfl,by simp [fAt,Zw,Zr,isV],Or.inl (gbR _ _)⟩
    · intro f w1 hG hpre hold hd
      have hg4:=gbT (gbD (gbR y none)) (gb0 hG);clear hG hpre hold
      (try simp at hd)
      first | (have hd2:=hd.1;clear hd;have hd:=hd2;clear hd2) | skip
      simp [puts,dsts,Act.put,hd];clear hd;go_wp2_with fail;refine (toKeys_k kk _ w1 (AggR.grow HA0.out (gbT G.out hg4)) HZ0.out).mono ?_;rintro e w6 ⟨uu,FF,rfl,oo,ll,hw⟩;have O6:=zH (show aggF y.heap.size (ckeys kk) uu w6 from ⟨FF,oo,fun x hx=>Nat.le_trans hg4.size (ll x hx)⟩);obtain ⟨_,_,_,rfl⟩:=Wb oo;have G6:=zH hw;clear oo ll hw;go_wp2_with fail;exact ⟨_,rfl,O6.out,Or.inl G6.out⟩
    · intro f w1 hG hpre hold hd
      have hg4:=gbT (gbD (gbR y none)) (gb0 hG);clear hG hpre hold;have k2:=gbk hg4 (kkB1_0.out);have k3:=gbk hg4 (kkB1_1.out);have k4:=gbk hg4 (kkB1_2.out)
      (try simp at hd)
      first | simp [hd] | simp
      try clear hd
      go_wp2_with fail;exact ⟨_,rfl,by simp [fAt,Zw,Zr,isV],Or.inl (gbR _ _)⟩
    · intro f w1 hG hpre hold hd
      have hg4:=gbT (gbD (gbR y none)) (gb0 hG);clear hG hpre hold
      (try simp at hd)
      first | (have hd2:=hd.1;clear hd;have hd:=hd2;clear hd2) | skip
      simp [puts,dsts,Act.put,hd];clear hd;go_wp2_with fail;refine (Km cc _ w1 (AggR.grow HA1.out (gbT G.out hg4)) (by have:=HZ1.out;omega)).mono ?_;rintro e w6 ⟨uu,FF,rfl,oo,ll,hw⟩;have O6:=zH (show aggF y.heap.size (carith cc) uu w6 from ⟨FF,oo,fun x hx=>Nat.le_trans hg4.size (ll x hx)⟩);obtain ⟨_,_,_,_,_,_,rfl⟩:=YS oo;have G6:=zH hw;clear oo ll hw;go_wp2_with fail;exact ⟨_,rfl,O6.out,Or.inl G6.out⟩
    · intro f w1 hG hpre hold hd
      have hg4:=gbT (gbD (gbR y none)) (gb0 hG);clear hG hpre hold
      (try simp at hd)
      first | simp [hd] | simp
      try clear hd
      go_wp2_with fail;exact ⟨_,rfl,by simp [fAt,Zw,Zr,isV],Or.inl (gbR _ _)⟩
    · intro f w1 hG hpre hold hd
      have hg4:=gbT (gbD (gbR y none)) (gb0 hG);clear hG hpre hold
      (try simp at hd)
      first | (have hd2:=hd.1;clear hd;have hd:=hd2;clear hd2) | skip
      simp [puts,dsts,Act.put,hd];clear hd;go_wp2_with fail;refine (Wr ins _ w1 (CS.grow _ HA2.out (gbT G.out hg4)) HZ2.out).mono ?_;rintro e w6 ⟨uu,FF,rfl,oo,ll,hw⟩;have O6:=zH (show intF y.heap.size ins uu w6 from intF.of oo (fun x hx=>Nat.le_trans hg4.size (ll x hx)));obtain ⟨_,_,_,rfl⟩:=Yk oo;have G6:=zH hw;clear oo ll hw;go_wp2_with fail;exact ⟨_,rfl,O6.out,Or.inl G6.out⟩
    · intro f w1 hG hpre hold hd
      have hg4:=gbT (gbD (gbR y none)) (gb0 hG);clear hG hpre hold;have k5:=gbk hg4 (kkBT_0.out);have k6:=gbk hg4 (kkBT_1.out)
      (try simp at hd)
      first | simp [hd] | simp
      try clear hd
      go_wp2_with fail;exact ⟨_,rfl,by simp [fAt,Zw,Zr,isV],Or.inl (gbR _ _)⟩
    · intro f w1 hG hpre hold hd
      have hg4:=gbT (gbD (gbR y none)) (gb0 hG);clear hG hpre hold
      (try simp at hd)
      first | (have hd2:=hd.1;clear hd;have hd:=hd2;clear hd2) | skip
      simp [puts,dsts,Act.put,hd];clear hd;go_wp2_with fail;refine (toTape_c ts ta w1).mono ?_;rintro e w6 ⟨rfl,g6⟩;have G6:=zH g6;clear g6;go_wp2_with fail;exact ⟨_,rfl,rfl,Or.inl G6.out⟩
    · intro f w1 hG hpre hold hd
      have hg4:=gbT (gbD (gbR y none)) (gb0 hG);clear hG hpre hold
      (try simp at hd)
      first | simp [hd] | simp
      try clear hd
      go_wp2_with fail;exact ⟨_,rfl,by simp [fAt,Zw,Zr,isV],Or.inl (gbR _ _)⟩
    · intro f w1 hG hpre hold hd
      have hg4:=gbT (gbD (gbR y none)) (gb0 hG);clear hG hpre hold
      (try simp at hd)
      first | (have hd2:=hd.1;clear hd;have hd:=hd2;clear hd2) | skip
      simp [puts,dsts,Act.put,hd];clear hd;go_wp2_with fail;refine (Wr es _ w1 (CS.grow _ HA4.out (gbT G.out hg4)) HZ4.out).mono ?_;rintro e w6 ⟨uu,FF,rfl,oo,ll,hw⟩;have O6:=zH (show intF y.heap.size es uu w6 from intF.of oo (fun x hx=>Nat.le_trans hg4.size (ll x hx)));obtain ⟨_,_,_,rfl⟩:=Yk oo;have G6:=zH hw;clear oo ll hw;go_wp2_with fail;exact ⟨_,rfl,O6.out,Or.inl G6.out⟩
    · intro f w1 hG hpre hold hd
      have hg4:=gbT (gbD (gbR y none)) (gb0 hG);clear hG hpre hold
      (try simp at hd)
      obtain ⟨h1,h2,h3,h4,h5⟩:=hd
      first | (have hd2:=h5.1;clear h5;have h5:=hd2;clear hd2) | skip
      obtain ⟨FK0,k0,_⟩:=h1;have R0:=zH k0.rd;obtain ⟨FK1,k1,_⟩:=h2;have R1:=zH k1.rd;have R2:=zH (intF.rd h3);have R4:=zH (intF.rd h5)
      first | simp [puts,dsts,Act.put,h4] | simp [puts,dsts,Act.put]
      go_wp2_with fail;refine (HS.out w1 _ _ _ _ R0.out R1.out R2.out R4.out).mono ?_;rintro e w6 ⟨rfl,g6⟩;have G6:=zH g6;clear g6;go_wp2_with fail;exact ⟨_,rfl,rfl,Or.inl G6.out⟩
    · intro f w1 hG hpre hold hd
      have hg4:=gbT (gbD (gbR y none)) (gb0 hG);clear hG hpre hold
      (try simp at hd)
      first | (have hd2:=hd.1;clear hd;have hd:=hd2;clear hd2) | skip
      simp [puts,dsts,Act.put,hd];go_wp2_with fail;exact ⟨_,rfl,rfl,Or.inl (gbR _ _)⟩
  intro f yn hG hK;have g:=gbT (gbD (gbR y none)) (gb0 hG);clear hG;simp only [puts,dsts,Act.put,zB,zC,zA,zD,zE];have hr4:f 12=.int .i64 r0:=Yh hK (i:=11) rfl;rw [hr4];replace B0:=zH (Blk.grow B0.out g);replace B1:=zH (Blk.grow B1.out g);replace BT:=zH (Blk.grow BT.out g);have z3:=World.grownBy.size g
  try simp at z3
  replace G:=zH (gbT G.out g);obtain ⟨y,rfl⟩:∃q,q=yn:=⟨_,rfl⟩;clear g hK hr4 kkB0_0 kkB0_1 kkB1_0 kkB1_1 kkB1_2 kkBT_0 kkBT_1;have k_B0_0:=B0.out.cell 0;have k_B0_1:=B0.out.cell 1;have k_B1_0:=B1.out.cell 0;have k_B1_1:=B1.out.cell 1;have k_B1_2:=B1.out.cell 2;have k_BT_0:=BT.out.cell 0;have k_BT_1:=BT.out.cell 1;simp at k_B0_0 k_B0_1 k_B1_0 k_B1_1 k_B1_2 k_BT_0 k_BT_1;go_wp2_with fail;clear k_B0_0 k_B0_1 k_B1_0 k_B1_1 k_B1_2 k_BT_0 k_BT_1;refine (toKeys_k kk _ _ (AggR.grow HA0.out G.out) HZ0.out).mono ?_;rintro e y ⟨uu,Fx0,rfl,oo,ll,g⟩;obtain ⟨ax0_1,nx0_1,sx0_1,rfl⟩:=Wb oo
  try simp at ll
  have Ox0:=zH oo;have Lx0:=zH ll;have Ux0:=zH (AggO.lt oo);replace B0:=zH (Blk.grow B0.out g);replace B1:=zH (Blk.grow B1.out g);replace BT:=zH (Blk.grow BT.out g);have z4:=World.grownBy.size g
  try simp at z4
  replace G:=zH (gbT G.out g);clear g oo ll;have X:=zH (Blk.new y 34 #[.int .i64 kk.p,.slice ax0_1 nx0_1 sx0_1]);have ga:y.grownBy (y.alloc (.cells #[.int .i64 kk.p,.slice ax0_1 nx0_1 sx0_1] 34)) none:=gbA (gbR y none) _;replace B0:=zH (Blk.grow B0.out ga);replace B1:=zH (Blk.grow B1.out ga);replace BT:=zH (Blk.grow BT.out ga);replace Ox0:=zH (AggO.grow Ox0.out ga);have z5:=World.grownBy.size ga
  try simp at z5
  replace G:=zH (gbT G.out ga);clear ga;have X0:=X;clear X;have k_B0_0:=B0.out.cell 0;have k_B0_1:=B0.out.cell 1;have k_B1_0:=B1.out.cell 0;have k_B1_1:=B1.out.cell 1;have k_B1_2:=B1.out.cell 2;have k_BT_0:=BT.out.cell 0;have k_BT_1:=BT.out.cell 1;have k_X0_0:=X0.out.cell 0;have k_X0_1:=X0.out.cell 1;simp at k_B0_0 k_B0_1 k_B1_0 k_B1_1 k_B1_2 k_BT_0 k_BT_1 k_X0_0 k_X0_1;go_wp2_with fail;clear k_B0_0 k_B0_1 k_B1_0 k_B1_1 k_B1_2 k_BT_0 k_BT_1 k_X0_0 k_X0_1;refine (Km cc _ _ (AggR.grow HA1.out G.out) (by have:=HZ1.out;omega)).mono ?_;rintro e y ⟨uu,Fx1,rfl,oo,ll,g⟩;obtain ⟨ax1_1,nx1_1,sx1_1,ax1_2,nx1_2,sx1_2,rfl⟩:=YS oo
  try simp at ll
  have Ox1:=zH oo;have Lx1:=zH ll;have Ux1:=zH (AggO.lt oo);replace B0:=zH (Blk.grow B0.out g);replace B1:=zH (Blk.grow B1.out g);replace BT:=zH (Blk.grow BT.out g);replace X0:=zH (Blk.grow X0.out g);replace Ox0:=zH (AggO.grow Ox0.out g);have z6:=World.grownBy.size g
  try simp at z6
  replace G:=zH (gbT G.out g);clear g oo ll;have X:=zH (Blk.new y 38 #[.int .i64 cc.p,.slice ax1_1 nx1_1 sx1_1,.slice ax1_2 nx1_2 sx1_2]);have ga:y.grownBy (y.alloc (.cells #[.int .i64 cc.p,.slice ax1_1 nx1_1 sx1_1,.slice ax1_2 nx1_2 sx1_2] 38)) none:=gbA (gbR y none) _;replace B0:=zH (Blk.grow B0.out ga);replace B1:=zH (Blk.grow B1.out ga);replace BT:=zH (Blk.grow BT.out ga);replace X0:=zH (Blk.grow X0.out ga);replace Ox0:=zH (AggO.grow Ox0.out ga);replace Ox1:=zH (AggO.grow Ox1.out ga);have z7:=World.grownBy.size ga
  try simp at z7
  replace G:=zH (gbT G.out ga);clear ga;have X1:=X;clear X;go_wp2_with fail;refine (Wr ins _ _ (CS.grow _ HA2.out G.out) HZ2.out).mono ?_;rintro e y ⟨uu,Fx2,rfl,oo,ll,g⟩;obtain ⟨ax2,nx2,sx2,rfl⟩:=Yk oo
  try simp at ll
  have Ox2:=zH oo;have Lx2:=zH ll;have Ux2:=zH (CS.lt _ oo);replace B0:=zH (Blk.grow B0.out g);replace B1:=zH (Blk.grow B1.out g);replace BT:=zH (Blk.grow BT.out g);replace X0:=zH (Blk.grow X0.out g);replace X1:=zH (Blk.grow X1.out g);replace Ox0:=zH (AggO.grow Ox0.out g);replace Ox1:=zH (AggO.grow Ox1.out g);have z8:=World.grownBy.size g
  try simp at z8
  replace G:=zH (gbT G.out g);clear g oo ll;have k_B0_0:=B0.out.cell 0;have k_B0_1:=B0.out.cell 1;have k_B1_0:=B1.out.cell 0;have k_B1_1:=B1.out.cell 1;have k_B1_2:=B1.out.cell 2;have k_BT_0:=BT.out.cell 0;have k_BT_1:=BT.out.cell 1;have k_X0_0:=X0.out.cell 0;have k_X0_1:=X0.out.cell 1;have k_X1_0:=X1.out.cell 0;have k_X1_1:=X1.out.cell 1;have k_X1_2:=X1.out.cell 2;simp at k_B0_0 k_B0_1 k_B1_0 k_B1_1 k_B1_2 k_BT_0 k_BT_1 k_X0_0 k_X0_1 k_X1_0 k_X1_1 k_X1_2;go_wp2_with fail;clear k_B0_0 k_B0_1 k_B1_0 k_B1_1 k_B1_2 k_BT_0 k_BT_1 k_X0_0 k_X0_1 k_X1_0 k_X1_1 k_X1_2;refine (Wr es _ _ (CS.grow _ HA4.out G.out) HZ4.out).mono ?_;rintro e y ⟨uu,Fx4,rfl,oo,ll,g⟩;obtain ⟨ax4,nx4,sx4,rfl⟩:=Yk oo
  try simp at ll
  have Ox4:=zH oo;have Lx4:=zH ll;have Ux4:=zH (CS.lt _ oo);replace B0:=zH (Blk.grow B0.out g);replace B1:=zH (Blk.grow B1.out g);replace BT:=zH (Blk.grow BT.out g);replace X0:=zH (Blk.grow X0.out g);replace X1:=zH (Blk.grow X1.out g);replace Ox0:=zH (AggO.grow Ox0.out g);replace Ox1:=zH (AggO.grow Ox1.out g);replace Ox2:=zH (ZD _ Ox2.out g);have z9:=World.grownBy.size g
  try simp at z9
  replace G:=zH (gbT G.out g);clear g oo ll;have k_B0_0:=B0.out.cell 0;have k_B0_1:=B0.out.cell 1;have k_B1_0:=B1.out.cell 0;have k_B1_1:=B1.out.cell 1;have k_B1_2:=B1.out.cell 2;have k_BT_0:=BT.out.cell 0;have k_BT_1:=BT.out.cell 1;have k_X0_0:=X0.out.cell 0;have k_X0_1:=X0.out.cell 1;have k_X1_0:=X1.out.cell 0;have k_X1_1:=X1.out.cell 1;have k_X1_2:=X1.out.cell 2;simp at k_B0_0 k_B0_1 k_B1_0 k_B1_1 k_B1_2 k_BT_0 k_BT_1 k_X0_0 k_X0_1 k_X1_0 k_X1_1 k_X1_2;go_wp2_with fail;clear k_B0_0 k_B0_1 k_B1_0 k_B1_1 k_B1_2 k_BT_0 k_BT_1 k_X0_0 k_X0_1 k_X1_0 k_X1_1 k_X1_2;have kkBT_0:=zH (BT.out.cell 0);have kkBT_1:=zH (BT.out.cell 1);have kkX0_0:=zH (X0.out.cell 0);have kkX0_1:=zH (X0.out.cell 1);have kkX1_0:=zH (X1.out.cell 0);have kkX1_1:=zH (X1.out.cell 1);have kkX1_2:=zH (X1.out.cell 2);simp only [List.getElem?_toArray,List.getElem?_cons_succ,List.getElem?_cons_zero] at kkBT_0 kkBT_1 kkX0_0 kkX0_1 kkX1_0 kkX1_1 kkX1_2
  refine Wh [onT 53 (isV (.agg #[.int .i64 kk.p,.slice ax0_1 nx0_1 sx0_1])),
     onT 54 (isV (.agg #[.int .i64 cc.p,.slice ax1_1 nx1_1 sx1_1,.slice ax1_2 nx1_2 sx1_2])),
     onT 55 (isV (.slice ax2 nx2 sx2)),
     onT 56 (isV (.agg #[.int .i64 ts,.int .i64 ta])),
     onT 57 (isV (.agg #[.int .i64 ts,.int .i64 ta])),
     onT 58 (isV (.slice ax4 nx4 sx4)),
     onT 59 (isV (.int .i64 r0)),
     onT 17 (isV (.int .i64 r0))] [] (by kernel_rfl) (by kernel_rfl) (by kernel_rfl) ?_ ?_ ?_
  · exact Ze (Zi (Zb _)) (Ze (Zi (Zb _)) (Ze (Zi (Zb _)) (Ze (Zi (Zb _)) (Ze (Zi (Zb _)) (Ze (Zi (Zb _)) (Ze (Zi (Zb _)) (Ze (Zi (Zb _)) ZW)))))))
  · simp only [hops6,and_true]
    refine ⟨?_, ?_, ?_, ?_, ?_, ?_, ?_, ?_⟩
    · intro f w1 hG hpre hold hd
      have hg4:=gbT (gbD (gbR y none)) (gb0 hG);clear hG hpre hold;have k2:=gbk hg4 (kkX0_0.out);have k3:=gbk hg4 (kkX0_1.out)
      (try simp at hd)
      first | simp [hd] | simp
      try clear hd
      go_wp2_with fail;exact ⟨_,rfl,by simp [fAt,Zw,Zr,isV],Or.inl (gbR _ _)⟩
    · intro f w1 hG hpre hold hd
      have hg4:=gbT (gbD (gbR y none)) (gb0 hG);clear hG hpre hold;have k4:=gbk hg4 (kkX1_0.out);have k5:=gbk hg4 (kkX1_1.out);have k6:=gbk hg4 (kkX1_2.out)
      (try simp at hd)
      first | simp [hd] | simp
      try clear hd
      go_wp2_with fail;exact ⟨_,rfl,by simp [fAt,Zw,Zr,isV],Or.inl (gbR _ _)⟩
    · intro f w1 hG hpre hold hd
      have hg4:=gbT (gbD (gbR y none)) (gb0 hG);clear hG hpre hold
      (try simp at hd)
      first | simp [hd] | simp
      try clear hd
      go_wp2_with fail;exact ⟨_,rfl,by simp [fAt,Zw,Zr,isV],Or.inl (gbR _ _)⟩
    · intro f w1 hG hpre hold hd
      have hg4:=gbT (gbD (gbR y none)) (gb0 hG);clear hG hpre hold;have k0:=gbk hg4 (kkBT_0.out);have k1:=gbk hg4 (kkBT_1.out)
      (try simp at hd)
      first | simp [hd] | simp
      try clear hd
      go_wp2_with fail;exact ⟨_,rfl,by simp [fAt,Zw,Zr,isV],Or.inl (gbR _ _)⟩
    · intro f w1 hG hpre hold hd
      have hg4:=gbT (gbD (gbR y none)) (gb0 hG);clear hG hpre hold
      (try simp at hd)
      first | (have hd2:=hd.1;clear hd;have hd:=hd2;clear hd2) | skip
      simp [puts,dsts,Act.put,hd];clear hd;go_wp2_with fail;refine (toTape_c ts ta w1).mono ?_;rintro e w6 ⟨rfl,g6⟩;have G6:=zH g6;clear g6;go_wp2_with fail;exact ⟨_,rfl,rfl,Or.inl G6.out⟩
    · intro f w1 hG hpre hold hd
      have hg4:=gbT (gbD (gbR y none)) (gb0 hG);clear hG hpre hold
      (try simp at hd)
      first | simp [hd] | simp
      try clear hd
      go_wp2_with fail;exact ⟨_,rfl,by simp [fAt,Zw,Zr,isV],Or.inl (gbR _ _)⟩
    · intro f w1 hG hpre hold hd
      have hg4:=gbT (gbD (gbR y none)) (gb0 hG);clear hG hpre hold
      (try simp at hd)
      obtain ⟨h1,h2,h3,h4,h5⟩:=hd
      first | (have hd2:=h5.1;clear h5;have h5:=hd2;clear hd2) | skip
      first | simp [puts,dsts,Act.put,h1,h2,h3,h4,h5] | simp [puts,dsts,Act.put]
      go_wp2_with fail;refine (HI.out w1 _ _ _ _ (Ox0.out.grow hg4).rd (Ox1.out.grow hg4).rd (CS.toRd _ (ZD _ Ox2.out hg4)) (CS.toRd _ (ZD _ Ox4.out hg4))).mono ?_;rintro e w6 ⟨rfl,g6⟩;have G6:=zH g6;clear g6;go_wp2_with fail;exact ⟨_,rfl,rfl,Or.inl G6.out⟩
    · intro f w1 hG hpre hold hd
      have hg4:=gbT (gbD (gbR y none)) (gb0 hG);clear hG hpre hold
      (try simp at hd)
      first | (have hd2:=hd.1;clear hd;have hd:=hd2;clear hd2) | skip
      simp [puts,dsts,Act.put,hd];go_wp2_with fail;exact ⟨_,rfl,rfl,Or.inl (gbR _ _)⟩
  intro f yn hG hK;have g:=gbT (gbD (gbR y none)) (gb0 hG);clear hG;simp only [puts,dsts,Act.put,zB,zC,zA,zD,zE];have hr4:f 17=.int .i64 r0:=Yh hK (i:=7) rfl;rw [hr4];replace B0:=zH (Blk.grow B0.out g);replace B1:=zH (Blk.grow B1.out g);replace BT:=zH (Blk.grow BT.out g);replace X0:=zH (Blk.grow X0.out g);replace X1:=zH (Blk.grow X1.out g);replace Ox0:=zH (AggO.grow Ox0.out g);replace Ox1:=zH (AggO.grow Ox1.out g);replace Ox2:=zH (ZD _ Ox2.out g);replace Ox4:=zH (ZD _ Ox4.out g);have z10:=World.grownBy.size g
  try simp at z10
  replace G:=zH (gbT G.out g);obtain ⟨y,rfl⟩:∃q,q=yn:=⟨_,rfl⟩;clear g hK hr4 kkBT_0 kkBT_1 kkX0_0 kkX0_1 kkX1_0 kkX1_1 kkX1_2;have k_B0_0:=B0.out.cell 0;have k_B0_1:=B0.out.cell 1;have k_B1_0:=B1.out.cell 0;have k_B1_1:=B1.out.cell 1;have k_B1_2:=B1.out.cell 2;have k_BT_0:=BT.out.cell 0;have k_BT_1:=BT.out.cell 1;have k_X0_0:=X0.out.cell 0;have k_X0_1:=X0.out.cell 1;have k_X1_0:=X1.out.cell 0;have k_X1_1:=X1.out.cell 1;have k_X1_2:=X1.out.cell 2;simp at k_B0_0 k_B0_1 k_B1_0 k_B1_1 k_B1_2 k_BT_0 k_BT_1 k_X0_0 k_X0_1 k_X1_0 k_X1_1 k_X1_2;go_wp2_with fail;clear k_B0_0 k_B0_1 k_B1_0 k_B1_1 k_B1_2 k_BT_0 k_BT_1 k_X0_0 k_X0_1 k_X1_0 k_X1_1 k_X1_2;refine Zs [isV (.agg #[.int .i64 kk.p,.slice ax0_1 nx0_1 sx0_1]),isV (.agg #[.int .i64 kk.p,p0_1]),fun v w=>AggR w (ckeys kk) v,isV (.bool true),isV (.bool false)] (by kernel_rfl) (by kernel_rfl) (by kernel_rfl) (by simp only [ZK,List.mem_cons,List.not_mem_nil,or_false,forall_eq_or_imp,forall_eq];exact ⟨Zb _,Zb _,fun _ _ _ h hg=>AggR.grow h hg,Zb _,Zb _⟩) ?_ ?_
  · simp only [hops,and_true]
    refine ⟨?_, ?_, ?_, ?_, ?_⟩
    all_goals
      intro f w1 hG hd;have k_X0_0:=(X0.out.grow (gdT' hG)).cell 0;have k_X0_1:=(X0.out.grow (gdT' hG)).cell 1;have k_B0_0:=(B0.out.grow (gdT' hG)).cell 0;have k_B0_1:=(B0.out.grow (gdT' hG)).cell 1;simp at k_X0_0 k_X0_1 k_B0_0 k_B0_1;have GG:=zH (gbT G.out (gdT' hG));have OO:=zH (AggR.grow (Ox0.out.grow (gdT' hG)).rd (gbR _ _));simp [deps,tAt,isV] at hd
      first | simp [hd] | simp
      go_wp2_with (first | (go_at_call 10;refine (toKeys_k kk _ _ (AggR.grow HA0.out GG.out) HZ0.out).mono ?_;rintro e w2 ⟨uu,FF,rfl,oo,ll,hw⟩) | (go_at_call 16;refine (eqKeys_k kk _ _ _ OO.out hd.2 HZ0.out).mono ?_;rintro e w2 ⟨rfl,hw⟩))
    all_goals exact ⟨_,rfl,by first | with_reducible exact gbR _ _ | exact hw,by first | (simp [tAt,isV];done) | exact oo.rd⟩
  · intro f y hG hd
    have g:=gdT' hG;simp [knows,tAt,isV] at hd;obtain ⟨h1,h2,h3,h4,h5⟩:=hd;replace B0:=zH (Blk.grow B0.out g);replace B1:=zH (Blk.grow B1.out g);replace BT:=zH (Blk.grow BT.out g);replace X0:=zH (Blk.grow X0.out g);replace X1:=zH (Blk.grow X1.out g);replace Ox0:=zH (AggO.grow Ox0.out g);replace Ox1:=zH (AggO.grow Ox1.out g);replace Ox2:=zH (ZD _ Ox2.out g);replace Ox4:=zH (ZD _ Ox4.out g);have z11:=World.grownBy.size g
    try simp at z11
    replace G:=zH (gbT G.out g);clear g hG;simp only [puts,dsts,Act.put,h1,h2,h4,h5,zB,zC,zA,zD,zE];clear h1 h2 h3 h4 h5;have k_B0_0:=B0.out.cell 0;have k_B0_1:=B0.out.cell 1;have k_B1_0:=B1.out.cell 0;have k_B1_1:=B1.out.cell 1;have k_B1_2:=B1.out.cell 2;have k_BT_0:=BT.out.cell 0;have k_BT_1:=BT.out.cell 1;have k_X0_0:=X0.out.cell 0;have k_X0_1:=X0.out.cell 1;have k_X1_0:=X1.out.cell 0;have k_X1_1:=X1.out.cell 1;have k_X1_2:=X1.out.cell 2;simp at k_B0_0 k_B0_1 k_B1_0 k_B1_1 k_B1_2 k_BT_0 k_BT_1 k_X0_0 k_X0_1 k_X1_0 k_X1_1 k_X1_2;go_wp2_with fail;clear k_B0_0 k_B0_1 k_B1_0 k_B1_1 k_B1_2 k_BT_0 k_BT_1 k_X0_0 k_X0_1 k_X1_0 k_X1_1 k_X1_2;refine Zs [isV (.agg #[.int .i64 cc.p,.slice ax1_1 nx1_1 sx1_1,.slice ax1_2 nx1_2 sx1_2]),isV (.agg #[.int .i64 cc.p,p1_1,p1_2]),fun v w=>AggR w (carith cc) v,isV (.bool true),isV (.bool false)] (by kernel_rfl) (by kernel_rfl) (by kernel_rfl) (by simp only [ZK,List.mem_cons,List.not_mem_nil,or_false,forall_eq_or_imp,forall_eq];exact ⟨Zb _,Zb _,fun _ _ _ h hg=>AggR.grow h hg,Zb _,Zb _⟩) ?_ ?_
    · simp only [hops,and_true]
      refine ⟨?_, ?_, ?_, ?_, ?_⟩
      all_goals
        intro f w1 hG hd;have k_X1_0:=(X1.out.grow (gdT' hG)).cell 0;have k_X1_1:=(X1.out.grow (gdT' hG)).cell 1;have k_X1_2:=(X1.out.grow (gdT' hG)).cell 2;have k_B1_0:=(B1.out.grow (gdT' hG)).cell 0;have k_B1_1:=(B1.out.grow (gdT' hG)).cell 1;have k_B1_2:=(B1.out.grow (gdT' hG)).cell 2;simp at k_X1_0 k_X1_1 k_X1_2 k_B1_0 k_B1_1 k_B1_2;have GG:=zH (gbT G.out (gdT' hG));have OO:=zH (AggR.grow (Ox1.out.grow (gdT' hG)).rd (gbR _ _));simp [deps,tAt,isV] at hd
        first | simp [hd] | simp
        go_wp2_with (first | (go_at_call 11;refine (Km cc _ _ (AggR.grow HA1.out GG.out) (by have:=HZ1.out;omega)).mono ?_;rintro e w2 ⟨uu,FF,rfl,oo,ll,hw⟩) | (go_at_call 17;refine (eqArith_k cc _ _ _ OO.out hd.2 (by have:=HZ1.out;omega)).mono ?_;rintro e w2 ⟨rfl,hw⟩))
      all_goals exact ⟨_,rfl,by first | with_reducible exact gbR _ _ | exact hw,by first | (simp [tAt,isV];done) | exact oo.rd⟩
    · intro f y hG hd
      have g:=gdT' hG;simp [knows,tAt,isV] at hd;obtain ⟨h1,h2,h3,h4,h5⟩:=hd;replace B0:=zH (Blk.grow B0.out g);replace B1:=zH (Blk.grow B1.out g);replace BT:=zH (Blk.grow BT.out g);replace X0:=zH (Blk.grow X0.out g);replace X1:=zH (Blk.grow X1.out g);replace Ox0:=zH (AggO.grow Ox0.out g);replace Ox1:=zH (AggO.grow Ox1.out g);replace Ox2:=zH (ZD _ Ox2.out g);replace Ox4:=zH (ZD _ Ox4.out g);have z12:=World.grownBy.size g
      try simp at z12
      replace G:=zH (gbT G.out g);clear g hG;simp only [puts,dsts,Act.put,h1,h2,h4,h5,zB,zC,zA,zD,zE];clear h1 h2 h3 h4 h5;have k_B0_0:=B0.out.cell 0;have k_B0_1:=B0.out.cell 1;have k_B1_0:=B1.out.cell 0;have k_B1_1:=B1.out.cell 1;have k_B1_2:=B1.out.cell 2;have k_BT_0:=BT.out.cell 0;have k_BT_1:=BT.out.cell 1;have k_X0_0:=X0.out.cell 0;have k_X0_1:=X0.out.cell 1;have k_X1_0:=X1.out.cell 0;have k_X1_1:=X1.out.cell 1;have k_X1_2:=X1.out.cell 2;simp at k_B0_0 k_B0_1 k_B1_0 k_B1_1 k_B1_2 k_BT_0 k_BT_1 k_X0_0 k_X0_1 k_X1_0 k_X1_1 k_X1_2;go_wp2_with fail;clear k_B0_0 k_B0_1 k_B1_0 k_B1_1 k_B1_2 k_BT_0 k_BT_1 k_X0_0 k_X0_1 k_X1_0 k_X1_1 k_X1_2;refine (Wr ins _ _ (CS.grow _ HA2.out G.out) HZ2.out).mono ?_;rintro e y ⟨uu,Fy2,rfl,oo,ll,g⟩;obtain ⟨ay2,ny2,sy2,rfl⟩:=Yk oo
      try simp at ll
      have Oy2:=zH oo;have Ly2:=zH ll;have Uy2:=zH (CS.lt _ oo);replace B0:=zH (Blk.grow B0.out g);replace B1:=zH (Blk.grow B1.out g);replace BT:=zH (Blk.grow BT.out g);replace X0:=zH (Blk.grow X0.out g);replace X1:=zH (Blk.grow X1.out g);replace Ox0:=zH (AggO.grow Ox0.out g);replace Ox1:=zH (AggO.grow Ox1.out g);replace Ox2:=zH (ZD _ Ox2.out g);replace Ox4:=zH (ZD _ Ox4.out g);have z13:=World.grownBy.size g
      try simp at z13
      replace G:=zH (gbT G.out g);clear g oo ll;have k_B0_0:=B0.out.cell 0;have k_B0_1:=B0.out.cell 1;have k_B1_0:=B1.out.cell 0;have k_B1_1:=B1.out.cell 1;have k_B1_2:=B1.out.cell 2;have k_BT_0:=BT.out.cell 0;have k_BT_1:=BT.out.cell 1;have k_X0_0:=X0.out.cell 0;have k_X0_1:=X0.out.cell 1;have k_X1_0:=X1.out.cell 0;have k_X1_1:=X1.out.cell 1;have k_X1_2:=X1.out.cell 2;simp at k_B0_0 k_B0_1 k_B1_0 k_B1_1 k_B1_2 k_BT_0 k_BT_1 k_X0_0 k_X0_1 k_X1_0 k_X1_1 k_X1_2;go_wp2_with fail;clear k_B0_0 k_B0_1 k_B1_0 k_B1_1 k_B1_2 k_BT_0 k_BT_1 k_X0_0 k_X0_1 k_X1_0 k_X1_1 k_X1_2;refine (QK ins _ _ _ (CS.toRd _ Ox2.out) (CS.toRd _ Oy2.out) HZ2.out).mono ?_;rintro e y ⟨rfl,g⟩;replace B0:=zH (Blk.grow B0.out g);replace B1:=zH (Blk.grow B1.out g);replace BT:=zH (Blk.grow BT.out g);replace X0:=zH (Blk.grow X0.out g);replace X1:=zH (Blk.grow X1.out g);replace Ox0:=zH (AggO.grow Ox0.out g);replace Ox1:=zH (AggO.grow Ox1.out g);replace Ox2:=zH (ZD _ Ox2.out g);replace Ox4:=zH (ZD _ Ox4.out g);replace Oy2:=zH (ZD _ Oy2.out g);have z14:=World.grownBy.size g
      try simp at z14
      replace G:=zH (gbT G.out g);clear g;clear Oy2 Ly2 Uy2;have k_B0_0:=B0.out.cell 0;have k_B0_1:=B0.out.cell 1;have k_B1_0:=B1.out.cell 0;have k_B1_1:=B1.out.cell 1;have k_B1_2:=B1.out.cell 2;have k_BT_0:=BT.out.cell 0;have k_BT_1:=BT.out.cell 1;have k_X0_0:=X0.out.cell 0;have k_X0_1:=X0.out.cell 1;have k_X1_0:=X1.out.cell 0;have k_X1_1:=X1.out.cell 1;have k_X1_2:=X1.out.cell 2;simp at k_B0_0 k_B0_1 k_B1_0 k_B1_1 k_B1_2 k_BT_0 k_BT_1 k_X0_0 k_X0_1 k_X1_0 k_X1_1 k_X1_2;go_wp2_with fail;clear k_B0_0 k_B0_1 k_B1_0 k_B1_1 k_B1_2 k_BT_0 k_BT_1 k_X0_0 k_X0_1 k_X1_0 k_X1_1 k_X1_2;refine (Wr es _ _ (CS.grow _ HA4.out G.out) HZ4.out).mono ?_;rintro e y ⟨uu,Fy4,rfl,oo,ll,g⟩;obtain ⟨ay4,ny4,sy4,rfl⟩:=Yk oo
      try simp at ll
      have Oy4:=zH oo;have Ly4:=zH ll;have Uy4:=zH (CS.lt _ oo);replace B0:=zH (Blk.grow B0.out g);replace B1:=zH (Blk.grow B1.out g);replace BT:=zH (Blk.grow BT.out g);replace X0:=zH (Blk.grow X0.out g);replace X1:=zH (Blk.grow X1.out g);replace Ox0:=zH (AggO.grow Ox0.out g);replace Ox1:=zH (AggO.grow Ox1.out g);replace Ox2:=zH (ZD _ Ox2.out g);replace Ox4:=zH (ZD _ Ox4.out g);have z15:=World.grownBy.size g
      try simp at z15
      replace G:=zH (gbT G.out g);clear g oo ll;have k_B0_0:=B0.out.cell 0;have k_B0_1:=B0.out.cell 1;have k_B1_0:=B1.out.cell 0;have k_B1_1:=B1.out.cell 1;have k_B1_2:=B1.out.cell 2;have k_BT_0:=BT.out.cell 0;have k_BT_1:=BT.out.cell 1;have k_X0_0:=X0.out.cell 0;have k_X0_1:=X0.out.cell 1;have k_X1_0:=X1.out.cell 0;have k_X1_1:=X1.out.cell 1;have k_X1_2:=X1.out.cell 2;simp at k_B0_0 k_B0_1 k_B1_0 k_B1_1 k_B1_2 k_BT_0 k_BT_1 k_X0_0 k_X0_1 k_X1_0 k_X1_1 k_X1_2;go_wp2_with fail;clear k_B0_0 k_B0_1 k_B1_0 k_B1_1 k_B1_2 k_BT_0 k_BT_1 k_X0_0 k_X0_1 k_X1_0 k_X1_1 k_X1_2;refine (QK es _ _ _ (CS.toRd _ Ox4.out) (CS.toRd _ Oy4.out) HZ4.out).mono ?_;rintro e y ⟨rfl,g⟩;replace B0:=zH (Blk.grow B0.out g);replace B1:=zH (Blk.grow B1.out g);replace BT:=zH (Blk.grow BT.out g);replace X0:=zH (Blk.grow X0.out g);replace X1:=zH (Blk.grow X1.out g);replace Ox0:=zH (AggO.grow Ox0.out g);replace Ox1:=zH (AggO.grow Ox1.out g);replace Ox2:=zH (ZD _ Ox2.out g);replace Ox4:=zH (ZD _ Ox4.out g);replace Oy4:=zH (ZD _ Oy4.out g);have z16:=World.grownBy.size g
      try simp at z16
      replace G:=zH (gbT G.out g);clear g;clear Oy4 Ly4 Uy4;have k_B0_0:=B0.out.cell 0;have k_B0_1:=B0.out.cell 1;have k_B1_0:=B1.out.cell 0;have k_B1_1:=B1.out.cell 1;have k_B1_2:=B1.out.cell 2;have k_BT_0:=BT.out.cell 0;have k_BT_1:=BT.out.cell 1;have k_X0_0:=X0.out.cell 0;have k_X0_1:=X0.out.cell 1;have k_X1_0:=X1.out.cell 0;have k_X1_1:=X1.out.cell 1;have k_X1_2:=X1.out.cell 2;simp at k_B0_0 k_B0_1 k_B1_0 k_B1_1 k_B1_2 k_BT_0 k_BT_1 k_X0_0 k_X0_1 k_X1_0 k_X1_1 k_X1_2;go_wp2_with fail;clear k_B0_0 k_B0_1 k_B1_0 k_B1_1 k_B1_2 k_BT_0 k_BT_1 k_X0_0 k_X0_1 k_X1_0 k_X1_1 k_X1_2;go_ret;exact ⟨rfl,G.out⟩
set_option maxRecDepth 100000 in
set_option maxHeartbeats 1000000 in
theorem FnExactOutcomeOf.walk (w:World) (kk:KM) (v0:Value) (h0:AggR w (ckeys kk) v0) (wf0:kk.wf) (cc:AM) (v1:Value) (h1:AggR w (carith cc) v1) (wf1:cc.wf) (A2:Option Addr) (n2 c2:Nat) (ins:List Int) (hes2:IntsK .i64 w A2 n2 ins) (hm2:n2≤c2) (hc2:c2≤maxLen) (ts:Int) (wts:(Lit.int .i64 ts).wf=true) (ta:Int) (wta:(Lit.int .i64 ta).wf=true) (A4:Option Addr) (n4 c4:Nat) (es:List Int) (hes4:IntsK .i64 w A4 n4 es) (hm4:n4≤c4) (hc4:c4≤maxLen) :
    Calls Tryz.prog 5 #[v0,v1,.slice A2 n2 c2,.agg #[.int .i64 ts,.int .i64 ta],.slice A4 n4 c4] w fun e w'=>e=.returned (.bool true)∧w.grownBy w' none:=by
  have hl2:=Ints.len hes2.ints;have hl4:=Ints.len hes4.ints;have hA:=QV wta
  by_cases hb2:n2≤1048576
  rotate_left
  · skip
    obtain ⟨p0_1,rfl,_⟩:=YJ h0;obtain ⟨p1_1,p1_2,rfl,_,_⟩:=Zu h1;have hb2':(1048576:Int)<(n2:Int):=by omega
    clear hes2 hl2 hes4 hl4
    go_enter Tryz.func5,Tryz.ntmps5
    go_wp2_with fail;go_ret;exact ⟨rfl,gbA (gbA (gbA (gbR _ _) _) _) _⟩
  by_cases hb4:n4≤1048576
  rotate_left
  · skip
    obtain ⟨p0_1,rfl,_⟩:=YJ h0;obtain ⟨p1_1,p1_2,rfl,_,_⟩:=Zu h1;have hb2':¬(1048576:Int)<(n2:Int):=by omega
    have hb4':(1048576:Int)<(n4:Int):=by omega
    clear hes2 hl2 hes4 hl4
    go_enter Tryz.func5,Tryz.ntmps5
    go_wp2_with fail;go_ret;exact ⟨rfl,gbA (gbA (gbA (gbR _ _) _) _) _⟩
  by_cases hz0:kk.sz≤1048576
  rotate_left
  · skip
    have HZ0:=zH (VN (Nat.lt_of_not_le hz0));have HA0:=zH h0;have HA1:=zH h1;obtain ⟨p0_1,rfl,_⟩:=YJ h0;obtain ⟨p1_1,p1_2,rfl,_,_⟩:=Zu h1;have hb2':¬(1048576:Int)<(n2:Int):=by omega
    have hb4':¬(1048576:Int)<(n4:Int):=by omega
    clear hes2 hl2 hes4 hl4 h0 h1
    go_enter Tryz.func5,Tryz.ntmps5
    obtain ⟨y,hyy⟩:∃q:World,(((w).alloc (.cells #[.int .i64 kk.p,p0_1] 24)).alloc (.cells #[.int .i64 cc.p,p1_1,p1_2] 27)).alloc (.cells #[.int .i64 ts,.int .i64 ta] 29)=q:=⟨_,rfl⟩;have G:Hid (w.grownBy y none):=by rw [← hyy];exact gbA (gbA (gbA (gbR _ _) _) _) _
    have B0:Hid (Blk y (w.heap.size) 24 #[.int .i64 kk.p,p0_1]):=by rw [← hyy];exact ((Blk.new w _ _).grow (gbA (gbR _ _) _)).grow (gbA (gbR _ _) _)
    have B1:Hid (Blk y (w.heap.size+1) 27 #[.int .i64 cc.p,p1_1,p1_2]):=by rw [← hyy];exact (Blk.new' _ _ _ _ (by simp)).grow (gbA (gbR _ _) _)
    have k0:=B0.out.cell 0;have k1:=B0.out.cell 1;simp at k0 k1;go_wp2_with fail;clear k0 k1 hyy;refine (szKeys_k kk _ (1048576) _ (AggR.grow HA0.out G.out) (by omega)).mono ?_;rintro e y0 ⟨rfl,g⟩;rw [HZ0.out];have G2:=zH (gbT G.out g);have B12:=zH (B1.out.grow g);clear B1;have B1:=B12;clear B12;clear g G;have G:=G2;clear G2;go_wp2_with fail;go_ret;exact ⟨rfl,G.out⟩
  by_cases hz1:cc.sz≤1048576 - kk.sz
  rotate_left
  · skip
    have HZ0:=zH (Ww hz0);have HZ1:=zH (VN (Nat.lt_of_not_le hz1));have HA0:=zH h0;have HA1:=zH h1;obtain ⟨p0_1,rfl,_⟩:=YJ h0;obtain ⟨p1_1,p1_2,rfl,_,_⟩:=Zu h1;have hb2':¬(1048576:Int)<(n2:Int):=by omega
    have hb4':¬(1048576:Int)<(n4:Int):=by omega
    clear hes2 hl2 hes4 hl4 h0 h1
    go_enter Tryz.func5,Tryz.ntmps5
    obtain ⟨y,hyy⟩:∃q:World,(((w).alloc (.cells #[.int .i64 kk.p,p0_1] 24)).alloc (.cells #[.int .i64 cc.p,p1_1,p1_2] 27)).alloc (.cells #[.int .i64 ts,.int .i64 ta] 29)=q:=⟨_,rfl⟩;have G:Hid (w.grownBy y none):=by rw [← hyy];exact gbA (gbA (gbA (gbR _ _) _) _) _
    have B0:Hid (Blk y (w.heap.size) 24 #[.int .i64 kk.p,p0_1]):=by rw [← hyy];exact ((Blk.new w _ _).grow (gbA (gbR _ _) _)).grow (gbA (gbR _ _) _)
    have B1:Hid (Blk y (w.heap.size+1) 27 #[.int .i64 cc.p,p1_1,p1_2]):=by rw [← hyy];exact (Blk.new' _ _ _ _ (by simp)).grow (gbA (gbR _ _) _)
    have k0:=B0.out.cell 0;have k1:=B0.out.cell 1;simp at k0 k1;go_wp2_with fail;clear k0 k1 hyy;refine (szKeys_k kk _ (1048576) _ (AggR.grow HA0.out G.out) (by omega)).mono ?_;rintro e y0 ⟨rfl,g⟩;rw [HZ0.out];have G2:=zH (gbT G.out g);have B12:=zH (B1.out.grow g);clear B1;have B1:=B12;clear B12;clear g G;have G:=G2;clear G2;have k0:=B1.out.cell 0;have k1:=B1.out.cell 1;have k2:=B1.out.cell 2;simp at k0 k1 k2;go_wp2_with fail;clear k0 k1 k2;refine (szArith_k cc _ (1048576 - kk.sz) _ (AggR.grow HA1.out G.out) (by omega)).mono ?_;rintro e y1 ⟨rfl,g⟩;rw [HZ1.out];have G2:=zH (gbT G.out g);clear g G;have G:=G2;clear G2;go_wp2_with fail;go_ret;exact ⟨rfl,G.out⟩
  have wk0:kwf kk:=⟨wf0.1,by have h3:kk.sz=kk.al.length:=rfl;omega⟩;have hcz1:cc.sz=cc.st.length+cc.outs.length:=rfl;have wk1:amwf cc:=⟨wf1,by omega,by omega⟩;have hn2:ins.length≤1048576:=by omega
  have hn4:es.length≤1048576:=by omega
  exact FnExactOutcomeOf.core kk cc ins es ts ta (outN kk cc ins es ts ta:Int) w v0 v1 _ _ h0 h1 (Uo hes2.ints hm2 hc2) (Uo hes4.ints hm4 hc4) hz0 hz1 hn2 hn4 (fun w u0 u1 u2 u4 q0 q1 q2 q4=>Jb kk cc ins es ts ta wk0 wk1 hn2 hn4 w u0 u1 u2 u4 q0 q1 q2 q4) (fun w u0 u1 u2 u4 q0 q1 q2 q4=>Jc kk cc ins es ts ta wk0 wk1 hn2 hn4 w u0 u1 u2 u4 q0 q1 q2 q4)
end Go.Proofs.YthaadgdeadbhkaaGreat
