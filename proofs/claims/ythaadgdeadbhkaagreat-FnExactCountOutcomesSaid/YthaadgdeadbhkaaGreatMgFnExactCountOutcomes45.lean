/-
  FnExactCountOutcomes's core (printed by wip/gen_exrun.py).
-/
import Derived.Test.YthaadgdeadbhkaaGreatMgFnExactCountOutcomes44
open Go.RowKit
set_option linter.unusedVariables false
set_option linter.unusedSimpArgs false
namespace Go.Proofs.YthaadgdeadbhkaaGreat
attribute [local simp] depsF bindE List.filter_cons Zz Zq Zr Zs ZA ZW fAt Zy isV puts dsts Act.put
set_option maxRecDepth 100000 in
set_option maxHeartbeats 2000000 in
theorem FnExactCountOutcomes.core (cc:AM) (ins:List Int) (es:List Int) (ts ta:Int) (r0:List Int) (w:World) (v0 v1 v3:Value) (ha0:AggR w (carith cc) v0) (ha1:(cints ins).rd w v1) (ha3:(cints es).rd w v3) (hz0:cc.sz≤1048576) (hz1:ins.length≤1048576) (hz3:es.length≤1048576) (hs0:r0.length≤1048576)
    (hs:∀(w:World) (v0 v1 v3:Value),AggR w (carith cc) v0→(cints ins).rd w v1→(cints es).rd w v3→Calls Tryz.prog 35 #[v0,v1,.agg #[.int .i64 ts,.int .i64 ta],v3] w fun e w'=>∃V F,e=.returned V∧(cints r0).own w' F V∧(∀g∈F,w.heap.size≤g)∧w.grownBy w' none)
    (hi:∀(w:World) (v0 v1 v3:Value),AggR w (carith cc) v0→(cints ins).rd w v1→(cints es).rd w v3→Calls Tryz.prog 36 #[v0,v1,.agg #[.int .i64 ts,.int .i64 ta],v3] w fun e w'=>∃V F,e=.returned V∧(cints r0).own w' F V∧(∀g∈F,w.heap.size≤g)∧w.grownBy w' none) :
    Calls Tryz.prog 6 #[v0,v1,.agg #[.int .i64 ts,.int .i64 ta],v3] w fun e w'=>e=.returned (.bool true)∧w.grownBy w' none:=by
  have HS:=zH hs;have HI:=zH hi;obtain ⟨p0_1,p0_2,rfl,_,_⟩:=Zt (m:=cc) ha0;obtain ⟨pa1,pc1,rfl,_,_,_⟩:=Zx ha1;have hb1:¬(1048576:Int)<(ins.length:Int):=by omega
  obtain ⟨pa3,pc3,rfl,_,_,_⟩:=Zx ha3;have hb3:¬(1048576:Int)<(es.length:Int):=by omega
  have kc0:1≤cc.cnt 1∧cc.cnt 1≤4194304:=by
    have h2:cc.cnt 1=1+3*cc.st.length+cc.outs.length:=rfl;have h4:cc.sz=cc.st.length+cc.outs.length:=rfl;omega
  have HA0:=zH ha0;have HZ0:=zH hz0;have HA1:=zH ha1;have HZ1:=zH hz1;have HA3:=zH ha3;have HZ3:=zH hz3;have HL0:=zH hs0;clear hs hi ha0 ha1 ha3 hz0 hz1 hz3 hs0;obtain ⟨y,hyy⟩:∃q:World,((w).alloc (.cells #[.int .i64 cc.p,p0_1,p0_2] 27)).alloc (.cells #[.int .i64 ts,.int .i64 ta] 29)=q:=⟨_,rfl⟩;have G:Hid (w.grownBy y none):=by rw [← hyy];exact gbA (gbA (gbR _ _) _) _
  have z00:w.heap.size+2≤y.heap.size:=by rw [← hyy];simp
  have B0:Hid (Blk y (w.heap.size) 27 #[.int .i64 cc.p,p0_1,p0_2]):=by rw [← hyy];exact (Blk.new w _ _).grow (gbA (gbR _ _) _)
  have BT:Hid (Blk y (w.heap.size+1) 29 #[.int .i64 ts,.int .i64 ta]):=by rw [← hyy];exact Blk.new' _ _ _ _ (by simp)
  go_enter Tryz.func6,Tryz.ntmps6
  have k_B0_0:=B0.out.cell 0;have k_B0_1:=B0.out.cell 1;have k_B0_2:=B0.out.cell 2;have k_BT_0:=BT.out.cell 0;have k_BT_1:=BT.out.cell 1;simp at k_B0_0 k_B0_1 k_B0_2 k_BT_0 k_BT_1;go_wp2_with fail;clear k_B0_0 k_B0_1 k_B0_2 k_BT_0 k_BT_1;clear hyy;refine (szArith_k cc _ (1048576) _ (AggR.grow HA0.out G.out) (by omega)).mono ?_;rintro e y ⟨rfl,g⟩;rw [Qa HZ0.out];replace B0:=zH (Blk.grow B0.out g);replace BT:=zH (Blk.grow BT.out g);have z1:=World.grownBy.size g
  try simp at z1
  replace G:=zH (gbT G.out g);clear g;have k_B0_0:=B0.out.cell 0;have k_B0_1:=B0.out.cell 1;have k_B0_2:=B0.out.cell 2;have k_BT_0:=BT.out.cell 0;have k_BT_1:=BT.out.cell 1;simp at k_B0_0 k_B0_1 k_B0_2 k_BT_0 k_BT_1;go_wp2_with fail;clear k_B0_0 k_B0_1 k_B0_2 k_BT_0 k_BT_1;have kkB0_0:=zH (B0.out.cell 0);have kkB0_1:=zH (B0.out.cell 1);have kkB0_2:=zH (B0.out.cell 2);have kkBT_0:=zH (BT.out.cell 0);have kkBT_1:=zH (BT.out.cell 1);simp only [List.getElem?_toArray,List.getElem?_cons_succ,List.getElem?_cons_zero] at kkB0_0 kkB0_1 kkB0_2 kkBT_0 kkBT_1
  refine Xz [onT 30 (isV (.agg #[.int .i64 cc.p,p0_1,p0_2])),
     onT 31 (aggF y.heap.size (carith cc)),
     onT 32 (isV (.slice pa1 ins.length pc1)),
     onT 33 (intF y.heap.size ins),
     onT 34 (isV (.agg #[.int .i64 ts,.int .i64 ta])),
     onT 35 (isV (.agg #[.int .i64 ts,.int .i64 ta])),
     onT 36 (isV (.slice pa3 es.length pc3)),
     onT 37 (intF y.heap.size es),
     onT 38 (intF y.heap.size r0),
     onT 10 (intF y.heap.size r0)] [] (by kernel_rfl) (by kernel_rfl) (by kernel_rfl) ?_ ?_ ?_
  · exact Zc (Zh (Zb _)) (Zc (Zh (YG)) (Zc (Zh (Zb _)) (Zc (Zh (Wy)) (Zc (Zh (Zb _)) (Zc (Zh (Zb _)) (Zc (Zh (Zb _)) (Zc (Zh (Wy)) (Zc (Zh (Wy)) (Zc (Zh (Wy)) ZX)))))))))
  · simp only [hops6,and_true]
    refine ⟨?_, ?_, ?_, ?_, ?_, ?_, ?_, ?_, ?_, ?_⟩
    · intro f w1 hG hpre hold hd
      have hg4:=gbT (gbD (gbR y none)) (gb0 hG);clear hG hpre hold;have k0:=gbk hg4 (kkB0_0.out);have k1:=gbk hg4 (kkB0_1.out);have k2:=gbk hg4 (kkB0_2.out)
      (try simp at hd)
      first | simp [hd] | simp
      try clear hd
      go_wp2_with fail;exact ⟨_,rfl,by simp [fAt,Zy,Zn,isV],Or.inl (gbR _ _)⟩
    · intro f w1 hG hpre hold hd
      have hg4:=gbT (gbD (gbR y none)) (gb0 hG);clear hG hpre hold
      (try simp at hd)
      first | (have hd2:=hd.1;clear hd;have hd:=hd2;clear hd2) | skip
      simp [puts,dsts,Act.put,hd];clear hd;go_wp2_with fail;refine (UH cc _ w1 (AggR.grow HA0.out (gbT G.out hg4)) HZ0.out).mono ?_;rintro e w6 ⟨uu,FF,rfl,oo,ll,hw⟩;have O6:=zH (show aggF y.heap.size (carith cc) uu w6 from ⟨FF,oo,fun x hx=>Nat.le_trans hg4.size (ll x hx)⟩);obtain ⟨_,_,_,_,_,_,rfl⟩:=YH oo;have G6:=zH hw;clear oo ll hw;go_wp2_with fail;exact ⟨_,rfl,O6.out,Or.inl G6.out⟩
    · intro f w1 hG hpre hold hd
      have hg4:=gbT (gbD (gbR y none)) (gb0 hG);clear hG hpre hold
      (try simp at hd)
      first | simp [hd] | simp
      try clear hd
      go_wp2_with fail;exact ⟨_,rfl,by simp [fAt,Zy,Zn,isV],Or.inl (gbR _ _)⟩
    · intro f w1 hG hpre hold hd
      have hg4:=gbT (gbD (gbR y none)) (gb0 hG);clear hG hpre hold
      (try simp at hd)
      first | (have hd2:=hd.1;clear hd;have hd:=hd2;clear hd2) | skip
      simp [puts,dsts,Act.put,hd];clear hd;go_wp2_with fail;refine (XL ins _ w1 (CS.grow _ HA1.out (gbT G.out hg4)) HZ1.out).mono ?_;rintro e w6 ⟨uu,FF,rfl,oo,ll,hw⟩;have O6:=zH (show intF y.heap.size ins uu w6 from intF.of oo (fun x hx=>Nat.le_trans hg4.size (ll x hx)));obtain ⟨_,_,_,rfl⟩:=ZV oo;have G6:=zH hw;clear oo ll hw;go_wp2_with fail;exact ⟨_,rfl,O6.out,Or.inl G6.out⟩
    · intro f w1 hG hpre hold hd
      have hg4:=gbT (gbD (gbR y none)) (gb0 hG);clear hG hpre hold;have k3:=gbk hg4 (kkBT_0.out);have k4:=gbk hg4 (kkBT_1.out)
      (try simp at hd)
      first | simp [hd] | simp
      try clear hd
      go_wp2_with fail;exact ⟨_,rfl,by simp [fAt,Zy,Zn,isV],Or.inl (gbR _ _)⟩
    · intro f w1 hG hpre hold hd
      have hg4:=gbT (gbD (gbR y none)) (gb0 hG);clear hG hpre hold
      (try simp at hd)
      first | (have hd2:=hd.1;clear hd;have hd:=hd2;clear hd2) | skip
      simp [puts,dsts,Act.put,hd];clear hd;go_wp2_with fail;refine (toTape_c ts ta w1).mono ?_;rintro e w6 ⟨rfl,g6⟩;have G6:=zH g6;clear g6;go_wp2_with fail;exact ⟨_,rfl,rfl,Or.inl G6.out⟩
    · intro f w1 hG hpre hold hd
      have hg4:=gbT (gbD (gbR y none)) (gb0 hG);clear hG hpre hold
      (try simp at hd)
      first | simp [hd] | simp
      try clear hd
      go_wp2_with fail;exact ⟨_,rfl,by simp [fAt,Zy,Zn,isV],Or.inl (gbR _ _)⟩
    · intro f w1 hG hpre hold hd
      have hg4:=gbT (gbD (gbR y none)) (gb0 hG);clear hG hpre hold
      (try simp at hd)
      first | (have hd2:=hd.1;clear hd;have hd:=hd2;clear hd2) | skip
      simp [puts,dsts,Act.put,hd];clear hd;go_wp2_with fail;refine (XL es _ w1 (CS.grow _ HA3.out (gbT G.out hg4)) HZ3.out).mono ?_;rintro e w6 ⟨uu,FF,rfl,oo,ll,hw⟩;have O6:=zH (show intF y.heap.size es uu w6 from intF.of oo (fun x hx=>Nat.le_trans hg4.size (ll x hx)));obtain ⟨_,_,_,rfl⟩:=ZV oo;have G6:=zH hw;clear oo ll hw;go_wp2_with fail;exact ⟨_,rfl,O6.out,Or.inl G6.out⟩
    · intro f w1 hG hpre hold hd
      have hg4:=gbT (gbD (gbR y none)) (gb0 hG);clear hG hpre hold
      (try simp at hd)
      obtain ⟨h1,h2,h3,h4⟩:=hd
      first | (have hd2:=h4.1;clear h4;have h4:=hd2;clear hd2) | skip
      obtain ⟨FK0,k0,_⟩:=h1;have R0:=zH k0.rd;have R1:=zH (intF.rd h2);have R3:=zH (intF.rd h4)
      first | simp [puts,dsts,Act.put,h3] | simp [puts,dsts,Act.put]
      go_wp2_with fail;refine (HS.out w1 _ _ _ R0.out R1.out R3.out).mono ?_;rintro e w6 ⟨V,F6,rfl,o6,l6,g6⟩;have O6:=zH (show intF y.heap.size r0 V w6 from intF.of o6 (fun x hx=>Nat.le_trans hg4.size (l6 x hx)));obtain ⟨A',n',c',rfl⟩:=ZV o6;have G6:=zH g6;clear o6 l6 g6;go_wp2_with fail;exact ⟨_,rfl,O6.out,Or.inl G6.out⟩
    · intro f w1 hG hpre hold hd
      have hg4:=gbT (gbD (gbR y none)) (gb0 hG);clear hG hpre hold
      (try simp at hd)
      first | (have hd2:=hd.1;clear hd;have hd:=hd2;clear hd2) | skip
      first | simp [puts,dsts,Act.put] | skip
      go_wp2_with fail;exact ⟨_,rfl,hd,Or.inl (gbR _ _)⟩
  intro f yn hG hK;have g:=gbT (gbD (gbR y none)) (gb0 hG);clear hG;simp only [puts,dsts,Act.put,zB,zC,zA,zD,zE];have hr0:intF _ r0 (f 10) yn:=Yh hK (i:=9) rfl;obtain ⟨Fwr0,hr1,hr2⟩:=intF.own hr0;obtain ⟨awr0,nwr0,swr0,hr3⟩:=ZV hr1;rw [hr3] at hr1 ⊢
  try simp at hr2
  have Owr0:=zH hr1;have Lwr0:=zH hr2;have Uwr0:=zH (CS.lt _ hr1);replace B0:=zH (Blk.grow B0.out g);replace BT:=zH (Blk.grow BT.out g);have z2:=World.grownBy.size g
  try simp at z2
  replace G:=zH (gbT G.out g);obtain ⟨y,rfl⟩:∃q,q=yn:=⟨_,rfl⟩;clear g hK hr0 hr1 hr2 hr3 kkB0_0 kkB0_1 kkB0_2 kkBT_0 kkBT_1;have k_B0_0:=B0.out.cell 0;have k_B0_1:=B0.out.cell 1;have k_B0_2:=B0.out.cell 2;have k_BT_0:=BT.out.cell 0;have k_BT_1:=BT.out.cell 1;simp at k_B0_0 k_B0_1 k_B0_2 k_BT_0 k_BT_1;go_wp2_with fail;clear k_B0_0 k_B0_1 k_B0_2 k_BT_0 k_BT_1;refine (UH cc _ _ (AggR.grow HA0.out G.out) HZ0.out).mono ?_;rintro e y ⟨uu,Fx0,rfl,oo,ll,g⟩;obtain ⟨ax0_1,nx0_1,sx0_1,ax0_2,nx0_2,sx0_2,rfl⟩:=YH oo
  try simp at ll
  have Ox0:=zH oo;have Lx0:=zH ll;have Ux0:=zH (AggO.lt oo);replace B0:=zH (Blk.grow B0.out g);replace BT:=zH (Blk.grow BT.out g);replace Owr0:=zH (Zi _ Owr0.out g);have z3:=World.grownBy.size g
  try simp at z3
  replace G:=zH (gbT G.out g);clear g oo ll;have X:=zH (Blk.new y 38 #[.int .i64 cc.p,.slice ax0_1 nx0_1 sx0_1,.slice ax0_2 nx0_2 sx0_2]);have ga:y.grownBy (y.alloc (.cells #[.int .i64 cc.p,.slice ax0_1 nx0_1 sx0_1,.slice ax0_2 nx0_2 sx0_2] 38)) none:=gbA (gbR y none) _;replace B0:=zH (Blk.grow B0.out ga);replace BT:=zH (Blk.grow BT.out ga);replace Owr0:=zH (Zi _ Owr0.out ga);replace Ox0:=zH (AggO.grow Ox0.out ga);have z4:=World.grownBy.size ga
  try simp at z4
  replace G:=zH (gbT G.out ga);clear ga;have X0:=X;clear X;go_wp2_with fail;refine (XL ins _ _ (CS.grow _ HA1.out G.out) HZ1.out).mono ?_;rintro e y ⟨uu,Fx1,rfl,oo,ll,g⟩;obtain ⟨ax1,nx1,sx1,rfl⟩:=ZV oo
  try simp at ll
  have Ox1:=zH oo;have Lx1:=zH ll;have Ux1:=zH (CS.lt _ oo);replace B0:=zH (Blk.grow B0.out g);replace BT:=zH (Blk.grow BT.out g);replace X0:=zH (Blk.grow X0.out g);replace Owr0:=zH (Zi _ Owr0.out g);replace Ox0:=zH (AggO.grow Ox0.out g);have z5:=World.grownBy.size g
  try simp at z5
  replace G:=zH (gbT G.out g);clear g oo ll;have k_B0_0:=B0.out.cell 0;have k_B0_1:=B0.out.cell 1;have k_B0_2:=B0.out.cell 2;have k_BT_0:=BT.out.cell 0;have k_BT_1:=BT.out.cell 1;have k_X0_0:=X0.out.cell 0;have k_X0_1:=X0.out.cell 1;have k_X0_2:=X0.out.cell 2;simp at k_B0_0 k_B0_1 k_B0_2 k_BT_0 k_BT_1 k_X0_0 k_X0_1 k_X0_2;go_wp2_with fail;clear k_B0_0 k_B0_1 k_B0_2 k_BT_0 k_BT_1 k_X0_0 k_X0_1 k_X0_2;refine (XL es _ _ (CS.grow _ HA3.out G.out) HZ3.out).mono ?_;rintro e y ⟨uu,Fx3,rfl,oo,ll,g⟩;obtain ⟨ax3,nx3,sx3,rfl⟩:=ZV oo
  try simp at ll
  have Ox3:=zH oo;have Lx3:=zH ll;have Ux3:=zH (CS.lt _ oo);replace B0:=zH (Blk.grow B0.out g);replace BT:=zH (Blk.grow BT.out g);replace X0:=zH (Blk.grow X0.out g);replace Owr0:=zH (Zi _ Owr0.out g);replace Ox0:=zH (AggO.grow Ox0.out g);replace Ox1:=zH (Zi _ Ox1.out g);have z6:=World.grownBy.size g
  try simp at z6
  replace G:=zH (gbT G.out g);clear g oo ll;have k_B0_0:=B0.out.cell 0;have k_B0_1:=B0.out.cell 1;have k_B0_2:=B0.out.cell 2;have k_BT_0:=BT.out.cell 0;have k_BT_1:=BT.out.cell 1;have k_X0_0:=X0.out.cell 0;have k_X0_1:=X0.out.cell 1;have k_X0_2:=X0.out.cell 2;simp at k_B0_0 k_B0_1 k_B0_2 k_BT_0 k_BT_1 k_X0_0 k_X0_1 k_X0_2;go_wp2_with fail;clear k_B0_0 k_B0_1 k_B0_2 k_BT_0 k_BT_1 k_X0_0 k_X0_1 k_X0_2;have kkBT_0:=zH (BT.out.cell 0);have kkBT_1:=zH (BT.out.cell 1);have kkX0_0:=zH (X0.out.cell 0);have kkX0_1:=zH (X0.out.cell 1);have kkX0_2:=zH (X0.out.cell 2);simp only [List.getElem?_toArray,List.getElem?_cons_succ,List.getElem?_cons_zero] at kkBT_0 kkBT_1 kkX0_0 kkX0_1 kkX0_2
  refine Xz [onT 45 (isV (.agg #[.int .i64 cc.p,.slice ax0_1 nx0_1 sx0_1,.slice ax0_2 nx0_2 sx0_2])),
     onT 46 (isV (.slice ax1 nx1 sx1)),
     onT 47 (isV (.agg #[.int .i64 ts,.int .i64 ta])),
     onT 48 (isV (.agg #[.int .i64 ts,.int .i64 ta])),
     onT 49 (isV (.slice ax3 nx3 sx3)),
     onT 50 (intF y.heap.size r0),
     onT 14 (intF y.heap.size r0)] [] (by kernel_rfl) (by kernel_rfl) (by kernel_rfl) ?_ ?_ ?_
  · exact Zc (Zh (Zb _)) (Zc (Zh (Zb _)) (Zc (Zh (Zb _)) (Zc (Zh (Zb _)) (Zc (Zh (Zb _)) (Zc (Zh (Wy)) (Zc (Zh (Wy)) ZX))))))
  · simp only [hops6,and_true]
    refine ⟨?_, ?_, ?_, ?_, ?_, ?_, ?_⟩
    · intro f w1 hG hpre hold hd
      have hg4:=gbT (gbD (gbR y none)) (gb0 hG);clear hG hpre hold;have k2:=gbk hg4 (kkX0_0.out);have k3:=gbk hg4 (kkX0_1.out);have k4:=gbk hg4 (kkX0_2.out)
      (try simp at hd)
      first | simp [hd] | simp
      try clear hd
      go_wp2_with fail;exact ⟨_,rfl,by simp [fAt,Zy,Zn,isV],Or.inl (gbR _ _)⟩
    · intro f w1 hG hpre hold hd
      have hg4:=gbT (gbD (gbR y none)) (gb0 hG);clear hG hpre hold
      (try simp at hd)
      first | simp [hd] | simp
      try clear hd
      go_wp2_with fail;exact ⟨_,rfl,by simp [fAt,Zy,Zn,isV],Or.inl (gbR _ _)⟩
    · intro f w1 hG hpre hold hd
      have hg4:=gbT (gbD (gbR y none)) (gb0 hG);clear hG hpre hold;have k0:=gbk hg4 (kkBT_0.out);have k1:=gbk hg4 (kkBT_1.out)
      (try simp at hd)
      first | simp [hd] | simp
      try clear hd
      go_wp2_with fail;exact ⟨_,rfl,by simp [fAt,Zy,Zn,isV],Or.inl (gbR _ _)⟩
    · intro f w1 hG hpre hold hd
      have hg4:=gbT (gbD (gbR y none)) (gb0 hG);clear hG hpre hold
      (try simp at hd)
      first | (have hd2:=hd.1;clear hd;have hd:=hd2;clear hd2) | skip
      simp [puts,dsts,Act.put,hd];clear hd;go_wp2_with fail;refine (toTape_c ts ta w1).mono ?_;rintro e w6 ⟨rfl,g6⟩;have G6:=zH g6;clear g6;go_wp2_with fail;exact ⟨_,rfl,rfl,Or.inl G6.out⟩
    · intro f w1 hG hpre hold hd
      have hg4:=gbT (gbD (gbR y none)) (gb0 hG);clear hG hpre hold
      (try simp at hd)
      first | simp [hd] | simp
      try clear hd
      go_wp2_with fail;exact ⟨_,rfl,by simp [fAt,Zy,Zn,isV],Or.inl (gbR _ _)⟩
    · intro f w1 hG hpre hold hd
      have hg4:=gbT (gbD (gbR y none)) (gb0 hG);clear hG hpre hold
      (try simp at hd)
      obtain ⟨h1,h2,h3,h4⟩:=hd
      first | (have hd2:=h4.1;clear h4;have h4:=hd2;clear hd2) | skip
      first | simp [puts,dsts,Act.put,h1,h2,h3,h4] | simp [puts,dsts,Act.put]
      go_wp2_with fail;refine (HI.out w1 _ _ _ (Ox0.out.grow hg4).rd (CS.toRd _ (Zi _ Ox1.out hg4)) (CS.toRd _ (Zi _ Ox3.out hg4))).mono ?_;rintro e w6 ⟨V,F6,rfl,o6,l6,g6⟩;have O6:=zH (show intF y.heap.size r0 V w6 from intF.of o6 (fun x hx=>Nat.le_trans hg4.size (l6 x hx)));obtain ⟨A',n',c',rfl⟩:=ZV o6;have G6:=zH g6;clear o6 l6 g6;go_wp2_with fail;exact ⟨_,rfl,O6.out,Or.inl G6.out⟩
    · intro f w1 hG hpre hold hd
      have hg4:=gbT (gbD (gbR y none)) (gb0 hG);clear hG hpre hold
      (try simp at hd)
      first | (have hd2:=hd.1;clear hd;have hd:=hd2;clear hd2) | skip
      first | simp [puts,dsts,Act.put] | skip
      go_wp2_with fail;exact ⟨_,rfl,hd,Or.inl (gbR _ _)⟩
  intro f yn hG hK;have g:=gbT (gbD (gbR y none)) (gb0 hG);clear hG;simp only [puts,dsts,Act.put,zB,zC,zA,zD,zE];have hr0:intF _ r0 (f 14) yn:=Yh hK (i:=6) rfl;obtain ⟨Fgr0,hr1,hr2⟩:=intF.own hr0;obtain ⟨agr0,ngr0,sgr0,hr3⟩:=ZV hr1;rw [hr3] at hr1 ⊢
  try simp at hr2
  have Ogr0:=zH hr1;have Lgr0:=zH hr2;have Ugr0:=zH (CS.lt _ hr1);replace B0:=zH (Blk.grow B0.out g);replace BT:=zH (Blk.grow BT.out g);replace X0:=zH (Blk.grow X0.out g);replace Owr0:=zH (Zi _ Owr0.out g);replace Ox0:=zH (AggO.grow Ox0.out g);replace Ox1:=zH (Zi _ Ox1.out g);replace Ox3:=zH (Zi _ Ox3.out g);have z7:=World.grownBy.size g
  try simp at z7
  replace G:=zH (gbT G.out g);obtain ⟨y,rfl⟩:∃q,q=yn:=⟨_,rfl⟩;clear g hK hr0 hr1 hr2 hr3 kkBT_0 kkBT_1 kkX0_0 kkX0_1 kkX0_2;have k_B0_0:=B0.out.cell 0;have k_B0_1:=B0.out.cell 1;have k_B0_2:=B0.out.cell 2;have k_BT_0:=BT.out.cell 0;have k_BT_1:=BT.out.cell 1;have k_X0_0:=X0.out.cell 0;have k_X0_1:=X0.out.cell 1;have k_X0_2:=X0.out.cell 2;simp at k_B0_0 k_B0_1 k_B0_2 k_BT_0 k_BT_1 k_X0_0 k_X0_1 k_X0_2;go_wp2_with fail;clear k_B0_0 k_B0_1 k_B0_2 k_BT_0 k_BT_1 k_X0_0 k_X0_1 k_X0_2;refine (VF r0 _ _ _ (CS.toRd _ Ogr0.out) (CS.toRd _ Owr0.out) HL0.out).mono ?_;rintro e y ⟨rfl,g⟩;replace B0:=zH (Blk.grow B0.out g);replace BT:=zH (Blk.grow BT.out g);replace X0:=zH (Blk.grow X0.out g);replace Owr0:=zH (Zi _ Owr0.out g);replace Ox0:=zH (AggO.grow Ox0.out g);replace Ox1:=zH (Zi _ Ox1.out g);replace Ox3:=zH (Zi _ Ox3.out g);replace Ogr0:=zH (Zi _ Ogr0.out g);have z8:=World.grownBy.size g
  try simp at z8
  replace G:=zH (gbT G.out g);clear g;have k_B0_0:=B0.out.cell 0;have k_B0_1:=B0.out.cell 1;have k_B0_2:=B0.out.cell 2;have k_BT_0:=BT.out.cell 0;have k_BT_1:=BT.out.cell 1;have k_X0_0:=X0.out.cell 0;have k_X0_1:=X0.out.cell 1;have k_X0_2:=X0.out.cell 2;simp at k_B0_0 k_B0_1 k_B0_2 k_BT_0 k_BT_1 k_X0_0 k_X0_1 k_X0_2;go_wp2_with fail;clear k_B0_0 k_B0_1 k_B0_2 k_BT_0 k_BT_1 k_X0_0 k_X0_1 k_X0_2;refine Zv [isV (.agg #[.int .i64 cc.p,.slice ax0_1 nx0_1 sx0_1,.slice ax0_2 nx0_2 sx0_2]),isV (.agg #[.int .i64 cc.p,p0_1,p0_2]),fun v w=>AggR w (carith cc) v,isV (.bool true),isV (.bool false)] (by kernel_rfl) (by kernel_rfl) (by kernel_rfl) (by simp only [ZM,List.mem_cons,List.not_mem_nil,or_false,forall_eq_or_imp,forall_eq];exact ⟨Zb _,Zb _,fun _ _ _ h hg=>AggR.grow h hg,Zb _,Zb _⟩) ?_ ?_
  · simp only [hops,and_true]
    refine ⟨?_, ?_, ?_, ?_, ?_⟩
    all_goals
      intro f w1 hG hd;have k_X0_0:=(X0.out.grow (gdT' hG)).cell 0;have k_X0_1:=(X0.out.grow (gdT' hG)).cell 1;have k_X0_2:=(X0.out.grow (gdT' hG)).cell 2;have k_B0_0:=(B0.out.grow (gdT' hG)).cell 0;have k_B0_1:=(B0.out.grow (gdT' hG)).cell 1;have k_B0_2:=(B0.out.grow (gdT' hG)).cell 2;simp at k_X0_0 k_X0_1 k_X0_2 k_B0_0 k_B0_1 k_B0_2;have GG:=zH (gbT G.out (gdT' hG));have OO:=zH (AggR.grow (Ox0.out.grow (gdT' hG)).rd (gbR _ _));simp [deps,tAt,isV] at hd
      first | simp [hd] | simp
      go_wp2_with (first | (go_at_call 11;refine (UH cc _ _ (AggR.grow HA0.out GG.out) HZ0.out).mono ?_;rintro e w2 ⟨uu,FF,rfl,oo,ll,hw⟩) | (go_at_call 17;refine (eqArith_k cc _ _ _ OO.out hd.2 HZ0.out).mono ?_;rintro e w2 ⟨rfl,hw⟩))
    all_goals exact ⟨_,rfl,by first | with_reducible exact gbR _ _ | exact hw,by first | (simp [tAt,isV];done) | exact oo.rd⟩
  · intro f y hG hd
    have g:=gdT' hG;simp [knows,tAt,isV] at hd;obtain ⟨h1,h2,h3,h4,h5⟩:=hd;replace B0:=zH (Blk.grow B0.out g);replace BT:=zH (Blk.grow BT.out g);replace X0:=zH (Blk.grow X0.out g);replace Owr0:=zH (Zi _ Owr0.out g);replace Ox0:=zH (AggO.grow Ox0.out g);replace Ox1:=zH (Zi _ Ox1.out g);replace Ox3:=zH (Zi _ Ox3.out g);replace Ogr0:=zH (Zi _ Ogr0.out g);have z9:=World.grownBy.size g
    try simp at z9
    replace G:=zH (gbT G.out g);clear g hG;simp only [puts,dsts,Act.put,h1,h2,h4,h5,zB,zC,zA,zD,zE];clear h1 h2 h3 h4 h5;have k_B0_0:=B0.out.cell 0;have k_B0_1:=B0.out.cell 1;have k_B0_2:=B0.out.cell 2;have k_BT_0:=BT.out.cell 0;have k_BT_1:=BT.out.cell 1;have k_X0_0:=X0.out.cell 0;have k_X0_1:=X0.out.cell 1;have k_X0_2:=X0.out.cell 2;simp at k_B0_0 k_B0_1 k_B0_2 k_BT_0 k_BT_1 k_X0_0 k_X0_1 k_X0_2;go_wp2_with fail;clear k_B0_0 k_B0_1 k_B0_2 k_BT_0 k_BT_1 k_X0_0 k_X0_1 k_X0_2;refine (XL ins _ _ (CS.grow _ HA1.out G.out) HZ1.out).mono ?_;rintro e y ⟨uu,Fy1,rfl,oo,ll,g⟩;obtain ⟨ay1,ny1,sy1,rfl⟩:=ZV oo
    try simp at ll
    have Oy1:=zH oo;have Ly1:=zH ll;have Uy1:=zH (CS.lt _ oo);replace B0:=zH (Blk.grow B0.out g);replace BT:=zH (Blk.grow BT.out g);replace X0:=zH (Blk.grow X0.out g);replace Owr0:=zH (Zi _ Owr0.out g);replace Ox0:=zH (AggO.grow Ox0.out g);replace Ox1:=zH (Zi _ Ox1.out g);replace Ox3:=zH (Zi _ Ox3.out g);replace Ogr0:=zH (Zi _ Ogr0.out g);have z10:=World.grownBy.size g
    try simp at z10
    replace G:=zH (gbT G.out g);clear g oo ll;have k_B0_0:=B0.out.cell 0;have k_B0_1:=B0.out.cell 1;have k_B0_2:=B0.out.cell 2;have k_BT_0:=BT.out.cell 0;have k_BT_1:=BT.out.cell 1;have k_X0_0:=X0.out.cell 0;have k_X0_1:=X0.out.cell 1;have k_X0_2:=X0.out.cell 2;simp at k_B0_0 k_B0_1 k_B0_2 k_BT_0 k_BT_1 k_X0_0 k_X0_1 k_X0_2;go_wp2_with fail;clear k_B0_0 k_B0_1 k_B0_2 k_BT_0 k_BT_1 k_X0_0 k_X0_1 k_X0_2;refine (VF ins _ _ _ (CS.toRd _ Ox1.out) (CS.toRd _ Oy1.out) HZ1.out).mono ?_;rintro e y ⟨rfl,g⟩;replace B0:=zH (Blk.grow B0.out g);replace BT:=zH (Blk.grow BT.out g);replace X0:=zH (Blk.grow X0.out g);replace Owr0:=zH (Zi _ Owr0.out g);replace Ox0:=zH (AggO.grow Ox0.out g);replace Ox1:=zH (Zi _ Ox1.out g);replace Ox3:=zH (Zi _ Ox3.out g);replace Ogr0:=zH (Zi _ Ogr0.out g);replace Oy1:=zH (Zi _ Oy1.out g);have z11:=World.grownBy.size g
    try simp at z11
    replace G:=zH (gbT G.out g);clear g;clear Oy1 Ly1 Uy1;have k_B0_0:=B0.out.cell 0;have k_B0_1:=B0.out.cell 1;have k_B0_2:=B0.out.cell 2;have k_BT_0:=BT.out.cell 0;have k_BT_1:=BT.out.cell 1;have k_X0_0:=X0.out.cell 0;have k_X0_1:=X0.out.cell 1;have k_X0_2:=X0.out.cell 2;simp at k_B0_0 k_B0_1 k_B0_2 k_BT_0 k_BT_1 k_X0_0 k_X0_1 k_X0_2;go_wp2_with fail;clear k_B0_0 k_B0_1 k_B0_2 k_BT_0 k_BT_1 k_X0_0 k_X0_1 k_X0_2;refine (XL es _ _ (CS.grow _ HA3.out G.out) HZ3.out).mono ?_;rintro e y ⟨uu,Fy3,rfl,oo,ll,g⟩;obtain ⟨ay3,ny3,sy3,rfl⟩:=ZV oo
    try simp at ll
    have Oy3:=zH oo;have Ly3:=zH ll;have Uy3:=zH (CS.lt _ oo);replace B0:=zH (Blk.grow B0.out g);replace BT:=zH (Blk.grow BT.out g);replace X0:=zH (Blk.grow X0.out g);replace Owr0:=zH (Zi _ Owr0.out g);replace Ox0:=zH (AggO.grow Ox0.out g);replace Ox1:=zH (Zi _ Ox1.out g);replace Ox3:=zH (Zi _ Ox3.out g);replace Ogr0:=zH (Zi _ Ogr0.out g);have z12:=World.grownBy.size g
    try simp at z12
    replace G:=zH (gbT G.out g);clear g oo ll;have k_B0_0:=B0.out.cell 0;have k_B0_1:=B0.out.cell 1;have k_B0_2:=B0.out.cell 2;have k_BT_0:=BT.out.cell 0;have k_BT_1:=BT.out.cell 1;have k_X0_0:=X0.out.cell 0;have k_X0_1:=X0.out.cell 1;have k_X0_2:=X0.out.cell 2;simp at k_B0_0 k_B0_1 k_B0_2 k_BT_0 k_BT_1 k_X0_0 k_X0_1 k_X0_2;go_wp2_with fail;clear k_B0_0 k_B0_1 k_B0_2 k_BT_0 k_BT_1 k_X0_0 k_X0_1 k_X0_2;refine (VF es _ _ _ (CS.toRd _ Ox3.out) (CS.toRd _ Oy3.out) HZ3.out).mono ?_;rintro e y ⟨rfl,g⟩;replace B0:=zH (Blk.grow B0.out g);replace BT:=zH (Blk.grow BT.out g);replace X0:=zH (Blk.grow X0.out g);replace Owr0:=zH (Zi _ Owr0.out g);replace Ox0:=zH (AggO.grow Ox0.out g);replace Ox1:=zH (Zi _ Ox1.out g);replace Ox3:=zH (Zi _ Ox3.out g);replace Ogr0:=zH (Zi _ Ogr0.out g);replace Oy3:=zH (Zi _ Oy3.out g);have z13:=World.grownBy.size g
    try simp at z13
    replace G:=zH (gbT G.out g);clear g;clear Oy3 Ly3 Uy3;have k_B0_0:=B0.out.cell 0;have k_B0_1:=B0.out.cell 1;have k_B0_2:=B0.out.cell 2;have k_BT_0:=BT.out.cell 0;have k_BT_1:=BT.out.cell 1;have k_X0_0:=X0.out.cell 0;have k_X0_1:=X0.out.cell 1;have k_X0_2:=X0.out.cell 2;simp at k_B0_0 k_B0_1 k_B0_2 k_BT_0 k_BT_1 k_X0_0 k_X0_1 k_X0_2;go_wp2_with fail;clear k_B0_0 k_B0_1 k_B0_2 k_BT_0 k_BT_1 k_X0_0 k_X0_1 k_X0_2;refine (markArith_k cc _ Fx0 (1) _ Ox0.out HZ0.out (by omega) (by omega)).mono ?_;rintro e y ⟨rfl,oo,cc9⟩;replace Ox0:=zH oo;clear oo;replace B0:=zH (YW B0.out cc9 (fun hg=>by have h1:=Lx0.out _ hg;have h2:=Ux0.out _ hg;omega));replace BT:=zH (YW BT.out cc9 (fun hg=>by have h1:=Lx0.out _ hg;have h2:=Ux0.out _ hg;omega));replace X0:=zH (YW X0.out cc9 (fun hg=>by have h1:=Lx0.out _ hg;have h2:=Ux0.out _ hg;omega));replace Owr0:=zH (Yv _ Owr0.out cc9 (fun g hg hx=>by have h1:=Lwr0.out g hg;have h2:=Uwr0.out g hg;have h3:=Lx0.out g hx;have h4:=Ux0.out g hx;omega));replace Ox1:=zH (Yv _ Ox1.out cc9 (fun g hg hx=>by have h1:=Lx1.out g hg;have h2:=Ux1.out g hg;have h3:=Lx0.out g hx;have h4:=Ux0.out g hx;omega));replace Ox3:=zH (Yv _ Ox3.out cc9 (fun g hg hx=>by have h1:=Lx3.out g hg;have h2:=Ux3.out g hg;have h3:=Lx0.out g hx;have h4:=Ux0.out g hx;omega));replace Ogr0:=zH (Yv _ Ogr0.out cc9 (fun g hg hx=>by have h1:=Lgr0.out g hg;have h2:=Ugr0.out g hg;have h3:=Lx0.out g hx;have h4:=Ux0.out g hx;omega));have z14:=Chg.size cc9
    try simp at z14
    replace G:=zH (Chg.new G.out cc9 (fun g hg=>by have h1:=Lx0.out g hg;omega));clear cc9;have k_B0_0:=B0.out.cell 0;have k_B0_1:=B0.out.cell 1;have k_B0_2:=B0.out.cell 2;have k_BT_0:=BT.out.cell 0;have k_BT_1:=BT.out.cell 1;have k_X0_0:=X0.out.cell 0;have k_X0_1:=X0.out.cell 1;have k_X0_2:=X0.out.cell 2;simp at k_B0_0 k_B0_1 k_B0_2 k_BT_0 k_BT_1 k_X0_0 k_X0_1 k_X0_2;go_wp2_with fail;clear k_B0_0 k_B0_1 k_B0_2 k_BT_0 k_BT_1 k_X0_0 k_X0_1 k_X0_2;refine (VG ins _ Fx1 (cc.cnt 1) _ Ox1.out HZ1.out (by omega) (by omega)).mono ?_;rintro e y ⟨rfl,oo,cc9⟩;replace Ox1:=zH oo;clear oo;replace B0:=zH (YW B0.out cc9 (fun hg=>by have h1:=Lx1.out _ hg;have h2:=Ux1.out _ hg;omega));replace BT:=zH (YW BT.out cc9 (fun hg=>by have h1:=Lx1.out _ hg;have h2:=Ux1.out _ hg;omega));replace X0:=zH (YW X0.out cc9 (fun hg=>by have h1:=Lx1.out _ hg;have h2:=Ux1.out _ hg;omega));replace Owr0:=zH (Yv _ Owr0.out cc9 (fun g hg hx=>by have h1:=Lwr0.out g hg;have h2:=Uwr0.out g hg;have h3:=Lx1.out g hx;have h4:=Ux1.out g hx;omega));replace Ox0:=zH (AggO.chg Ox0.out cc9 (fun g hg hx=>by have h1:=Lx0.out g hg;have h2:=Ux0.out g hg;have h3:=Lx1.out g hx;have h4:=Ux1.out g hx;omega));replace Ox3:=zH (Yv _ Ox3.out cc9 (fun g hg hx=>by have h1:=Lx3.out g hg;have h2:=Ux3.out g hg;have h3:=Lx1.out g hx;have h4:=Ux1.out g hx;omega));replace Ogr0:=zH (Yv _ Ogr0.out cc9 (fun g hg hx=>by have h1:=Lgr0.out g hg;have h2:=Ugr0.out g hg;have h3:=Lx1.out g hx;have h4:=Ux1.out g hx;omega));have z15:=Chg.size cc9
    try simp at z15
    replace G:=zH (Chg.new G.out cc9 (fun g hg=>by have h1:=Lx1.out g hg;omega));clear cc9;have k_B0_0:=B0.out.cell 0;have k_B0_1:=B0.out.cell 1;have k_B0_2:=B0.out.cell 2;have k_BT_0:=BT.out.cell 0;have k_BT_1:=BT.out.cell 1;have k_X0_0:=X0.out.cell 0;have k_X0_1:=X0.out.cell 1;have k_X0_2:=X0.out.cell 2;simp at k_B0_0 k_B0_1 k_B0_2 k_BT_0 k_BT_1 k_X0_0 k_X0_1 k_X0_2;go_wp2_with fail;clear k_B0_0 k_B0_1 k_B0_2 k_BT_0 k_BT_1 k_X0_0 k_X0_1 k_X0_2;refine (VG es _ Fx3 ((cc.cnt 1)+ins.length) _ Ox3.out HZ3.out (by omega) (by omega)).mono ?_;rintro e y ⟨rfl,oo,cc9⟩;replace Ox3:=zH oo;clear oo;replace B0:=zH (YW B0.out cc9 (fun hg=>by have h1:=Lx3.out _ hg;have h2:=Ux3.out _ hg;omega));replace BT:=zH (YW BT.out cc9 (fun hg=>by have h1:=Lx3.out _ hg;have h2:=Ux3.out _ hg;omega));replace X0:=zH (YW X0.out cc9 (fun hg=>by have h1:=Lx3.out _ hg;have h2:=Ux3.out _ hg;omega));replace Owr0:=zH (Yv _ Owr0.out cc9 (fun g hg hx=>by have h1:=Lwr0.out g hg;have h2:=Uwr0.out g hg;have h3:=Lx3.out g hx;have h4:=Ux3.out g hx;omega));replace Ox0:=zH (AggO.chg Ox0.out cc9 (fun g hg hx=>by have h1:=Lx0.out g hg;have h2:=Ux0.out g hg;have h3:=Lx3.out g hx;have h4:=Ux3.out g hx;omega));replace Ox1:=zH (Yv _ Ox1.out cc9 (fun g hg hx=>by have h1:=Lx1.out g hg;have h2:=Ux1.out g hg;have h3:=Lx3.out g hx;have h4:=Ux3.out g hx;omega));replace Ogr0:=zH (Yv _ Ogr0.out cc9 (fun g hg hx=>by have h1:=Lgr0.out g hg;have h2:=Ugr0.out g hg;have h3:=Lx3.out g hx;have h4:=Ux3.out g hx;omega));have z16:=Chg.size cc9
    try simp at z16
    replace G:=zH (Chg.new G.out cc9 (fun g hg=>by have h1:=Lx3.out g hg;omega));clear cc9;clear Ox0 Lx0 Ux0;clear Ox1 Lx1 Ux1;clear Ox3 Lx3 Ux3;have kp:¬((cc.cnt 1)+ins.length)+es.length<0:=by omega
    have k_B0_0:=B0.out.cell 0;have k_B0_1:=B0.out.cell 1;have k_B0_2:=B0.out.cell 2;have k_BT_0:=BT.out.cell 0;have k_BT_1:=BT.out.cell 1;have k_X0_0:=X0.out.cell 0;have k_X0_1:=X0.out.cell 1;have k_X0_2:=X0.out.cell 2;simp at k_B0_0 k_B0_1 k_B0_2 k_BT_0 k_BT_1 k_X0_0 k_X0_1 k_X0_2;go_wp2_with fail;clear k_B0_0 k_B0_1 k_B0_2 k_BT_0 k_BT_1 k_X0_0 k_X0_1 k_X0_2;refine (VF r0 _ _ _ (CS.toRd _ Ogr0.out) (CS.toRd _ Owr0.out) HL0.out).mono ?_;rintro e y ⟨rfl,g⟩;replace B0:=zH (Blk.grow B0.out g);replace BT:=zH (Blk.grow BT.out g);replace X0:=zH (Blk.grow X0.out g);replace Owr0:=zH (Zi _ Owr0.out g);replace Ogr0:=zH (Zi _ Ogr0.out g);have z17:=World.grownBy.size g
    try simp at z17
    replace G:=zH (gbT G.out g);clear g;have k_B0_0:=B0.out.cell 0;have k_B0_1:=B0.out.cell 1;have k_B0_2:=B0.out.cell 2;have k_BT_0:=BT.out.cell 0;have k_BT_1:=BT.out.cell 1;have k_X0_0:=X0.out.cell 0;have k_X0_1:=X0.out.cell 1;have k_X0_2:=X0.out.cell 2;simp at k_B0_0 k_B0_1 k_B0_2 k_BT_0 k_BT_1 k_X0_0 k_X0_1 k_X0_2;go_wp2_with fail;clear k_B0_0 k_B0_1 k_B0_2 k_BT_0 k_BT_1 k_X0_0 k_X0_1 k_X0_2;refine (VG r0 _ Fgr0 1 _ Ogr0.out HL0.out (by omega) (by omega)).mono ?_;rintro e y ⟨rfl,oo,cc9⟩;replace Ogr0:=zH oo;clear oo;replace B0:=zH (YW B0.out cc9 (fun hg=>by have h1:=Lgr0.out _ hg;have h2:=Ugr0.out _ hg;omega));replace BT:=zH (YW BT.out cc9 (fun hg=>by have h1:=Lgr0.out _ hg;have h2:=Ugr0.out _ hg;omega));replace X0:=zH (YW X0.out cc9 (fun hg=>by have h1:=Lgr0.out _ hg;have h2:=Ugr0.out _ hg;omega));replace Owr0:=zH (Yv _ Owr0.out cc9 (fun g hg hx=>by have h1:=Lwr0.out g hg;have h2:=Uwr0.out g hg;have h3:=Lgr0.out g hx;have h4:=Ugr0.out g hx;omega));have z18:=Chg.size cc9
    try simp at z18
    replace G:=zH (Chg.new G.out cc9 (fun g hg=>by have h1:=Lgr0.out g hg;omega));clear cc9;have k_B0_0:=B0.out.cell 0;have k_B0_1:=B0.out.cell 1;have k_B0_2:=B0.out.cell 2;have k_BT_0:=BT.out.cell 0;have k_BT_1:=BT.out.cell 1;have k_X0_0:=X0.out.cell 0;have k_X0_1:=X0.out.cell 1;have k_X0_2:=X0.out.cell 2;simp at k_B0_0 k_B0_1 k_B0_2 k_BT_0 k_BT_1 k_X0_0 k_X0_1 k_X0_2;go_wp2_with fail;clear k_B0_0 k_B0_1 k_B0_2 k_BT_0 k_BT_1 k_X0_0 k_X0_1 k_X0_2;refine (heldIntS_k r0.length _ 1 _ (CS.toRd _ Ogr0.out) HL0.out (by omega) (by omega)).mono ?_;rintro e y ⟨rfl,g⟩;replace B0:=zH (Blk.grow B0.out g);replace BT:=zH (Blk.grow BT.out g);replace X0:=zH (Blk.grow X0.out g);replace Owr0:=zH (Zi _ Owr0.out g);replace Ogr0:=zH (Zi _ Ogr0.out g);have z19:=World.grownBy.size g
    try simp at z19
    replace G:=zH (gbT G.out g);clear g;have khr0:¬(1:Int)+r0.length<0:=by omega
    have k_B0_0:=B0.out.cell 0;have k_B0_1:=B0.out.cell 1;have k_B0_2:=B0.out.cell 2;have k_BT_0:=BT.out.cell 0;have k_BT_1:=BT.out.cell 1;have k_X0_0:=X0.out.cell 0;have k_X0_1:=X0.out.cell 1;have k_X0_2:=X0.out.cell 2;simp at k_B0_0 k_B0_1 k_B0_2 k_BT_0 k_BT_1 k_X0_0 k_X0_1 k_X0_2;go_wp2_with fail;clear k_B0_0 k_B0_1 k_B0_2 k_BT_0 k_BT_1 k_X0_0 k_X0_1 k_X0_2;clear khr0;have k_B0_0:=B0.out.cell 0;have k_B0_1:=B0.out.cell 1;have k_B0_2:=B0.out.cell 2;have k_BT_0:=BT.out.cell 0;have k_BT_1:=BT.out.cell 1;have k_X0_0:=X0.out.cell 0;have k_X0_1:=X0.out.cell 1;have k_X0_2:=X0.out.cell 2;simp at k_B0_0 k_B0_1 k_B0_2 k_BT_0 k_BT_1 k_X0_0 k_X0_1 k_X0_2;go_wp2_with fail;clear k_B0_0 k_B0_1 k_B0_2 k_BT_0 k_BT_1 k_X0_0 k_X0_1 k_X0_2;have kkB0_0:=zH (B0.out.cell 0);have kkB0_1:=zH (B0.out.cell 1);have kkB0_2:=zH (B0.out.cell 2);have kkBT_0:=zH (BT.out.cell 0);have kkBT_1:=zH (BT.out.cell 1);have kkX0_0:=zH (X0.out.cell 0);have kkX0_1:=zH (X0.out.cell 1);have kkX0_2:=zH (X0.out.cell 2);simp only [List.getElem?_toArray,List.getElem?_cons_succ,List.getElem?_cons_zero] at kkB0_0 kkB0_1 kkB0_2 kkBT_0 kkBT_1 kkX0_0 kkX0_1 kkX0_2
    refine Xz [onT 98 (isV (.agg #[.int .i64 cc.p,p0_1,p0_2])),
       onT 99 (aggF y.heap.size (carith cc)),
       onT 100 (isV (.slice pa1 ins.length pc1)),
       onT 101 (intF y.heap.size ins),
       onT 102 (isV (.agg #[.int .i64 ts,.int .i64 ta])),
       onT 103 (isV (.agg #[.int .i64 ts,.int .i64 ta])),
       onT 104 (isV (.slice pa3 es.length pc3)),
       onT 105 (intF y.heap.size es),
       onT 106 (intF y.heap.size r0),
       onT 18 (intF y.heap.size r0)] [] (by kernel_rfl) (by kernel_rfl) (by kernel_rfl) ?_ ?_ ?_
    · exact Zc (Zh (Zb _)) (Zc (Zh (YG)) (Zc (Zh (Zb _)) (Zc (Zh (Wy)) (Zc (Zh (Zb _)) (Zc (Zh (Zb _)) (Zc (Zh (Zb _)) (Zc (Zh (Wy)) (Zc (Zh (Wy)) (Zc (Zh (Wy)) ZX)))))))))
    · simp only [hops6,and_true]
      refine ⟨?_, ?_, ?_, ?_, ?_, ?_, ?_, ?_, ?_, ?_⟩
      · intro f w1 hG hpre hold hd
        have hg4:=gbT (gbD (gbR y none)) (gb0 hG);clear hG hpre hold;have k0:=gbk hg4 (kkB0_0.out);have k1:=gbk hg4 (kkB0_1.out);have k2:=gbk hg4 (kkB0_2.out)
        (try simp at hd)
        first | simp [hd] | simp
        try clear hd
        go_wp2_with fail;exact ⟨_,rfl,by simp [fAt,Zy,Zn,isV],Or.inl (gbR _ _)⟩
      · intro f w1 hG hpre hold hd
        have hg4:=gbT (gbD (gbR y none)) (gb0 hG);clear hG hpre hold
        (try simp at hd)
        first | (have hd2:=hd.1;clear hd;have hd:=hd2;clear hd2) | skip
        simp [puts,dsts,Act.put,hd];clear hd;go_wp2_with fail;refine (UH cc _ w1 (AggR.grow HA0.out (gbT G.out hg4)) HZ0.out).mono ?_;rintro e w6 ⟨uu,FF,rfl,oo,ll,hw⟩;have O6:=zH (show aggF y.heap.size (carith cc) uu w6 from ⟨FF,oo,fun x hx=>Nat.le_trans hg4.size (ll x hx)⟩);obtain ⟨_,_,_,_,_,_,rfl⟩:=YH oo;have G6:=zH hw;clear oo ll hw;go_wp2_with fail;exact ⟨_,rfl,O6.out,Or.inl G6.out⟩
      · intro f w1 hG hpre hold hd
        have hg4:=gbT (gbD (gbR y none)) (gb0 hG);clear hG hpre hold
        (try simp at hd)
        first | simp [hd] | simp
        try clear hd
        go_wp2_with fail;exact ⟨_,rfl,by simp [fAt,Zy,Zn,isV],Or.inl (gbR _ _)⟩
      · intro f w1 hG hpre hold hd
        have hg4:=gbT (gbD (gbR y none)) (gb0 hG);clear hG hpre hold
        (try simp at hd)
        first | (have hd2:=hd.1;clear hd;have hd:=hd2;clear hd2) | skip
        simp [puts,dsts,Act.put,hd];clear hd;go_wp2_with fail;refine (XL ins _ w1 (CS.grow _ HA1.out (gbT G.out hg4)) HZ1.out).mono ?_;rintro e w6 ⟨uu,FF,rfl,oo,ll,hw⟩;have O6:=zH (show intF y.heap.size ins uu w6 from intF.of oo (fun x hx=>Nat.le_trans hg4.size (ll x hx)));obtain ⟨_,_,_,rfl⟩:=ZV oo;have G6:=zH hw;clear oo ll hw;go_wp2_with fail;exact ⟨_,rfl,O6.out,Or.inl G6.out⟩
      · intro f w1 hG hpre hold hd
        have hg4:=gbT (gbD (gbR y none)) (gb0 hG);clear hG hpre hold;have k3:=gbk hg4 (kkBT_0.out);have k4:=gbk hg4 (kkBT_1.out)
        (try simp at hd)
        first | simp [hd] | simp
        try clear hd
        go_wp2_with fail;exact ⟨_,rfl,by simp [fAt,Zy,Zn,isV],Or.inl (gbR _ _)⟩
      · intro f w1 hG hpre hold hd
        have hg4:=gbT (gbD (gbR y none)) (gb0 hG);clear hG hpre hold
        (try simp at hd)
        first | (have hd2:=hd.1;clear hd;have hd:=hd2;clear hd2) | skip
        simp [puts,dsts,Act.put,hd];clear hd;go_wp2_with fail;refine (toTape_c ts ta w1).mono ?_;rintro e w6 ⟨rfl,g6⟩;have G6:=zH g6;clear g6;go_wp2_with fail;exact ⟨_,rfl,rfl,Or.inl G6.out⟩
      · intro f w1 hG hpre hold hd
        have hg4:=gbT (gbD (gbR y none)) (gb0 hG);clear hG hpre hold
        (try simp at hd)
        first | simp [hd] | simp
        try clear hd
        go_wp2_with fail;exact ⟨_,rfl,by simp [fAt,Zy,Zn,isV],Or.inl (gbR _ _)⟩
      · intro f w1 hG hpre hold hd
        have hg4:=gbT (gbD (gbR y none)) (gb0 hG);clear hG hpre hold
        (try simp at hd)
        first | (have hd2:=hd.1;clear hd;have hd:=hd2;clear hd2) | skip
        simp [puts,dsts,Act.put,hd];clear hd;go_wp2_with fail;refine (XL es _ w1 (CS.grow _ HA3.out (gbT G.out hg4)) HZ3.out).mono ?_;rintro e w6 ⟨uu,FF,rfl,oo,ll,hw⟩;have O6:=zH (show intF y.heap.size es uu w6 from intF.of oo (fun x hx=>Nat.le_trans hg4.size (ll x hx)));obtain ⟨_,_,_,rfl⟩:=ZV oo;have G6:=zH hw;clear oo ll hw;go_wp2_with fail;exact ⟨_,rfl,O6.out,Or.inl G6.out⟩
      · intro f w1 hG hpre hold hd
        have hg4:=gbT (gbD (gbR y none)) (gb0 hG);clear hG hpre hold
        (try simp at hd)
        obtain ⟨h1,h2,h3,h4⟩:=hd
        first | (have hd2:=h4.1;clear h4;have h4:=hd2;clear hd2) | skip
        obtain ⟨FK0,k0,_⟩:=h1;have R0:=zH k0.rd;have R1:=zH (intF.rd h2);have R3:=zH (intF.rd h4)
        first | simp [puts,dsts,Act.put,h3] | simp [puts,dsts,Act.put]
        go_wp2_with fail;refine (HI.out w1 _ _ _ R0.out R1.out R3.out).mono ?_;rintro e w6 ⟨V,F6,rfl,o6,l6,g6⟩;have O6:=zH (show intF y.heap.size r0 V w6 from intF.of o6 (fun x hx=>Nat.le_trans hg4.size (l6 x hx)));obtain ⟨A',n',c',rfl⟩:=ZV o6;have G6:=zH g6;clear o6 l6 g6;go_wp2_with fail;exact ⟨_,rfl,O6.out,Or.inl G6.out⟩
      · intro f w1 hG hpre hold hd
        have hg4:=gbT (gbD (gbR y none)) (gb0 hG);clear hG hpre hold
        (try simp at hd)
        first | (have hd2:=hd.1;clear hd;have hd:=hd2;clear hd2) | skip
        first | simp [puts,dsts,Act.put] | skip
        go_wp2_with fail;exact ⟨_,rfl,hd,Or.inl (gbR _ _)⟩
    intro f yn hG hK;have g:=gbT (gbD (gbR y none)) (gb0 hG);clear hG;simp only [puts,dsts,Act.put,zB,zC,zA,zD,zE];have hr0:intF _ r0 (f 18) yn:=Yh hK (i:=9) rfl;obtain ⟨Fhr0,hr1,hr2⟩:=intF.own hr0;obtain ⟨ahr0,nhr0,shr0,hr3⟩:=ZV hr1;rw [hr3] at hr1 ⊢
    try simp at hr2
    have Ohr0:=zH hr1;have Lhr0:=zH hr2;have Uhr0:=zH (CS.lt _ hr1);replace B0:=zH (Blk.grow B0.out g);replace BT:=zH (Blk.grow BT.out g);replace X0:=zH (Blk.grow X0.out g);replace Owr0:=zH (Zi _ Owr0.out g);replace Ogr0:=zH (Zi _ Ogr0.out g);have z20:=World.grownBy.size g
    try simp at z20
    replace G:=zH (gbT G.out g);obtain ⟨y,rfl⟩:∃q,q=yn:=⟨_,rfl⟩;clear g hK hr0 hr1 hr2 hr3 kkB0_0 kkB0_1 kkB0_2 kkBT_0 kkBT_1 kkX0_0 kkX0_1 kkX0_2;have k_B0_0:=B0.out.cell 0;have k_B0_1:=B0.out.cell 1;have k_B0_2:=B0.out.cell 2;have k_BT_0:=BT.out.cell 0;have k_BT_1:=BT.out.cell 1;have k_X0_0:=X0.out.cell 0;have k_X0_1:=X0.out.cell 1;have k_X0_2:=X0.out.cell 2;simp at k_B0_0 k_B0_1 k_B0_2 k_BT_0 k_BT_1 k_X0_0 k_X0_1 k_X0_2;go_wp2_with fail;clear k_B0_0 k_B0_1 k_B0_2 k_BT_0 k_BT_1 k_X0_0 k_X0_1 k_X0_2;refine (VF r0 _ _ _ (CS.toRd _ Ohr0.out) (CS.toRd _ Owr0.out) HL0.out).mono ?_;rintro e y ⟨rfl,g⟩;replace B0:=zH (Blk.grow B0.out g);replace BT:=zH (Blk.grow BT.out g);replace X0:=zH (Blk.grow X0.out g);replace Owr0:=zH (Zi _ Owr0.out g);replace Ogr0:=zH (Zi _ Ogr0.out g);replace Ohr0:=zH (Zi _ Ohr0.out g);have z21:=World.grownBy.size g
    try simp at z21
    replace G:=zH (gbT G.out g);clear g;have k_B0_0:=B0.out.cell 0;have k_B0_1:=B0.out.cell 1;have k_B0_2:=B0.out.cell 2;have k_BT_0:=BT.out.cell 0;have k_BT_1:=BT.out.cell 1;have k_X0_0:=X0.out.cell 0;have k_X0_1:=X0.out.cell 1;have k_X0_2:=X0.out.cell 2;simp at k_B0_0 k_B0_1 k_B0_2 k_BT_0 k_BT_1 k_X0_0 k_X0_1 k_X0_2;go_wp2_with fail;clear k_B0_0 k_B0_1 k_B0_2 k_BT_0 k_BT_1 k_X0_0 k_X0_1 k_X0_2;refine (heldIntS_k r0.length _ 1 _ (CS.toRd _ Ogr0.out) HL0.out (by omega) (by omega)).mono ?_;rintro e y ⟨rfl,g⟩;replace B0:=zH (Blk.grow B0.out g);replace BT:=zH (Blk.grow BT.out g);replace X0:=zH (Blk.grow X0.out g);replace Owr0:=zH (Zi _ Owr0.out g);replace Ogr0:=zH (Zi _ Ogr0.out g);replace Ohr0:=zH (Zi _ Ohr0.out g);have z22:=World.grownBy.size g
    try simp at z22
    replace G:=zH (gbT G.out g);clear g;have khr0:¬(1:Int)+r0.length<0:=by omega
    have k_B0_0:=B0.out.cell 0;have k_B0_1:=B0.out.cell 1;have k_B0_2:=B0.out.cell 2;have k_BT_0:=BT.out.cell 0;have k_BT_1:=BT.out.cell 1;have k_X0_0:=X0.out.cell 0;have k_X0_1:=X0.out.cell 1;have k_X0_2:=X0.out.cell 2;simp at k_B0_0 k_B0_1 k_B0_2 k_BT_0 k_BT_1 k_X0_0 k_X0_1 k_X0_2;go_wp2_with fail;clear k_B0_0 k_B0_1 k_B0_2 k_BT_0 k_BT_1 k_X0_0 k_X0_1 k_X0_2;clear khr0;go_ret;exact ⟨rfl,G.out⟩
set_option maxRecDepth 100000 in
set_option maxHeartbeats 1000000 in
theorem FnExactCountOutcomes.walk (w:World) (cc:AM) (v0:Value) (h0:AggR w (carith cc) v0) (wf0:cc.wf) (A1:Option Addr) (n1 c1:Nat) (ins:List Int) (hes1:IntsK .i64 w A1 n1 ins) (hm1:n1≤c1) (hc1:c1≤maxLen) (ts:Int) (wts:(Lit.int .i64 ts).wf=true) (ta:Int) (wta:(Lit.int .i64 ta).wf=true) (A3:Option Addr) (n3 c3:Nat) (es:List Int) (hes3:IntsK .i64 w A3 n3 es) (hm3:n3≤c3) (hc3:c3≤maxLen) :
    Calls Tryz.prog 6 #[v0,.slice A1 n1 c1,.agg #[.int .i64 ts,.int .i64 ta],.slice A3 n3 c3] w fun e w'=>e=.returned (.bool true)∧w.grownBy w' none:=by
  have hl1:=Ints.len hes1.ints;have hl3:=Ints.len hes3.ints;have hA:=Jp wta
  by_cases hb1:n1≤1048576
  rotate_left
  · skip
    obtain ⟨p0_1,p0_2,rfl,_,_⟩:=Zt h0;have hb1':(1048576:Int)<(n1:Int):=by omega
    clear hes1 hl1 hes3 hl3
    go_enter Tryz.func6,Tryz.ntmps6
    go_wp2_with fail;go_ret;exact ⟨rfl,gbA (gbA (gbR _ _) _) _⟩
  by_cases hb3:n3≤1048576
  rotate_left
  · skip
    obtain ⟨p0_1,p0_2,rfl,_,_⟩:=Zt h0;have hb1':¬(1048576:Int)<(n1:Int):=by omega
    have hb3':(1048576:Int)<(n3:Int):=by omega
    clear hes1 hl1 hes3 hl3
    go_enter Tryz.func6,Tryz.ntmps6
    go_wp2_with fail;go_ret;exact ⟨rfl,gbA (gbA (gbR _ _) _) _⟩
  by_cases hz0:cc.sz≤1048576
  rotate_left
  · skip
    have HZ0:=zH (Kv (Nat.lt_of_not_le hz0));have HA0:=zH h0;obtain ⟨p0_1,p0_2,rfl,_,_⟩:=Zt h0;have hb1':¬(1048576:Int)<(n1:Int):=by omega
    have hb3':¬(1048576:Int)<(n3:Int):=by omega
    clear hes1 hl1 hes3 hl3 h0
    go_enter Tryz.func6,Tryz.ntmps6
    obtain ⟨y,hyy⟩:∃q:World,((w).alloc (.cells #[.int .i64 cc.p,p0_1,p0_2] 27)).alloc (.cells #[.int .i64 ts,.int .i64 ta] 29)=q:=⟨_,rfl⟩;have G:Hid (w.grownBy y none):=by rw [← hyy];exact gbA (gbA (gbR _ _) _) _
    have B0:Hid (Blk y (w.heap.size) 27 #[.int .i64 cc.p,p0_1,p0_2]):=by rw [← hyy];exact (Blk.new w _ _).grow (gbA (gbR _ _) _)
    have k0:=B0.out.cell 0;have k1:=B0.out.cell 1;have k2:=B0.out.cell 2;simp at k0 k1 k2;go_wp2_with fail;clear k0 k1 k2 hyy;refine (szArith_k cc _ (1048576) _ (AggR.grow HA0.out G.out) (by omega)).mono ?_;rintro e y0 ⟨rfl,g⟩;rw [HZ0.out];have G2:=zH (gbT G.out g);clear g G;have G:=G2;clear G2;go_wp2_with fail;go_ret;exact ⟨rfl,G.out⟩
  have hcz0:cc.sz=cc.st.length+cc.outs.length:=rfl;have wk0:amwf cc:=⟨wf0,by omega,by omega⟩;have hn1:ins.length≤1048576:=by omega
  have hn3:es.length≤1048576:=by omega
  exact FnExactCountOutcomes.core cc ins es ts ta (cntR cc ins es ts ta) w v0 _ _ h0 (UA hes1.ints hm1 hc1) (UA hes3.ints hm3 hc3) hz0 hn1 hn3 (cntR_len _ _ _ _ _) (fun w u0 u1 u3 q0 q1 q3=>Us cc ins es ts ta wk0 hn1 hn3 w u0 u1 u3 q0 q1 q3) (fun w u0 u1 u3 q0 q1 q3=>Uu cc ins es ts ta wk0 hn1 hn3 w u0 u1 u3 q0 q1 q3)
end Go.Proofs.YthaadgdeadbhkaaGreat
