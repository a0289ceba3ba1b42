/-
  FnExactEngineRun's core (printed by wip/gen_exrun.py).
-/
import Derived.Test.YthaadgdeadbhkaaGreatMgFnExactEngineRun44
open Go.RowKit
set_option linter.unusedVariables false
set_option linter.unusedSimpArgs false
namespace Go.Proofs.YthaadgdeadbhkaaGreat
attribute [local simp] depsF bindE List.filter_cons Zz Zq Zr Zs ZA ZW fAt Zw isV puts dsts Act.put
set_option maxRecDepth 100000 in
set_option maxHeartbeats 2000000 in
theorem FnExactEngineRun.core (kk:KM) (cc:AM) (ins:List Int) (es:List Int) (ts ta:Int) (r0:List Int) (r1:Bool) (w:World) (v0 v1 v2 v4:Value) (ha0:AggR w (ckeys kk) v0) (ha1:AggR w (carith cc) v1) (ha2:(cints ins).rd w v2) (ha4:(cints es).rd w v4) (hz0:kk.sz≤1048576) (hz1:cc.sz≤1048576 - kk.sz) (hz2:ins.length≤1048576) (hz4:es.length≤1048576) (hs0:r0.length≤1048576)
    (hs:∀(w:World) (v0 v1 v2 v4:Value),AggR w (ckeys kk) v0→AggR w (carith cc) v1→(cints ins).rd w v2→(cints es).rd w v4→Calls Tryz.prog 9 #[v0,v1,v2,.agg #[.int .i64 ts,.int .i64 ta],v4] w fun e w'=>∃V F,e=.returned (.tuple #[V,.bool r1])∧(cints r0).own w' F V∧(∀g∈F,w.heap.size≤g)∧w.grownBy w' none)
    (hi:∀(w:World) (v0 v1 v2 v4:Value),AggR w (ckeys kk) v0→AggR w (carith cc) v1→(cints ins).rd w v2→(cints es).rd w v4→Calls Tryz.prog 14 #[v0,v1,v2,.agg #[.int .i64 ts,.int .i64 ta],v4] w fun e w'=>∃V F,e=.returned (.tuple #[V,.bool r1])∧(cints r0).own w' F V∧(∀g∈F,w.heap.size≤g)∧w.grownBy w' none) :
    Calls Tryz.prog 3 #[v0,v1,v2,.agg #[.int .i64 ts,.int .i64 ta],v4] w fun e w'=>e=.returned (.bool true)∧w.grownBy w' none:=by
  have HS:=zH hs;have HI:=zH hi;obtain ⟨p0_1,rfl,_⟩:=YI (m:=kk) ha0;obtain ⟨p1_1,p1_2,rfl,_,_⟩:=Zy (m:=cc) ha1;obtain ⟨pa2,pc2,rfl,_,_,_⟩:=ZE ha2;have hb2:¬(1048576:Int)<(ins.length:Int):=by omega
  obtain ⟨pa4,pc4,rfl,_,_,_⟩:=ZE ha4;have hb4:¬(1048576:Int)<(es.length:Int):=by omega
  have kc0:1≤kk.cnt 1∧kk.cnt 1≤4194304:=by
    have h1:kk.cnt 1=1+kk.al.length:=rfl;have h3:kk.sz=kk.al.length:=rfl;omega
  have kc1:1≤cc.cnt (kk.cnt 1)∧cc.cnt (kk.cnt 1)≤8388608:=by
    have h2:cc.cnt (kk.cnt 1)=kk.cnt 1+3*cc.st.length+cc.outs.length:=rfl;have h4:cc.sz=cc.st.length+cc.outs.length:=rfl;omega
  have HA0:=zH ha0;have HZ0:=zH hz0;have HA1:=zH ha1;have HZ1:=zH hz1;have HA2:=zH ha2;have HZ2:=zH hz2;have HA4:=zH ha4;have HZ4:=zH hz4;have HL0:=zH hs0;clear hs hi ha0 ha1 ha2 ha4 hz0 hz1 hz2 hz4 hs0;obtain ⟨y,hyy⟩:∃q:World,(((w).alloc (.cells #[.int .i64 kk.p,p0_1] 24)).alloc (.cells #[.int .i64 cc.p,p1_1,p1_2] 27)).alloc (.cells #[.int .i64 ts,.int .i64 ta] 29)=q:=⟨_,rfl⟩;have G:Hid (w.grownBy y none):=by rw [← hyy];exact gbA (gbA (gbA (gbR _ _) _) _) _
  have z00:w.heap.size+3≤y.heap.size:=by rw [← hyy];simp
  have B0:Hid (Blk y (w.heap.size) 24 #[.int .i64 kk.p,p0_1]):=by rw [← hyy];exact ((Blk.new w _ _).grow (gbA (gbR _ _) _)).grow (gbA (gbR _ _) _)
  have B1:Hid (Blk y (w.heap.size+1) 27 #[.int .i64 cc.p,p1_1,p1_2]):=by rw [← hyy];exact (Blk.new' _ _ _ _ (by simp)).grow (gbA (gbR _ _) _)
  have BT:Hid (Blk y (w.heap.size+1+1) 29 #[.int .i64 ts,.int .i64 ta]):=by rw [← hyy];exact Blk.new' _ _ _ _ (by simp)
  go_enter Tryz.func3,Tryz.ntmps3
  have k_B0_0:=B0.out.cell 0;have k_B0_1:=B0.out.cell 1;have k_B1_0:=B1.out.cell 0;have k_B1_1:=B1.out.cell 1;have k_B1_2:=B1.out.cell 2;have k_BT_0:=BT.out.cell 0;have k_BT_1:=BT.out.cell 1;simp at k_B0_0 k_B0_1 k_B1_0 k_B1_1 k_B1_2 k_BT_0 k_BT_1;go_wp2_with fail;clear k_B0_0 k_B0_1 k_B1_0 k_B1_1 k_B1_2 k_BT_0 k_BT_1;clear hyy;refine (szKeys_k kk _ (1048576) _ (AggR.grow HA0.out G.out) (by omega)).mono ?_;rintro e y ⟨rfl,g⟩;rw [Ww HZ0.out];replace B0:=zH (Blk.grow B0.out g);replace B1:=zH (Blk.grow B1.out g);replace BT:=zH (Blk.grow BT.out g);have z1:=World.grownBy.size g
  try simp at z1
  replace G:=zH (gbT G.out g);clear g;have k_B0_0:=B0.out.cell 0;have k_B0_1:=B0.out.cell 1;have k_B1_0:=B1.out.cell 0;have k_B1_1:=B1.out.cell 1;have k_B1_2:=B1.out.cell 2;have k_BT_0:=BT.out.cell 0;have k_BT_1:=BT.out.cell 1;simp at k_B0_0 k_B0_1 k_B1_0 k_B1_1 k_B1_2 k_BT_0 k_BT_1;go_wp2_with fail;clear k_B0_0 k_B0_1 k_B1_0 k_B1_1 k_B1_2 k_BT_0 k_BT_1;refine (szArith_k cc _ (1048576 - kk.sz) _ (AggR.grow HA1.out G.out) (by omega)).mono ?_;rintro e y ⟨rfl,g⟩;rw [Ww HZ1.out];replace B0:=zH (Blk.grow B0.out g);replace B1:=zH (Blk.grow B1.out g);replace BT:=zH (Blk.grow BT.out g);have z2:=World.grownBy.size g
  try simp at z2
  replace G:=zH (gbT G.out g);clear g;have k_B0_0:=B0.out.cell 0;have k_B0_1:=B0.out.cell 1;have k_B1_0:=B1.out.cell 0;have k_B1_1:=B1.out.cell 1;have k_B1_2:=B1.out.cell 2;have k_BT_0:=BT.out.cell 0;have k_BT_1:=BT.out.cell 1;simp at k_B0_0 k_B0_1 k_B1_0 k_B1_1 k_B1_2 k_BT_0 k_BT_1;go_wp2_with fail;clear k_B0_0 k_B0_1 k_B1_0 k_B1_1 k_B1_2 k_BT_0 k_BT_1;have kkB0_0:=zH (B0.out.cell 0);have kkB0_1:=zH (B0.out.cell 1);have kkB1_0:=zH (B1.out.cell 0);have kkB1_1:=zH (B1.out.cell 1);have kkB1_2:=zH (B1.out.cell 2);have kkBT_0:=zH (BT.out.cell 0);have kkBT_1:=zH (BT.out.cell 1);simp only [List.getElem?_toArray,List.getElem?_cons_succ,List.getElem?_cons_zero] at kkB0_0 kkB0_1 kkB1_0 kkB1_1 kkB1_2 kkBT_0 kkBT_1
  refine Xy [onT 42 (isV (.agg #[.int .i64 kk.p,p0_1])),
     onT 43 (aggF y.heap.size (ckeys kk)),
     onT 44 (isV (.agg #[.int .i64 cc.p,p1_1,p1_2])),
     onT 45 (aggF y.heap.size (carith cc)),
     onT 46 (isV (.slice pa2 ins.length pc2)),
     onT 47 (intF y.heap.size ins),
     onT 48 (isV (.agg #[.int .i64 ts,.int .i64 ta])),
     onT 49 (isV (.agg #[.int .i64 ts,.int .i64 ta])),
     onT 50 (isV (.slice pa4 es.length pc4)),
     onT 51 (intF y.heap.size es),
     onT 52 (resTB y.heap.size r0 r1),
     onT 41 (resTB y.heap.size r0 r1),
     onT 53 (intF y.heap.size r0),
     onT 54 (isV (.bool r1)),
     onT 12 (intF y.heap.size r0),
     onT 13 (isV (.bool r1))] [] (by kernel_rfl) (by kernel_rfl) (by kernel_rfl) ?_ ?_ ?_
  · exact Zc (Zh (Zb _)) (Zc (Zh (Yq)) (Zc (Zh (Zb _)) (Zc (Zh (Yq)) (Zc (Zh (Zb _)) (Zc (Zh (Wq)) (Zc (Zh (Zb _)) (Zc (Zh (Zb _)) (Zc (Zh (Zb _)) (Zc (Zh (Wq)) (Zc (Zh (VP)) (Zc (Zh (VP)) (Zc (Zh (Wq)) (Zc (Zh (Zb _)) (Zc (Zh (Wq)) (Zc (Zh (Zb _)) ZR)))))))))))))))
  · simp only [hops6,and_true]
    refine ⟨?_, ?_, ?_, ?_, ?_, ?_, ?_, ?_, ?_, ?_, ?_, ?_, ?_, ?_, ?_, ?_⟩
    · intro f w1 hG hpre hold hd
      have hg4:=gbT (gbD (gbR y none)) (gb0 hG);clear hG hpre hold;have k0:=gbk hg4 (kkB0_0.out);have k1:=gbk hg4 (kkB0_1.out)
      (try simp at hd)
      first | simp [hd] | simp
      try clear hd
      go_wp2_with fail;exact ⟨_,rfl,by simp [fAt,Zw,Zn,isV],Or.inl (gbR _ _)⟩
    · intro f w1 hG hpre hold hd
      have hg4:=gbT (gbD (gbR y none)) (gb0 hG);clear hG hpre hold
      (try simp at hd)
      first | (have hd2:=hd.1;clear hd;have hd:=hd2;clear hd2) | skip
      simp [puts,dsts,Act.put,hd];clear hd;go_wp2_with fail;refine (QL kk _ w1 (AggR.grow HA0.out (gbT G.out hg4)) HZ0.out).mono ?_;rintro e w6 ⟨uu,FF,rfl,oo,ll,hw⟩;have O6:=zH (show aggF y.heap.size (ckeys kk) uu w6 from ⟨FF,oo,fun x hx=>Nat.le_trans hg4.size (ll x hx)⟩);obtain ⟨_,_,_,rfl⟩:=Xu oo;have G6:=zH hw;clear oo ll hw;go_wp2_with fail;exact ⟨_,rfl,O6.out,Or.inl G6.out⟩
    · intro f w1 hG hpre hold hd
      have hg4:=gbT (gbD (gbR y none)) (gb0 hG);clear hG hpre hold;have k2:=gbk hg4 (kkB1_0.out);have k3:=gbk hg4 (kkB1_1.out);have k4:=gbk hg4 (kkB1_2.out)
      (try simp at hd)
      first | simp [hd] | simp
      try clear hd
      go_wp2_with fail;exact ⟨_,rfl,by simp [fAt,Zw,Zn,isV],Or.inl (gbR _ _)⟩
    · intro f w1 hG hpre hold hd
      have hg4:=gbT (gbD (gbR y none)) (gb0 hG);clear hG hpre hold
      (try simp at hd)
      first | (have hd2:=hd.1;clear hd;have hd:=hd2;clear hd2) | skip
      simp [puts,dsts,Act.put,hd];clear hd;go_wp2_with fail;refine (Uz cc _ w1 (AggR.grow HA1.out (gbT G.out hg4)) (by have:=HZ1.out;omega)).mono ?_;rintro e w6 ⟨uu,FF,rfl,oo,ll,hw⟩;have O6:=zH (show aggF y.heap.size (carith cc) uu w6 from ⟨FF,oo,fun x hx=>Nat.le_trans hg4.size (ll x hx)⟩);obtain ⟨_,_,_,_,_,_,rfl⟩:=YE oo;have G6:=zH hw;clear oo ll hw;go_wp2_with fail;exact ⟨_,rfl,O6.out,Or.inl G6.out⟩
    · intro f w1 hG hpre hold hd
      have hg4:=gbT (gbD (gbR y none)) (gb0 hG);clear hG hpre hold
      (try simp at hd)
      first | simp [hd] | simp
      try clear hd
      go_wp2_with fail;exact ⟨_,rfl,by simp [fAt,Zw,Zn,isV],Or.inl (gbR _ _)⟩
    · intro f w1 hG hpre hold hd
      have hg4:=gbT (gbD (gbR y none)) (gb0 hG);clear hG hpre hold
      (try simp at hd)
      first | (have hd2:=hd.1;clear hd;have hd:=hd2;clear hd2) | skip
      simp [puts,dsts,Act.put,hd];clear hd;go_wp2_with fail;refine (XA ins _ w1 (CS.grow _ HA2.out (gbT G.out hg4)) HZ2.out).mono ?_;rintro e w6 ⟨uu,FF,rfl,oo,ll,hw⟩;have O6:=zH (show intF y.heap.size ins uu w6 from intF.of oo (fun x hx=>Nat.le_trans hg4.size (ll x hx)));obtain ⟨_,_,_,rfl⟩:=ZO oo;have G6:=zH hw;clear oo ll hw;go_wp2_with fail;exact ⟨_,rfl,O6.out,Or.inl G6.out⟩
    · intro f w1 hG hpre hold hd
      have hg4:=gbT (gbD (gbR y none)) (gb0 hG);clear hG hpre hold;have k5:=gbk hg4 (kkBT_0.out);have k6:=gbk hg4 (kkBT_1.out)
      (try simp at hd)
      first | simp [hd] | simp
      try clear hd
      go_wp2_with fail;exact ⟨_,rfl,by simp [fAt,Zw,Zn,isV],Or.inl (gbR _ _)⟩
    · intro f w1 hG hpre hold hd
      have hg4:=gbT (gbD (gbR y none)) (gb0 hG);clear hG hpre hold
      (try simp at hd)
      first | (have hd2:=hd.1;clear hd;have hd:=hd2;clear hd2) | skip
      simp [puts,dsts,Act.put,hd];clear hd;go_wp2_with fail;refine (toTape_c ts ta w1).mono ?_;rintro e w6 ⟨rfl,g6⟩;have G6:=zH g6;clear g6;go_wp2_with fail;exact ⟨_,rfl,rfl,Or.inl G6.out⟩
    · intro f w1 hG hpre hold hd
      have hg4:=gbT (gbD (gbR y none)) (gb0 hG);clear hG hpre hold
      (try simp at hd)
      first | simp [hd] | simp
      try clear hd
      go_wp2_with fail;exact ⟨_,rfl,by simp [fAt,Zw,Zn,isV],Or.inl (gbR _ _)⟩
    · intro f w1 hG hpre hold hd
      have hg4:=gbT (gbD (gbR y none)) (gb0 hG);clear hG hpre hold
      (try simp at hd)
      first | (have hd2:=hd.1;clear hd;have hd:=hd2;clear hd2) | skip
      simp [puts,dsts,Act.put,hd];clear hd;go_wp2_with fail;refine (XA es _ w1 (CS.grow _ HA4.out (gbT G.out hg4)) HZ4.out).mono ?_;rintro e w6 ⟨uu,FF,rfl,oo,ll,hw⟩;have O6:=zH (show intF y.heap.size es uu w6 from intF.of oo (fun x hx=>Nat.le_trans hg4.size (ll x hx)));obtain ⟨_,_,_,rfl⟩:=ZO oo;have G6:=zH hw;clear oo ll hw;go_wp2_with fail;exact ⟨_,rfl,O6.out,Or.inl G6.out⟩
    · intro f w1 hG hpre hold hd
      have hg4:=gbT (gbD (gbR y none)) (gb0 hG);clear hG hpre hold
      (try simp at hd)
      obtain ⟨h1,h2,h3,h4,h5⟩:=hd
      first | (have hd2:=h5.1;clear h5;have h5:=hd2;clear hd2) | skip
      obtain ⟨FK0,k0,_⟩:=h1;have R0:=zH k0.rd;obtain ⟨FK1,k1,_⟩:=h2;have R1:=zH k1.rd;have R2:=zH (intF.rd h3);have R4:=zH (intF.rd h5)
      first | simp [puts,dsts,Act.put,h4] | simp [puts,dsts,Act.put]
      go_wp2_with fail;refine (HS.out w1 _ _ _ _ R0.out R1.out R2.out R4.out).mono ?_;rintro e w6 ⟨V,F6,rfl,o6,l6,g6⟩;obtain ⟨A',n',c',rfl⟩:=ZO o6;have O6:=zH (show resTB y.heap.size r0 r1 _ w6 from ⟨A',n',c',rfl,intF.of o6 (fun x hx=>Nat.le_trans hg4.size (l6 x hx))⟩);have G6:=zH g6;clear o6 l6 g6;go_wp2_with fail;exact ⟨_,rfl,O6.out,Or.inl G6.out⟩
    · intro f w1 hG hpre hold hd
      have hg4:=gbT (gbD (gbR y none)) (gb0 hG);clear hG hpre hold
      (try simp at hd)
      obtain ⟨A',n',c',e9,o6⟩:=hd;simp [puts,dsts,Act.put,e9];go_wp2_with fail;exact ⟨_,rfl,⟨A',n',c',rfl,o6⟩,Or.inl (gbR _ _)⟩
    · intro f w1 hG hpre hold hd
      have hg4:=gbT (gbD (gbR y none)) (gb0 hG);clear hG hpre hold
      (try simp at hd)
      first | (have hd2:=hd.1;clear hd;have hd:=hd2;clear hd2) | skip
      obtain ⟨A',n',c',e9,o6⟩:=hd;simp [puts,dsts,Act.put,e9];go_wp2_with fail;exact ⟨_,rfl,o6,Or.inl (gbR _ _)⟩
    · intro f w1 hG hpre hold hd
      have hg4:=gbT (gbD (gbR y none)) (gb0 hG);clear hG hpre hold
      (try simp at hd)
      first | (have hd2:=hd.1;clear hd;have hd:=hd2;clear hd2) | skip
      obtain ⟨A',n',c',e9,o6⟩:=hd;simp [puts,dsts,Act.put,e9];go_wp2_with fail;exact ⟨_,rfl,rfl,Or.inl (gbR _ _)⟩
    · intro f w1 hG hpre hold hd
      have hg4:=gbT (gbD (gbR y none)) (gb0 hG);clear hG hpre hold
      (try simp at hd)
      have e9:=hd.1;clear hd
      first | simp [puts,dsts,Act.put] | skip
      go_wp2_with fail;exact ⟨_,rfl,e9,Or.inl (gbR _ _)⟩
    · intro f w1 hG hpre hold hd
      have hg4:=gbT (gbD (gbR y none)) (gb0 hG);clear hG hpre hold
      (try simp at hd)
      have e9:=hd.1;clear hd;simp [puts,dsts,Act.put,e9];go_wp2_with fail;exact ⟨_,rfl,rfl,Or.inl (gbR _ _)⟩
  intro f yn hG hK;have g:=gbT (gbD (gbR y none)) (gb0 hG);clear hG;simp only [puts,dsts,Act.put,zB,zC,zA,zD,zE];have hr0:intF _ r0 (f 12) yn:=ZQ hK (i:=14) rfl;obtain ⟨Fwr0,hr1,hr2⟩:=intF.own hr0;obtain ⟨awr0,nwr0,swr0,hr3⟩:=ZO hr1;rw [hr3] at hr1 ⊢;have hr4:f 13=.bool r1:=ZQ hK (i:=15) rfl;rw [hr4]
  try simp at hr2
  have Owr0:=zH hr1;have Lwr0:=zH hr2;have Uwr0:=zH (CS.lt _ hr1);replace B0:=zH (Blk.grow B0.out g);replace B1:=zH (Blk.grow B1.out g);replace BT:=zH (Blk.grow BT.out g);have z3:=World.grownBy.size g
  try simp at z3
  replace G:=zH (gbT G.out g);obtain ⟨y,rfl⟩:∃q,q=yn:=⟨_,rfl⟩;clear g hK hr0 hr1 hr2 hr3 hr4 kkB0_0 kkB0_1 kkB1_0 kkB1_1 kkB1_2 kkBT_0 kkBT_1;have k_B0_0:=B0.out.cell 0;have k_B0_1:=B0.out.cell 1;have k_B1_0:=B1.out.cell 0;have k_B1_1:=B1.out.cell 1;have k_B1_2:=B1.out.cell 2;have k_BT_0:=BT.out.cell 0;have k_BT_1:=BT.out.cell 1;simp at k_B0_0 k_B0_1 k_B1_0 k_B1_1 k_B1_2 k_BT_0 k_BT_1;go_wp2_with fail;clear k_B0_0 k_B0_1 k_B1_0 k_B1_1 k_B1_2 k_BT_0 k_BT_1;refine (QL kk _ _ (AggR.grow HA0.out G.out) HZ0.out).mono ?_;rintro e y ⟨uu,Fx0,rfl,oo,ll,g⟩;obtain ⟨ax0_1,nx0_1,sx0_1,rfl⟩:=Xu oo
  try simp at ll
  have Ox0:=zH oo;have Lx0:=zH ll;have Ux0:=zH (AggO.lt oo);replace B0:=zH (Blk.grow B0.out g);replace B1:=zH (Blk.grow B1.out g);replace BT:=zH (Blk.grow BT.out g);replace Owr0:=zH (Zi _ Owr0.out g);have z4:=World.grownBy.size g
  try simp at z4
  replace G:=zH (gbT G.out g);clear g oo ll;have X:=zH (Blk.new y 34 #[.int .i64 kk.p,.slice ax0_1 nx0_1 sx0_1]);have ga:y.grownBy (y.alloc (.cells #[.int .i64 kk.p,.slice ax0_1 nx0_1 sx0_1] 34)) none:=gbA (gbR y none) _;replace B0:=zH (Blk.grow B0.out ga);replace B1:=zH (Blk.grow B1.out ga);replace BT:=zH (Blk.grow BT.out ga);replace Owr0:=zH (Zi _ Owr0.out ga);replace Ox0:=zH (AggO.grow Ox0.out ga);have z5:=World.grownBy.size ga
  try simp at z5
  replace G:=zH (gbT G.out ga);clear ga;have X0:=X;clear X;have k_B0_0:=B0.out.cell 0;have k_B0_1:=B0.out.cell 1;have k_B1_0:=B1.out.cell 0;have k_B1_1:=B1.out.cell 1;have k_B1_2:=B1.out.cell 2;have k_BT_0:=BT.out.cell 0;have k_BT_1:=BT.out.cell 1;have k_X0_0:=X0.out.cell 0;have k_X0_1:=X0.out.cell 1;simp at k_B0_0 k_B0_1 k_B1_0 k_B1_1 k_B1_2 k_BT_0 k_BT_1 k_X0_0 k_X0_1;go_wp2_with fail;clear k_B0_0 k_B0_1 k_B1_0 k_B1_1 k_B1_2 k_BT_0 k_BT_1 k_X0_0 k_X0_1;refine (Uz cc _ _ (AggR.grow HA1.out G.out) (by have:=HZ1.out;omega)).mono ?_;rintro e y ⟨uu,Fx1,rfl,oo,ll,g⟩;obtain ⟨ax1_1,nx1_1,sx1_1,ax1_2,nx1_2,sx1_2,rfl⟩:=YE oo
  try simp at ll
  have Ox1:=zH oo;have Lx1:=zH ll;have Ux1:=zH (AggO.lt oo);replace B0:=zH (Blk.grow B0.out g);replace B1:=zH (Blk.grow B1.out g);replace BT:=zH (Blk.grow BT.out g);replace X0:=zH (Blk.grow X0.out g);replace Owr0:=zH (Zi _ Owr0.out g);replace Ox0:=zH (AggO.grow Ox0.out g);have z6:=World.grownBy.size g
  try simp at z6
  replace G:=zH (gbT G.out g);clear g oo ll;have X:=zH (Blk.new y 38 #[.int .i64 cc.p,.slice ax1_1 nx1_1 sx1_1,.slice ax1_2 nx1_2 sx1_2]);have ga:y.grownBy (y.alloc (.cells #[.int .i64 cc.p,.slice ax1_1 nx1_1 sx1_1,.slice ax1_2 nx1_2 sx1_2] 38)) none:=gbA (gbR y none) _;replace B0:=zH (Blk.grow B0.out ga);replace B1:=zH (Blk.grow B1.out ga);replace BT:=zH (Blk.grow BT.out ga);replace X0:=zH (Blk.grow X0.out ga);replace Owr0:=zH (Zi _ Owr0.out ga);replace Ox0:=zH (AggO.grow Ox0.out ga);replace Ox1:=zH (AggO.grow Ox1.out ga);have z7:=World.grownBy.size ga
  try simp at z7
  replace G:=zH (gbT G.out ga);clear ga;have X1:=X;clear X;go_wp2_with fail;refine (XA ins _ _ (CS.grow _ HA2.out G.out) HZ2.out).mono ?_;rintro e y ⟨uu,Fx2,rfl,oo,ll,g⟩;obtain ⟨ax2,nx2,sx2,rfl⟩:=ZO oo
  try simp at ll
  have Ox2:=zH oo;have Lx2:=zH ll;have Ux2:=zH (CS.lt _ oo);replace B0:=zH (Blk.grow B0.out g);replace B1:=zH (Blk.grow B1.out g);replace BT:=zH (Blk.grow BT.out g);replace X0:=zH (Blk.grow X0.out g);replace X1:=zH (Blk.grow X1.out g);replace Owr0:=zH (Zi _ Owr0.out g);replace Ox0:=zH (AggO.grow Ox0.out g);replace Ox1:=zH (AggO.grow Ox1.out g);have z8:=World.grownBy.size g
  try simp at z8
  replace G:=zH (gbT G.out g);clear g oo ll;have k_B0_0:=B0.out.cell 0;have k_B0_1:=B0.out.cell 1;have k_B1_0:=B1.out.cell 0;have k_B1_1:=B1.out.cell 1;have k_B1_2:=B1.out.cell 2;have k_BT_0:=BT.out.cell 0;have k_BT_1:=BT.out.cell 1;have k_X0_0:=X0.out.cell 0;have k_X0_1:=X0.out.cell 1;have k_X1_0:=X1.out.cell 0;have k_X1_1:=X1.out.cell 1;have k_X1_2:=X1.out.cell 2;simp at k_B0_0 k_B0_1 k_B1_0 k_B1_1 k_B1_2 k_BT_0 k_BT_1 k_X0_0 k_X0_1 k_X1_0 k_X1_1 k_X1_2;go_wp2_with fail;clear k_B0_0 k_B0_1 k_B1_0 k_B1_1 k_B1_2 k_BT_0 k_BT_1 k_X0_0 k_X0_1 k_X1_0 k_X1_1 k_X1_2;refine (XA es _ _ (CS.grow _ HA4.out G.out) HZ4.out).mono ?_;rintro e y ⟨uu,Fx4,rfl,oo,ll,g⟩;obtain ⟨ax4,nx4,sx4,rfl⟩:=ZO oo
  try simp at ll
  have Ox4:=zH oo;have Lx4:=zH ll;have Ux4:=zH (CS.lt _ oo);replace B0:=zH (Blk.grow B0.out g);replace B1:=zH (Blk.grow B1.out g);replace BT:=zH (Blk.grow BT.out g);replace X0:=zH (Blk.grow X0.out g);replace X1:=zH (Blk.grow X1.out g);replace Owr0:=zH (Zi _ Owr0.out g);replace Ox0:=zH (AggO.grow Ox0.out g);replace Ox1:=zH (AggO.grow Ox1.out g);replace Ox2:=zH (Zi _ Ox2.out g);have z9:=World.grownBy.size g
  try simp at z9
  replace G:=zH (gbT G.out g);clear g oo ll;have k_B0_0:=B0.out.cell 0;have k_B0_1:=B0.out.cell 1;have k_B1_0:=B1.out.cell 0;have k_B1_1:=B1.out.cell 1;have k_B1_2:=B1.out.cell 2;have k_BT_0:=BT.out.cell 0;have k_BT_1:=BT.out.cell 1;have k_X0_0:=X0.out.cell 0;have k_X0_1:=X0.out.cell 1;have k_X1_0:=X1.out.cell 0;have k_X1_1:=X1.out.cell 1;have k_X1_2:=X1.out.cell 2;simp at k_B0_0 k_B0_1 k_B1_0 k_B1_1 k_B1_2 k_BT_0 k_BT_1 k_X0_0 k_X0_1 k_X1_0 k_X1_1 k_X1_2;go_wp2_with fail;clear k_B0_0 k_B0_1 k_B1_0 k_B1_1 k_B1_2 k_BT_0 k_BT_1 k_X0_0 k_X0_1 k_X1_0 k_X1_1 k_X1_2;have kkBT_0:=zH (BT.out.cell 0);have kkBT_1:=zH (BT.out.cell 1);have kkX0_0:=zH (X0.out.cell 0);have kkX0_1:=zH (X0.out.cell 1);have kkX1_0:=zH (X1.out.cell 0);have kkX1_1:=zH (X1.out.cell 1);have kkX1_2:=zH (X1.out.cell 2);simp only [List.getElem?_toArray,List.getElem?_cons_succ,List.getElem?_cons_zero] at kkBT_0 kkBT_1 kkX0_0 kkX0_1 kkX1_0 kkX1_1 kkX1_2
  refine Xy [onT 64 (isV (.agg #[.int .i64 kk.p,.slice ax0_1 nx0_1 sx0_1])),
     onT 65 (isV (.agg #[.int .i64 cc.p,.slice ax1_1 nx1_1 sx1_1,.slice ax1_2 nx1_2 sx1_2])),
     onT 66 (isV (.slice ax2 nx2 sx2)),
     onT 67 (isV (.agg #[.int .i64 ts,.int .i64 ta])),
     onT 68 (isV (.agg #[.int .i64 ts,.int .i64 ta])),
     onT 69 (isV (.slice ax4 nx4 sx4)),
     onT 70 (resTB y.heap.size r0 r1),
     onT 63 (resTB y.heap.size r0 r1),
     onT 71 (intF y.heap.size r0),
     onT 72 (isV (.bool r1)),
     onT 18 (intF y.heap.size r0),
     onT 19 (isV (.bool r1))] [] (by kernel_rfl) (by kernel_rfl) (by kernel_rfl) ?_ ?_ ?_
  · exact Zc (Zh (Zb _)) (Zc (Zh (Zb _)) (Zc (Zh (Zb _)) (Zc (Zh (Zb _)) (Zc (Zh (Zb _)) (Zc (Zh (Zb _)) (Zc (Zh (VP)) (Zc (Zh (VP)) (Zc (Zh (Wq)) (Zc (Zh (Zb _)) (Zc (Zh (Wq)) (Zc (Zh (Zb _)) ZR)))))))))))
  · simp only [hops6,and_true]
    refine ⟨?_, ?_, ?_, ?_, ?_, ?_, ?_, ?_, ?_, ?_, ?_, ?_⟩
    · intro f w1 hG hpre hold hd
      have hg4:=gbT (gbD (gbR y none)) (gb0 hG);clear hG hpre hold;have k2:=gbk hg4 (kkX0_0.out);have k3:=gbk hg4 (kkX0_1.out)
      (try simp at hd)
      first | simp [hd] | simp
      try clear hd
      go_wp2_with fail;exact ⟨_,rfl,by simp [fAt,Zw,Zn,isV],Or.inl (gbR _ _)⟩
    · intro f w1 hG hpre hold hd
      have hg4:=gbT (gbD (gbR y none)) (gb0 hG);clear hG hpre hold;have k4:=gbk hg4 (kkX1_0.out);have k5:=gbk hg4 (kkX1_1.out);have k6:=gbk hg4 (kkX1_2.out)
      (try simp at hd)
      first | simp [hd] | simp
      try clear hd
      go_wp2_with fail;exact ⟨_,rfl,by simp [fAt,Zw,Zn,isV],Or.inl (gbR _ _)⟩
    · intro f w1 hG hpre hold hd
      have hg4:=gbT (gbD (gbR y none)) (gb0 hG);clear hG hpre hold
      (try simp at hd)
      first | simp [hd] | simp
      try clear hd
      go_wp2_with fail;exact ⟨_,rfl,by simp [fAt,Zw,Zn,isV],Or.inl (gbR _ _)⟩
    · intro f w1 hG hpre hold hd
      have hg4:=gbT (gbD (gbR y none)) (gb0 hG);clear hG hpre hold;have k0:=gbk hg4 (kkBT_0.out);have k1:=gbk hg4 (kkBT_1.out)
      (try simp at hd)
      first | simp [hd] | simp
      try clear hd
      go_wp2_with fail;exact ⟨_,rfl,by simp [fAt,Zw,Zn,isV],Or.inl (gbR _ _)⟩
    · intro f w1 hG hpre hold hd
      have hg4:=gbT (gbD (gbR y none)) (gb0 hG);clear hG hpre hold
      (try simp at hd)
      first | (have hd2:=hd.1;clear hd;have hd:=hd2;clear hd2) | skip
      simp [puts,dsts,Act.put,hd];clear hd;go_wp2_with fail;refine (toTape_c ts ta w1).mono ?_;rintro e w6 ⟨rfl,g6⟩;have G6:=zH g6;clear g6;go_wp2_with fail;exact ⟨_,rfl,rfl,Or.inl G6.out⟩
    · intro f w1 hG hpre hold hd
      have hg4:=gbT (gbD (gbR y none)) (gb0 hG);clear hG hpre hold
      (try simp at hd)
      first | simp [hd] | simp
      try clear hd
      go_wp2_with fail;exact ⟨_,rfl,by simp [fAt,Zw,Zn,isV],Or.inl (gbR _ _)⟩
    · intro f w1 hG hpre hold hd
      have hg4:=gbT (gbD (gbR y none)) (gb0 hG);clear hG hpre hold
      (try simp at hd)
      obtain ⟨h1,h2,h3,h4,h5⟩:=hd
      first | (have hd2:=h5.1;clear h5;have h5:=hd2;clear hd2) | skip
      first | simp [puts,dsts,Act.put,h1,h2,h3,h4,h5] | simp [puts,dsts,Act.put]
      go_wp2_with fail;refine (HI.out w1 _ _ _ _ (Ox0.out.grow hg4).rd (Ox1.out.grow hg4).rd (CS.toRd _ (Zi _ Ox2.out hg4)) (CS.toRd _ (Zi _ Ox4.out hg4))).mono ?_;rintro e w6 ⟨V,F6,rfl,o6,l6,g6⟩;obtain ⟨A',n',c',rfl⟩:=ZO o6;have O6:=zH (show resTB y.heap.size r0 r1 _ w6 from ⟨A',n',c',rfl,intF.of o6 (fun x hx=>Nat.le_trans hg4.size (l6 x hx))⟩);have G6:=zH g6;clear o6 l6 g6;go_wp2_with fail;exact ⟨_,rfl,O6.out,Or.inl G6.out⟩
    · intro f w1 hG hpre hold hd
      have hg4:=gbT (gbD (gbR y none)) (gb0 hG);clear hG hpre hold
      (try simp at hd)
      obtain ⟨A',n',c',e9,o6⟩:=hd;simp [puts,dsts,Act.put,e9];go_wp2_with fail;exact ⟨_,rfl,⟨A',n',c',rfl,o6⟩,Or.inl (gbR _ _)⟩
    · intro f w1 hG hpre hold hd
      have hg4:=gbT (gbD (gbR y none)) (gb0 hG);clear hG hpre hold
      (try simp at hd)
      first | (have hd2:=hd.1;clear hd;have hd:=hd2;clear hd2) | skip
      obtain ⟨A',n',c',e9,o6⟩:=hd;simp [puts,dsts,Act.put,e9];go_wp2_with fail;exact ⟨_,rfl,o6,Or.inl (gbR _ _)⟩
    · intro f w1 hG hpre hold hd
      have hg4:=gbT (gbD (gbR y none)) (gb0 hG);clear hG hpre hold
      (try simp at hd)
      first | (have hd2:=hd.1;clear hd;have hd:=hd2;clear hd2) | skip
      obtain ⟨A',n',c',e9,o6⟩:=hd;simp [puts,dsts,Act.put,e9];go_wp2_with fail;exact ⟨_,rfl,rfl,Or.inl (gbR _ _)⟩
    · intro f w1 hG hpre hold hd
      have hg4:=gbT (gbD (gbR y none)) (gb0 hG);clear hG hpre hold
      (try simp at hd)
      have e9:=hd.1;clear hd
      first | simp [puts,dsts,Act.put] | skip
      go_wp2_with fail;exact ⟨_,rfl,e9,Or.inl (gbR _ _)⟩
    · intro f w1 hG hpre hold hd
      have hg4:=gbT (gbD (gbR y none)) (gb0 hG);clear hG hpre hold
      (try simp at hd)
      have e9:=hd.1;clear hd;simp [puts,dsts,Act.put,e9];go_wp2_with fail;exact ⟨_,rfl,rfl,Or.inl (gbR _ _)⟩
  intro f yn hG hK;have g:=gbT (gbD (gbR y none)) (gb0 hG);clear hG;simp only [puts,dsts,Act.put,zB,zC,zA,zD,zE];have hr0:intF _ r0 (f 18) yn:=ZQ hK (i:=10) rfl;obtain ⟨Fgr0,hr1,hr2⟩:=intF.own hr0;obtain ⟨agr0,ngr0,sgr0,hr3⟩:=ZO hr1;rw [hr3] at hr1 ⊢;have hr4:f 19=.bool r1:=ZQ hK (i:=11) rfl;rw [hr4]
  try simp at hr2
  have Ogr0:=zH hr1;have Lgr0:=zH hr2;have Ugr0:=zH (CS.lt _ hr1);replace B0:=zH (Blk.grow B0.out g);replace B1:=zH (Blk.grow B1.out g);replace BT:=zH (Blk.grow BT.out g);replace X0:=zH (Blk.grow X0.out g);replace X1:=zH (Blk.grow X1.out g);replace Owr0:=zH (Zi _ Owr0.out g);replace Ox0:=zH (AggO.grow Ox0.out g);replace Ox1:=zH (AggO.grow Ox1.out g);replace Ox2:=zH (Zi _ Ox2.out g);replace Ox4:=zH (Zi _ Ox4.out g);have z10:=World.grownBy.size g
  try simp at z10
  replace G:=zH (gbT G.out g);obtain ⟨y,rfl⟩:∃q,q=yn:=⟨_,rfl⟩;clear g hK hr0 hr1 hr2 hr3 hr4 kkBT_0 kkBT_1 kkX0_0 kkX0_1 kkX1_0 kkX1_1 kkX1_2;have k_B0_0:=B0.out.cell 0;have k_B0_1:=B0.out.cell 1;have k_B1_0:=B1.out.cell 0;have k_B1_1:=B1.out.cell 1;have k_B1_2:=B1.out.cell 2;have k_BT_0:=BT.out.cell 0;have k_BT_1:=BT.out.cell 1;have k_X0_0:=X0.out.cell 0;have k_X0_1:=X0.out.cell 1;have k_X1_0:=X1.out.cell 0;have k_X1_1:=X1.out.cell 1;have k_X1_2:=X1.out.cell 2;simp at k_B0_0 k_B0_1 k_B1_0 k_B1_1 k_B1_2 k_BT_0 k_BT_1 k_X0_0 k_X0_1 k_X1_0 k_X1_1 k_X1_2;go_wp2_with fail;clear k_B0_0 k_B0_1 k_B1_0 k_B1_1 k_B1_2 k_BT_0 k_BT_1 k_X0_0 k_X0_1 k_X1_0 k_X1_1 k_X1_2;refine (Vd r0 _ _ _ (CS.toRd _ Ogr0.out) (CS.toRd _ Owr0.out) HL0.out).mono ?_;rintro e y ⟨rfl,g⟩;replace B0:=zH (Blk.grow B0.out g);replace B1:=zH (Blk.grow B1.out g);replace BT:=zH (Blk.grow BT.out g);replace X0:=zH (Blk.grow X0.out g);replace X1:=zH (Blk.grow X1.out g);replace Owr0:=zH (Zi _ Owr0.out g);replace Ox0:=zH (AggO.grow Ox0.out g);replace Ox1:=zH (AggO.grow Ox1.out g);replace Ox2:=zH (Zi _ Ox2.out g);replace Ox4:=zH (Zi _ Ox4.out g);replace Ogr0:=zH (Zi _ Ogr0.out g);have z11:=World.grownBy.size g
  try simp at z11
  replace G:=zH (gbT G.out g);clear g;have k_B0_0:=B0.out.cell 0;have k_B0_1:=B0.out.cell 1;have k_B1_0:=B1.out.cell 0;have k_B1_1:=B1.out.cell 1;have k_B1_2:=B1.out.cell 2;have k_BT_0:=BT.out.cell 0;have k_BT_1:=BT.out.cell 1;have k_X0_0:=X0.out.cell 0;have k_X0_1:=X0.out.cell 1;have k_X1_0:=X1.out.cell 0;have k_X1_1:=X1.out.cell 1;have k_X1_2:=X1.out.cell 2;simp at k_B0_0 k_B0_1 k_B1_0 k_B1_1 k_B1_2 k_BT_0 k_BT_1 k_X0_0 k_X0_1 k_X1_0 k_X1_1 k_X1_2;go_wp2_with fail;clear k_B0_0 k_B0_1 k_B1_0 k_B1_1 k_B1_2 k_BT_0 k_BT_1 k_X0_0 k_X0_1 k_X1_0 k_X1_1 k_X1_2;refine Zo [isV (.agg #[.int .i64 kk.p,.slice ax0_1 nx0_1 sx0_1]),isV (.agg #[.int .i64 kk.p,p0_1]),fun v w=>AggR w (ckeys kk) v,isV (.bool true),isV (.bool false)] (by kernel_rfl) (by kernel_rfl) (by kernel_rfl) (by simp only [ZJ,List.mem_cons,List.not_mem_nil,or_false,forall_eq_or_imp,forall_eq];exact ⟨Zb _,Zb _,fun _ _ _ h hg=>AggR.grow h hg,Zb _,Zb _⟩) ?_ ?_
  · simp only [hops,and_true]
    refine ⟨?_, ?_, ?_, ?_, ?_⟩
    all_goals
      intro f w1 hG hd;have k_X0_0:=(X0.out.grow (gdT' hG)).cell 0;have k_X0_1:=(X0.out.grow (gdT' hG)).cell 1;have k_B0_0:=(B0.out.grow (gdT' hG)).cell 0;have k_B0_1:=(B0.out.grow (gdT' hG)).cell 1;simp at k_X0_0 k_X0_1 k_B0_0 k_B0_1;have GG:=zH (gbT G.out (gdT' hG));have OO:=zH (AggR.grow (Ox0.out.grow (gdT' hG)).rd (gbR _ _));simp [deps,tAt,isV] at hd
      first | simp [hd] | simp
      go_wp2_with (first | (go_at_call 10;refine (QL kk _ _ (AggR.grow HA0.out GG.out) HZ0.out).mono ?_;rintro e w2 ⟨uu,FF,rfl,oo,ll,hw⟩) | (go_at_call 16;refine (eqKeys_k kk _ _ _ OO.out hd.2 HZ0.out).mono ?_;rintro e w2 ⟨rfl,hw⟩))
    all_goals exact ⟨_,rfl,by first | with_reducible exact gbR _ _ | exact hw,by first | (simp [tAt,isV];done) | exact oo.rd⟩
  · intro f y hG hd
    have g:=gdT' hG;simp [knows,tAt,isV] at hd;obtain ⟨h1,h2,h3,h4,h5⟩:=hd;replace B0:=zH (Blk.grow B0.out g);replace B1:=zH (Blk.grow B1.out g);replace BT:=zH (Blk.grow BT.out g);replace X0:=zH (Blk.grow X0.out g);replace X1:=zH (Blk.grow X1.out g);replace Owr0:=zH (Zi _ Owr0.out g);replace Ox0:=zH (AggO.grow Ox0.out g);replace Ox1:=zH (AggO.grow Ox1.out g);replace Ox2:=zH (Zi _ Ox2.out g);replace Ox4:=zH (Zi _ Ox4.out g);replace Ogr0:=zH (Zi _ Ogr0.out g);have z12:=World.grownBy.size g
    try simp at z12
    replace G:=zH (gbT G.out g);clear g hG;simp only [puts,dsts,Act.put,h1,h2,h4,h5,zB,zC,zA,zD,zE];clear h1 h2 h3 h4 h5;have k_B0_0:=B0.out.cell 0;have k_B0_1:=B0.out.cell 1;have k_B1_0:=B1.out.cell 0;have k_B1_1:=B1.out.cell 1;have k_B1_2:=B1.out.cell 2;have k_BT_0:=BT.out.cell 0;have k_BT_1:=BT.out.cell 1;have k_X0_0:=X0.out.cell 0;have k_X0_1:=X0.out.cell 1;have k_X1_0:=X1.out.cell 0;have k_X1_1:=X1.out.cell 1;have k_X1_2:=X1.out.cell 2;simp at k_B0_0 k_B0_1 k_B1_0 k_B1_1 k_B1_2 k_BT_0 k_BT_1 k_X0_0 k_X0_1 k_X1_0 k_X1_1 k_X1_2;go_wp2_with fail;clear k_B0_0 k_B0_1 k_B1_0 k_B1_1 k_B1_2 k_BT_0 k_BT_1 k_X0_0 k_X0_1 k_X1_0 k_X1_1 k_X1_2;refine Zo [isV (.agg #[.int .i64 cc.p,.slice ax1_1 nx1_1 sx1_1,.slice ax1_2 nx1_2 sx1_2]),isV (.agg #[.int .i64 cc.p,p1_1,p1_2]),fun v w=>AggR w (carith cc) v,isV (.bool true),isV (.bool false)] (by kernel_rfl) (by kernel_rfl) (by kernel_rfl) (by simp only [ZJ,List.mem_cons,List.not_mem_nil,or_false,forall_eq_or_imp,forall_eq];exact ⟨Zb _,Zb _,fun _ _ _ h hg=>AggR.grow h hg,Zb _,Zb _⟩) ?_ ?_
    · simp only [hops,and_true]
      refine ⟨?_, ?_, ?_, ?_, ?_⟩
      all_goals
        intro f w1 hG hd;have k_X1_0:=(X1.out.grow (gdT' hG)).cell 0;have k_X1_1:=(X1.out.grow (gdT' hG)).cell 1;have k_X1_2:=(X1.out.grow (gdT' hG)).cell 2;have k_B1_0:=(B1.out.grow (gdT' hG)).cell 0;have k_B1_1:=(B1.out.grow (gdT' hG)).cell 1;have k_B1_2:=(B1.out.grow (gdT' hG)).cell 2;simp at k_X1_0 k_X1_1 k_X1_2 k_B1_0 k_B1_1 k_B1_2;have GG:=zH (gbT G.out (gdT' hG));have OO:=zH (AggR.grow (Ox1.out.grow (gdT' hG)).rd (gbR _ _));simp [deps,tAt,isV] at hd
        first | simp [hd] | simp
        go_wp2_with (first | (go_at_call 11;refine (Uz cc _ _ (AggR.grow HA1.out GG.out) (by have:=HZ1.out;omega)).mono ?_;rintro e w2 ⟨uu,FF,rfl,oo,ll,hw⟩) | (go_at_call 17;refine (eqArith_k cc _ _ _ OO.out hd.2 (by have:=HZ1.out;omega)).mono ?_;rintro e w2 ⟨rfl,hw⟩))
      all_goals exact ⟨_,rfl,by first | with_reducible exact gbR _ _ | exact hw,by first | (simp [tAt,isV];done) | exact oo.rd⟩
    · intro f y hG hd
      have g:=gdT' hG;simp [knows,tAt,isV] at hd;obtain ⟨h1,h2,h3,h4,h5⟩:=hd;replace B0:=zH (Blk.grow B0.out g);replace B1:=zH (Blk.grow B1.out g);replace BT:=zH (Blk.grow BT.out g);replace X0:=zH (Blk.grow X0.out g);replace X1:=zH (Blk.grow X1.out g);replace Owr0:=zH (Zi _ Owr0.out g);replace Ox0:=zH (AggO.grow Ox0.out g);replace Ox1:=zH (AggO.grow Ox1.out g);replace Ox2:=zH (Zi _ Ox2.out g);replace Ox4:=zH (Zi _ Ox4.out g);replace Ogr0:=zH (Zi _ Ogr0.out g);have z13:=World.grownBy.size g
      try simp at z13
      replace G:=zH (gbT G.out g);clear g hG;simp only [puts,dsts,Act.put,h1,h2,h4,h5,zB,zC,zA,zD,zE];clear h1 h2 h3 h4 h5;have k_B0_0:=B0.out.cell 0;have k_B0_1:=B0.out.cell 1;have k_B1_0:=B1.out.cell 0;have k_B1_1:=B1.out.cell 1;have k_B1_2:=B1.out.cell 2;have k_BT_0:=BT.out.cell 0;have k_BT_1:=BT.out.cell 1;have k_X0_0:=X0.out.cell 0;have k_X0_1:=X0.out.cell 1;have k_X1_0:=X1.out.cell 0;have k_X1_1:=X1.out.cell 1;have k_X1_2:=X1.out.cell 2;simp at k_B0_0 k_B0_1 k_B1_0 k_B1_1 k_B1_2 k_BT_0 k_BT_1 k_X0_0 k_X0_1 k_X1_0 k_X1_1 k_X1_2;go_wp2_with fail;clear k_B0_0 k_B0_1 k_B1_0 k_B1_1 k_B1_2 k_BT_0 k_BT_1 k_X0_0 k_X0_1 k_X1_0 k_X1_1 k_X1_2;refine (XA ins _ _ (CS.grow _ HA2.out G.out) HZ2.out).mono ?_;rintro e y ⟨uu,Fy2,rfl,oo,ll,g⟩;obtain ⟨ay2,ny2,sy2,rfl⟩:=ZO oo
      try simp at ll
      have Oy2:=zH oo;have Ly2:=zH ll;have Uy2:=zH (CS.lt _ oo);replace B0:=zH (Blk.grow B0.out g);replace B1:=zH (Blk.grow B1.out g);replace BT:=zH (Blk.grow BT.out g);replace X0:=zH (Blk.grow X0.out g);replace X1:=zH (Blk.grow X1.out g);replace Owr0:=zH (Zi _ Owr0.out g);replace Ox0:=zH (AggO.grow Ox0.out g);replace Ox1:=zH (AggO.grow Ox1.out g);replace Ox2:=zH (Zi _ Ox2.out g);replace Ox4:=zH (Zi _ Ox4.out g);replace Ogr0:=zH (Zi _ Ogr0.out g);have z14:=World.grownBy.size g
      try simp at z14
      replace G:=zH (gbT G.out g);clear g oo ll;have k_B0_0:=B0.out.cell 0;have k_B0_1:=B0.out.cell 1;have k_B1_0:=B1.out.cell 0;have k_B1_1:=B1.out.cell 1;have k_B1_2:=B1.out.cell 2;have k_BT_0:=BT.out.cell 0;have k_BT_1:=BT.out.cell 1;have k_X0_0:=X0.out.cell 0;have k_X0_1:=X0.out.cell 1;have k_X1_0:=X1.out.cell 0;have k_X1_1:=X1.out.cell 1;have k_X1_2:=X1.out.cell 2;simp at k_B0_0 k_B0_1 k_B1_0 k_B1_1 k_B1_2 k_BT_0 k_BT_1 k_X0_0 k_X0_1 k_X1_0 k_X1_1 k_X1_2;go_wp2_with fail;clear k_B0_0 k_B0_1 k_B1_0 k_B1_1 k_B1_2 k_BT_0 k_BT_1 k_X0_0 k_X0_1 k_X1_0 k_X1_1 k_X1_2;refine (Vd ins _ _ _ (CS.toRd _ Ox2.out) (CS.toRd _ Oy2.out) HZ2.out).mono ?_;rintro e y ⟨rfl,g⟩;replace B0:=zH (Blk.grow B0.out g);replace B1:=zH (Blk.grow B1.out g);replace BT:=zH (Blk.grow BT.out g);replace X0:=zH (Blk.grow X0.out g);replace X1:=zH (Blk.grow X1.out g);replace Owr0:=zH (Zi _ Owr0.out g);replace Ox0:=zH (AggO.grow Ox0.out g);replace Ox1:=zH (AggO.grow Ox1.out g);replace Ox2:=zH (Zi _ Ox2.out g);replace Ox4:=zH (Zi _ Ox4.out g);replace Ogr0:=zH (Zi _ Ogr0.out g);replace Oy2:=zH (Zi _ Oy2.out g);have z15:=World.grownBy.size g
      try simp at z15
      replace G:=zH (gbT G.out g);clear g;clear Oy2 Ly2 Uy2;have k_B0_0:=B0.out.cell 0;have k_B0_1:=B0.out.cell 1;have k_B1_0:=B1.out.cell 0;have k_B1_1:=B1.out.cell 1;have k_B1_2:=B1.out.cell 2;have k_BT_0:=BT.out.cell 0;have k_BT_1:=BT.out.cell 1;have k_X0_0:=X0.out.cell 0;have k_X0_1:=X0.out.cell 1;have k_X1_0:=X1.out.cell 0;have k_X1_1:=X1.out.cell 1;have k_X1_2:=X1.out.cell 2;simp at k_B0_0 k_B0_1 k_B1_0 k_B1_1 k_B1_2 k_BT_0 k_BT_1 k_X0_0 k_X0_1 k_X1_0 k_X1_1 k_X1_2;go_wp2_with fail;clear k_B0_0 k_B0_1 k_B1_0 k_B1_1 k_B1_2 k_BT_0 k_BT_1 k_X0_0 k_X0_1 k_X1_0 k_X1_1 k_X1_2;refine (XA es _ _ (CS.grow _ HA4.out G.out) HZ4.out).mono ?_;rintro e y ⟨uu,Fy4,rfl,oo,ll,g⟩;obtain ⟨ay4,ny4,sy4,rfl⟩:=ZO oo
      try simp at ll
      have Oy4:=zH oo;have Ly4:=zH ll;have Uy4:=zH (CS.lt _ oo);replace B0:=zH (Blk.grow B0.out g);replace B1:=zH (Blk.grow B1.out g);replace BT:=zH (Blk.grow BT.out g);replace X0:=zH (Blk.grow X0.out g);replace X1:=zH (Blk.grow X1.out g);replace Owr0:=zH (Zi _ Owr0.out g);replace Ox0:=zH (AggO.grow Ox0.out g);replace Ox1:=zH (AggO.grow Ox1.out g);replace Ox2:=zH (Zi _ Ox2.out g);replace Ox4:=zH (Zi _ Ox4.out g);replace Ogr0:=zH (Zi _ Ogr0.out g);have z16:=World.grownBy.size g
      try simp at z16
      replace G:=zH (gbT G.out g);clear g oo ll;have k_B0_0:=B0.out.cell 0;have k_B0_1:=B0.out.cell 1;have k_B1_0:=B1.out.cell 0;have k_B1_1:=B1.out.cell 1;have k_B1_2:=B1.out.cell 2;have k_BT_0:=BT.out.cell 0;have k_BT_1:=BT.out.cell 1;have k_X0_0:=X0.out.cell 0;have k_X0_1:=X0.out.cell 1;have k_X1_0:=X1.out.cell 0;have k_X1_1:=X1.out.cell 1;have k_X1_2:=X1.out.cell 2;simp at k_B0_0 k_B0_1 k_B1_0 k_B1_1 k_B1_2 k_BT_0 k_BT_1 k_X0_0 k_X0_1 k_X1_0 k_X1_1 k_X1_2;go_wp2_with fail;clear k_B0_0 k_B0_1 k_B1_0 k_B1_1 k_B1_2 k_BT_0 k_BT_1 k_X0_0 k_X0_1 k_X1_0 k_X1_1 k_X1_2;refine (Vd es _ _ _ (CS.toRd _ Ox4.out) (CS.toRd _ Oy4.out) HZ4.out).mono ?_;rintro e y ⟨rfl,g⟩;replace B0:=zH (Blk.grow B0.out g);replace B1:=zH (Blk.grow B1.out g);replace BT:=zH (Blk.grow BT.out g);replace X0:=zH (Blk.grow X0.out g);replace X1:=zH (Blk.grow X1.out g);replace Owr0:=zH (Zi _ Owr0.out g);replace Ox0:=zH (AggO.grow Ox0.out g);replace Ox1:=zH (AggO.grow Ox1.out g);replace Ox2:=zH (Zi _ Ox2.out g);replace Ox4:=zH (Zi _ Ox4.out g);replace Ogr0:=zH (Zi _ Ogr0.out g);replace Oy4:=zH (Zi _ Oy4.out g);have z17:=World.grownBy.size g
      try simp at z17
      replace G:=zH (gbT G.out g);clear g;clear Oy4 Ly4 Uy4;have k_B0_0:=B0.out.cell 0;have k_B0_1:=B0.out.cell 1;have k_B1_0:=B1.out.cell 0;have k_B1_1:=B1.out.cell 1;have k_B1_2:=B1.out.cell 2;have k_BT_0:=BT.out.cell 0;have k_BT_1:=BT.out.cell 1;have k_X0_0:=X0.out.cell 0;have k_X0_1:=X0.out.cell 1;have k_X1_0:=X1.out.cell 0;have k_X1_1:=X1.out.cell 1;have k_X1_2:=X1.out.cell 2;simp at k_B0_0 k_B0_1 k_B1_0 k_B1_1 k_B1_2 k_BT_0 k_BT_1 k_X0_0 k_X0_1 k_X1_0 k_X1_1 k_X1_2;go_wp2_with fail;clear k_B0_0 k_B0_1 k_B1_0 k_B1_1 k_B1_2 k_BT_0 k_BT_1 k_X0_0 k_X0_1 k_X1_0 k_X1_1 k_X1_2;refine (markKeys_k kk _ Fx0 (1) _ Ox0.out HZ0.out (by omega) (by omega)).mono ?_;rintro e y ⟨rfl,oo,cc9⟩;replace Ox0:=zH oo;clear oo;replace B0:=zH (Yc B0.out cc9 (fun hg=>by have h1:=Lx0.out _ hg;have h2:=Ux0.out _ hg;omega));replace B1:=zH (Yc B1.out cc9 (fun hg=>by have h1:=Lx0.out _ hg;have h2:=Ux0.out _ hg;omega));replace BT:=zH (Yc BT.out cc9 (fun hg=>by have h1:=Lx0.out _ hg;have h2:=Ux0.out _ hg;omega));replace X0:=zH (Yc X0.out cc9 (fun hg=>by have h1:=Lx0.out _ hg;have h2:=Ux0.out _ hg;omega));replace X1:=zH (Yc X1.out cc9 (fun hg=>by have h1:=Lx0.out _ hg;have h2:=Ux0.out _ hg;omega));replace Owr0:=zH (Yd _ Owr0.out cc9 (fun g hg hx=>by have h1:=Lwr0.out g hg;have h2:=Uwr0.out g hg;have h3:=Lx0.out g hx;have h4:=Ux0.out g hx;omega));replace Ox1:=zH (AggO.chg Ox1.out cc9 (fun g hg hx=>by have h1:=Lx1.out g hg;have h2:=Ux1.out g hg;have h3:=Lx0.out g hx;have h4:=Ux0.out g hx;omega));replace Ox2:=zH (Yd _ Ox2.out cc9 (fun g hg hx=>by have h1:=Lx2.out g hg;have h2:=Ux2.out g hg;have h3:=Lx0.out g hx;have h4:=Ux0.out g hx;omega));replace Ox4:=zH (Yd _ Ox4.out cc9 (fun g hg hx=>by have h1:=Lx4.out g hg;have h2:=Ux4.out g hg;have h3:=Lx0.out g hx;have h4:=Ux0.out g hx;omega));replace Ogr0:=zH (Yd _ Ogr0.out cc9 (fun g hg hx=>by have h1:=Lgr0.out g hg;have h2:=Ugr0.out g hg;have h3:=Lx0.out g hx;have h4:=Ux0.out g hx;omega));have z18:=Chg.size cc9
      try simp at z18
      replace G:=zH (Chg.new G.out cc9 (fun g hg=>by have h1:=Lx0.out g hg;omega));clear cc9;have k_B0_0:=B0.out.cell 0;have k_B0_1:=B0.out.cell 1;have k_B1_0:=B1.out.cell 0;have k_B1_1:=B1.out.cell 1;have k_B1_2:=B1.out.cell 2;have k_BT_0:=BT.out.cell 0;have k_BT_1:=BT.out.cell 1;have k_X0_0:=X0.out.cell 0;have k_X0_1:=X0.out.cell 1;have k_X1_0:=X1.out.cell 0;have k_X1_1:=X1.out.cell 1;have k_X1_2:=X1.out.cell 2;simp at k_B0_0 k_B0_1 k_B1_0 k_B1_1 k_B1_2 k_BT_0 k_BT_1 k_X0_0 k_X0_1 k_X1_0 k_X1_1 k_X1_2;go_wp2_with fail;clear k_B0_0 k_B0_1 k_B1_0 k_B1_1 k_B1_2 k_BT_0 k_BT_1 k_X0_0 k_X0_1 k_X1_0 k_X1_1 k_X1_2;refine (markArith_k cc _ Fx1 (kk.cnt 1) _ Ox1.out (by have:=HZ1.out;omega) (by omega) (by omega)).mono ?_;rintro e y ⟨rfl,oo,cc9⟩;replace Ox1:=zH oo;clear oo;replace B0:=zH (Yc B0.out cc9 (fun hg=>by have h1:=Lx1.out _ hg;have h2:=Ux1.out _ hg;omega));replace B1:=zH (Yc B1.out cc9 (fun hg=>by have h1:=Lx1.out _ hg;have h2:=Ux1.out _ hg;omega));replace BT:=zH (Yc BT.out cc9 (fun hg=>by have h1:=Lx1.out _ hg;have h2:=Ux1.out _ hg;omega));replace X0:=zH (Yc X0.out cc9 (fun hg=>by have h1:=Lx1.out _ hg;have h2:=Ux1.out _ hg;omega));replace X1:=zH (Yc X1.out cc9 (fun hg=>by have h1:=Lx1.out _ hg;have h2:=Ux1.out _ hg;omega));replace Owr0:=zH (Yd _ Owr0.out cc9 (fun g hg hx=>by have h1:=Lwr0.out g hg;have h2:=Uwr0.out g hg;have h3:=Lx1.out g hx;have h4:=Ux1.out g hx;omega));replace Ox0:=zH (AggO.chg Ox0.out cc9 (fun g hg hx=>by have h1:=Lx0.out g hg;have h2:=Ux0.out g hg;have h3:=Lx1.out g hx;have h4:=Ux1.out g hx;omega));replace Ox2:=zH (Yd _ Ox2.out cc9 (fun g hg hx=>by have h1:=Lx2.out g hg;have h2:=Ux2.out g hg;have h3:=Lx1.out g hx;have h4:=Ux1.out g hx;omega));replace Ox4:=zH (Yd _ Ox4.out cc9 (fun g hg hx=>by have h1:=Lx4.out g hg;have h2:=Ux4.out g hg;have h3:=Lx1.out g hx;have h4:=Ux1.out g hx;omega));replace Ogr0:=zH (Yd _ Ogr0.out cc9 (fun g hg hx=>by have h1:=Lgr0.out g hg;have h2:=Ugr0.out g hg;have h3:=Lx1.out g hx;have h4:=Ux1.out g hx;omega));have z19:=Chg.size cc9
      try simp at z19
      replace G:=zH (Chg.new G.out cc9 (fun g hg=>by have h1:=Lx1.out g hg;omega));clear cc9;have k_B0_0:=B0.out.cell 0;have k_B0_1:=B0.out.cell 1;have k_B1_0:=B1.out.cell 0;have k_B1_1:=B1.out.cell 1;have k_B1_2:=B1.out.cell 2;have k_BT_0:=BT.out.cell 0;have k_BT_1:=BT.out.cell 1;have k_X0_0:=X0.out.cell 0;have k_X0_1:=X0.out.cell 1;have k_X1_0:=X1.out.cell 0;have k_X1_1:=X1.out.cell 1;have k_X1_2:=X1.out.cell 2;simp at k_B0_0 k_B0_1 k_B1_0 k_B1_1 k_B1_2 k_BT_0 k_BT_1 k_X0_0 k_X0_1 k_X1_0 k_X1_1 k_X1_2;go_wp2_with fail;clear k_B0_0 k_B0_1 k_B1_0 k_B1_1 k_B1_2 k_BT_0 k_BT_1 k_X0_0 k_X0_1 k_X1_0 k_X1_1 k_X1_2;refine (Wz ins _ Fx2 (cc.cnt (kk.cnt 1)) _ Ox2.out HZ2.out (by omega) (by omega)).mono ?_;rintro e y ⟨rfl,oo,cc9⟩;replace Ox2:=zH oo;clear oo;replace B0:=zH (Yc B0.out cc9 (fun hg=>by have h1:=Lx2.out _ hg;have h2:=Ux2.out _ hg;omega));replace B1:=zH (Yc B1.out cc9 (fun hg=>by have h1:=Lx2.out _ hg;have h2:=Ux2.out _ hg;omega));replace BT:=zH (Yc BT.out cc9 (fun hg=>by have h1:=Lx2.out _ hg;have h2:=Ux2.out _ hg;omega));replace X0:=zH (Yc X0.out cc9 (fun hg=>by have h1:=Lx2.out _ hg;have h2:=Ux2.out _ hg;omega));replace X1:=zH (Yc X1.out cc9 (fun hg=>by have h1:=Lx2.out _ hg;have h2:=Ux2.out _ hg;omega));replace Owr0:=zH (Yd _ Owr0.out cc9 (fun g hg hx=>by have h1:=Lwr0.out g hg;have h2:=Uwr0.out g hg;have h3:=Lx2.out g hx;have h4:=Ux2.out g hx;omega));replace Ox0:=zH (AggO.chg Ox0.out cc9 (fun g hg hx=>by have h1:=Lx0.out g hg;have h2:=Ux0.out g hg;have h3:=Lx2.out g hx;have h4:=Ux2.out g hx;omega));replace Ox1:=zH (AggO.chg Ox1.out cc9 (fun g hg hx=>by have h1:=Lx1.out g hg;have h2:=Ux1.out g hg;have h3:=Lx2.out g hx;have h4:=Ux2.out g hx;omega));replace Ox4:=zH (Yd _ Ox4.out cc9 (fun g hg hx=>by have h1:=Lx4.out g hg;have h2:=Ux4.out g hg;have h3:=Lx2.out g hx;have h4:=Ux2.out g hx;omega));replace Ogr0:=zH (Yd _ Ogr0.out cc9 (fun g hg hx=>by have h1:=Lgr0.out g hg;have h2:=Ugr0.out g hg;have h3:=Lx2.out g hx;have h4:=Ux2.out g hx;omega));have z20:=Chg.size cc9
      try simp at z20
      replace G:=zH (Chg.new G.out cc9 (fun g hg=>by have h1:=Lx2.out g hg;omega));clear cc9;have k_B0_0:=B0.out.cell 0;have k_B0_1:=B0.out.cell 1;have k_B1_0:=B1.out.cell 0;have k_B1_1:=B1.out.cell 1;have k_B1_2:=B1.out.cell 2;have k_BT_0:=BT.out.cell 0;have k_BT_1:=BT.out.cell 1;have k_X0_0:=X0.out.cell 0;have k_X0_1:=X0.out.cell 1;have k_X1_0:=X1.out.cell 0;have k_X1_1:=X1.out.cell 1;have k_X1_2:=X1.out.cell 2;simp at k_B0_0 k_B0_1 k_B1_0 k_B1_1 k_B1_2 k_BT_0 k_BT_1 k_X0_0 k_X0_1 k_X1_0 k_X1_1 k_X1_2;go_wp2_with fail;clear k_B0_0 k_B0_1 k_B1_0 k_B1_1 k_B1_2 k_BT_0 k_BT_1 k_X0_0 k_X0_1 k_X1_0 k_X1_1 k_X1_2;refine (Wz es _ Fx4 ((cc.cnt (kk.cnt 1))+ins.length) _ Ox4.out HZ4.out (by omega) (by omega)).mono ?_;rintro e y ⟨rfl,oo,cc9⟩;replace Ox4:=zH oo;clear oo;replace B0:=zH (Yc B0.out cc9 (fun hg=>by have h1:=Lx4.out _ hg;have h2:=Ux4.out _ hg;omega));replace B1:=zH (Yc B1.out cc9 (fun hg=>by have h1:=Lx4.out _ hg;have h2:=Ux4.out _ hg;omega));replace BT:=zH (Yc BT.out cc9 (fun hg=>by have h1:=Lx4.out _ hg;have h2:=Ux4.out _ hg;omega));replace X0:=zH (Yc X0.out cc9 (fun hg=>by have h1:=Lx4.out _ hg;have h2:=Ux4.out _ hg;omega));replace X1:=zH (Yc X1.out cc9 (fun hg=>by have h1:=Lx4.out _ hg;have h2:=Ux4.out _ hg;omega));replace Owr0:=zH (Yd _ Owr0.out cc9 (fun g hg hx=>by have h1:=Lwr0.out g hg;have h2:=Uwr0.out g hg;have h3:=Lx4.out g hx;have h4:=Ux4.out g hx;omega));replace Ox0:=zH (AggO.chg Ox0.out cc9 (fun g hg hx=>by have h1:=Lx0.out g hg;have h2:=Ux0.out g hg;have h3:=Lx4.out g hx;have h4:=Ux4.out g hx;omega));replace Ox1:=zH (AggO.chg Ox1.out cc9 (fun g hg hx=>by have h1:=Lx1.out g hg;have h2:=Ux1.out g hg;have h3:=Lx4.out g hx;have h4:=Ux4.out g hx;omega));replace Ox2:=zH (Yd _ Ox2.out cc9 (fun g hg hx=>by have h1:=Lx2.out g hg;have h2:=Ux2.out g hg;have h3:=Lx4.out g hx;have h4:=Ux4.out g hx;omega));replace Ogr0:=zH (Yd _ Ogr0.out cc9 (fun g hg hx=>by have h1:=Lgr0.out g hg;have h2:=Ugr0.out g hg;have h3:=Lx4.out g hx;have h4:=Ux4.out g hx;omega));have z21:=Chg.size cc9
      try simp at z21
      replace G:=zH (Chg.new G.out cc9 (fun g hg=>by have h1:=Lx4.out g hg;omega));clear cc9;clear Ox0 Lx0 Ux0;clear Ox1 Lx1 Ux1;clear Ox2 Lx2 Ux2;clear Ox4 Lx4 Ux4;have kp:¬((cc.cnt (kk.cnt 1))+ins.length)+es.length<0:=by omega
      have k_B0_0:=B0.out.cell 0;have k_B0_1:=B0.out.cell 1;have k_B1_0:=B1.out.cell 0;have k_B1_1:=B1.out.cell 1;have k_B1_2:=B1.out.cell 2;have k_BT_0:=BT.out.cell 0;have k_BT_1:=BT.out.cell 1;have k_X0_0:=X0.out.cell 0;have k_X0_1:=X0.out.cell 1;have k_X1_0:=X1.out.cell 0;have k_X1_1:=X1.out.cell 1;have k_X1_2:=X1.out.cell 2;simp at k_B0_0 k_B0_1 k_B1_0 k_B1_1 k_B1_2 k_BT_0 k_BT_1 k_X0_0 k_X0_1 k_X1_0 k_X1_1 k_X1_2;go_wp2_with fail;clear k_B0_0 k_B0_1 k_B1_0 k_B1_1 k_B1_2 k_BT_0 k_BT_1 k_X0_0 k_X0_1 k_X1_0 k_X1_1 k_X1_2;refine (Vd r0 _ _ _ (CS.toRd _ Ogr0.out) (CS.toRd _ Owr0.out) HL0.out).mono ?_;rintro e y ⟨rfl,g⟩;replace B0:=zH (Blk.grow B0.out g);replace B1:=zH (Blk.grow B1.out g);replace BT:=zH (Blk.grow BT.out g);replace X0:=zH (Blk.grow X0.out g);replace X1:=zH (Blk.grow X1.out g);replace Owr0:=zH (Zi _ Owr0.out g);replace Ogr0:=zH (Zi _ Ogr0.out g);have z22:=World.grownBy.size g
      try simp at z22
      replace G:=zH (gbT G.out g);clear g;have k_B0_0:=B0.out.cell 0;have k_B0_1:=B0.out.cell 1;have k_B1_0:=B1.out.cell 0;have k_B1_1:=B1.out.cell 1;have k_B1_2:=B1.out.cell 2;have k_BT_0:=BT.out.cell 0;have k_BT_1:=BT.out.cell 1;have k_X0_0:=X0.out.cell 0;have k_X0_1:=X0.out.cell 1;have k_X1_0:=X1.out.cell 0;have k_X1_1:=X1.out.cell 1;have k_X1_2:=X1.out.cell 2;simp at k_B0_0 k_B0_1 k_B1_0 k_B1_1 k_B1_2 k_BT_0 k_BT_1 k_X0_0 k_X0_1 k_X1_0 k_X1_1 k_X1_2;go_wp2_with fail;clear k_B0_0 k_B0_1 k_B1_0 k_B1_1 k_B1_2 k_BT_0 k_BT_1 k_X0_0 k_X0_1 k_X1_0 k_X1_1 k_X1_2;refine (Wz r0 _ Fgr0 1 _ Ogr0.out HL0.out (by omega) (by omega)).mono ?_;rintro e y ⟨rfl,oo,cc9⟩;replace Ogr0:=zH oo;clear oo;replace B0:=zH (Yc B0.out cc9 (fun hg=>by have h1:=Lgr0.out _ hg;have h2:=Ugr0.out _ hg;omega));replace B1:=zH (Yc B1.out cc9 (fun hg=>by have h1:=Lgr0.out _ hg;have h2:=Ugr0.out _ hg;omega));replace BT:=zH (Yc BT.out cc9 (fun hg=>by have h1:=Lgr0.out _ hg;have h2:=Ugr0.out _ hg;omega));replace X0:=zH (Yc X0.out cc9 (fun hg=>by have h1:=Lgr0.out _ hg;have h2:=Ugr0.out _ hg;omega));replace X1:=zH (Yc X1.out cc9 (fun hg=>by have h1:=Lgr0.out _ hg;have h2:=Ugr0.out _ hg;omega));replace Owr0:=zH (Yd _ Owr0.out cc9 (fun g hg hx=>by have h1:=Lwr0.out g hg;have h2:=Uwr0.out g hg;have h3:=Lgr0.out g hx;have h4:=Ugr0.out g hx;omega));have z23:=Chg.size cc9
      try simp at z23
      replace G:=zH (Chg.new G.out cc9 (fun g hg=>by have h1:=Lgr0.out g hg;omega));clear cc9;have k_B0_0:=B0.out.cell 0;have k_B0_1:=B0.out.cell 1;have k_B1_0:=B1.out.cell 0;have k_B1_1:=B1.out.cell 1;have k_B1_2:=B1.out.cell 2;have k_BT_0:=BT.out.cell 0;have k_BT_1:=BT.out.cell 1;have k_X0_0:=X0.out.cell 0;have k_X0_1:=X0.out.cell 1;have k_X1_0:=X1.out.cell 0;have k_X1_1:=X1.out.cell 1;have k_X1_2:=X1.out.cell 2;simp at k_B0_0 k_B0_1 k_B1_0 k_B1_1 k_B1_2 k_BT_0 k_BT_1 k_X0_0 k_X0_1 k_X1_0 k_X1_1 k_X1_2;go_wp2_with fail;clear k_B0_0 k_B0_1 k_B1_0 k_B1_1 k_B1_2 k_BT_0 k_BT_1 k_X0_0 k_X0_1 k_X1_0 k_X1_1 k_X1_2;refine (heldIntS_k r0.length _ 1 _ (CS.toRd _ Ogr0.out) HL0.out (by omega) (by omega)).mono ?_;rintro e y ⟨rfl,g⟩;replace B0:=zH (Blk.grow B0.out g);replace B1:=zH (Blk.grow B1.out g);replace BT:=zH (Blk.grow BT.out g);replace X0:=zH (Blk.grow X0.out g);replace X1:=zH (Blk.grow X1.out g);replace Owr0:=zH (Zi _ Owr0.out g);replace Ogr0:=zH (Zi _ Ogr0.out g);have z24:=World.grownBy.size g
      try simp at z24
      replace G:=zH (gbT G.out g);clear g;have khr0:¬(1:Int)+r0.length<0:=by omega
      have k_B0_0:=B0.out.cell 0;have k_B0_1:=B0.out.cell 1;have k_B1_0:=B1.out.cell 0;have k_B1_1:=B1.out.cell 1;have k_B1_2:=B1.out.cell 2;have k_BT_0:=BT.out.cell 0;have k_BT_1:=BT.out.cell 1;have k_X0_0:=X0.out.cell 0;have k_X0_1:=X0.out.cell 1;have k_X1_0:=X1.out.cell 0;have k_X1_1:=X1.out.cell 1;have k_X1_2:=X1.out.cell 2;simp at k_B0_0 k_B0_1 k_B1_0 k_B1_1 k_B1_2 k_BT_0 k_BT_1 k_X0_0 k_X0_1 k_X1_0 k_X1_1 k_X1_2;go_wp2_with fail;clear k_B0_0 k_B0_1 k_B1_0 k_B1_1 k_B1_2 k_BT_0 k_BT_1 k_X0_0 k_X0_1 k_X1_0 k_X1_1 k_X1_2;clear khr0;have k_B0_0:=B0.out.cell 0;have k_B0_1:=B0.out.cell 1;have k_B1_0:=B1.out.cell 0;have k_B1_1:=B1.out.cell 1;have k_B1_2:=B1.out.cell 2;have k_BT_0:=BT.out.cell 0;have k_BT_1:=BT.out.cell 1;have k_X0_0:=X0.out.cell 0;have k_X0_1:=X0.out.cell 1;have k_X1_0:=X1.out.cell 0;have k_X1_1:=X1.out.cell 1;have k_X1_2:=X1.out.cell 2;simp at k_B0_0 k_B0_1 k_B1_0 k_B1_1 k_B1_2 k_BT_0 k_BT_1 k_X0_0 k_X0_1 k_X1_0 k_X1_1 k_X1_2;go_wp2_with fail;clear k_B0_0 k_B0_1 k_B1_0 k_B1_1 k_B1_2 k_BT_0 k_BT_1 k_X0_0 k_X0_1 k_X1_0 k_X1_1 k_X1_2;have kkB0_0:=zH (B0.out.cell 0);have kkB0_1:=zH (B0.out.cell 1);have kkB1_0:=zH (B1.out.cell 0);have kkB1_1:=zH (B1.out.cell 1);have kkB1_2:=zH (B1.out.cell 2);have kkBT_0:=zH (BT.out.cell 0);have kkBT_1:=zH (BT.out.cell 1);have kkX0_0:=zH (X0.out.cell 0);have kkX0_1:=zH (X0.out.cell 1);have kkX1_0:=zH (X1.out.cell 0);have kkX1_1:=zH (X1.out.cell 1);have kkX1_2:=zH (X1.out.cell 2);simp only [List.getElem?_toArray,List.getElem?_cons_succ,List.getElem?_cons_zero] at kkB0_0 kkB0_1 kkB1_0 kkB1_1 kkB1_2 kkBT_0 kkBT_1 kkX0_0 kkX0_1 kkX1_0 kkX1_1 kkX1_2
      refine Xy [onT 139 (isV (.agg #[.int .i64 kk.p,p0_1])),
         onT 140 (aggF y.heap.size (ckeys kk)),
         onT 141 (isV (.agg #[.int .i64 cc.p,p1_1,p1_2])),
         onT 142 (aggF y.heap.size (carith cc)),
         onT 143 (isV (.slice pa2 ins.length pc2)),
         onT 144 (intF y.heap.size ins),
         onT 145 (isV (.agg #[.int .i64 ts,.int .i64 ta])),
         onT 146 (isV (.agg #[.int .i64 ts,.int .i64 ta])),
         onT 147 (isV (.slice pa4 es.length pc4)),
         onT 148 (intF y.heap.size es),
         onT 149 (resTB y.heap.size r0 r1),
         onT 138 (resTB y.heap.size r0 r1),
         onT 150 (intF y.heap.size r0),
         onT 151 (isV (.bool r1)),
         onT 23 (intF y.heap.size r0),
         onT 24 (isV (.bool r1))] [] (by kernel_rfl) (by kernel_rfl) (by kernel_rfl) ?_ ?_ ?_
      · exact Zc (Zh (Zb _)) (Zc (Zh (Yq)) (Zc (Zh (Zb _)) (Zc (Zh (Yq)) (Zc (Zh (Zb _)) (Zc (Zh (Wq)) (Zc (Zh (Zb _)) (Zc (Zh (Zb _)) (Zc (Zh (Zb _)) (Zc (Zh (Wq)) (Zc (Zh (VP)) (Zc (Zh (VP)) (Zc (Zh (Wq)) (Zc (Zh (Zb _)) (Zc (Zh (Wq)) (Zc (Zh (Zb _)) ZR)))))))))))))))
      · simp only [hops6,and_true]
        refine ⟨?_, ?_, ?_, ?_, ?_, ?_, ?_, ?_, ?_, ?_, ?_, ?_, ?_, ?_, ?_, ?_⟩
        · intro f w1 hG hpre hold hd
          have hg4:=gbT (gbD (gbR y none)) (gb0 hG);clear hG hpre hold;have k0:=gbk hg4 (kkB0_0.out);have k1:=gbk hg4 (kkB0_1.out)
          (try simp at hd)
          first | simp [hd] | simp
          try clear hd
          go_wp2_with fail;exact ⟨_,rfl,by simp [fAt,Zw,Zn,isV],Or.inl (gbR _ _)⟩
        · intro f w1 hG hpre hold hd
          have hg4:=gbT (gbD (gbR y none)) (gb0 hG);clear hG hpre hold
          (try simp at hd)
          first | (have hd2:=hd.1;clear hd;have hd:=hd2;clear hd2) | skip
          simp [puts,dsts,Act.put,hd];clear hd;go_wp2_with fail;refine (QL kk _ w1 (AggR.grow HA0.out (gbT G.out hg4)) HZ0.out).mono ?_;rintro e w6 ⟨uu,FF,rfl,oo,ll,hw⟩;have O6:=zH (show aggF y.heap.size (ckeys kk) uu w6 from ⟨FF,oo,fun x hx=>Nat.le_trans hg4.size (ll x hx)⟩);obtain ⟨_,_,_,rfl⟩:=Xu oo;have G6:=zH hw;clear oo ll hw;go_wp2_with fail;exact ⟨_,rfl,O6.out,Or.inl G6.out⟩
        · intro f w1 hG hpre hold hd
          have hg4:=gbT (gbD (gbR y none)) (gb0 hG);clear hG hpre hold;have k2:=gbk hg4 (kkB1_0.out);have k3:=gbk hg4 (kkB1_1.out);have k4:=gbk hg4 (kkB1_2.out)
          (try simp at hd)
          first | simp [hd] | simp
          try clear hd
          go_wp2_with fail;exact ⟨_,rfl,by simp [fAt,Zw,Zn,isV],Or.inl (gbR _ _)⟩
        · intro f w1 hG hpre hold hd
          have hg4:=gbT (gbD (gbR y none)) (gb0 hG);clear hG hpre hold
          (try simp at hd)
          first | (have hd2:=hd.1;clear hd;have hd:=hd2;clear hd2) | skip
          simp [puts,dsts,Act.put,hd];clear hd;go_wp2_with fail;refine (Uz cc _ w1 (AggR.grow HA1.out (gbT G.out hg4)) (by have:=HZ1.out;omega)).mono ?_;rintro e w6 ⟨uu,FF,rfl,oo,ll,hw⟩;have O6:=zH (show aggF y.heap.size (carith cc) uu w6 from ⟨FF,oo,fun x hx=>Nat.le_trans hg4.size (ll x hx)⟩);obtain ⟨_,_,_,_,_,_,rfl⟩:=YE oo;have G6:=zH hw;clear oo ll hw;go_wp2_with fail;exact ⟨_,rfl,O6.out,Or.inl G6.out⟩
        · intro f w1 hG hpre hold hd
          have hg4:=gbT (gbD (gbR y none)) (gb0 hG);clear hG hpre hold
          (try simp at hd)
          first | simp [hd] | simp
          try clear hd
          go_wp2_with fail;exact ⟨_,rfl,by simp [fAt,Zw,Zn,isV],Or.inl (gbR _ _)⟩
        · intro f w1 hG hpre hold hd
          have hg4:=gbT (gbD (gbR y none)) (gb0 hG);clear hG hpre hold
          (try simp at hd)
          first | (have hd2:=hd.1;clear hd;have hd:=hd2;clear hd2) | skip
          simp [puts,dsts,Act.put,hd];clear hd;go_wp2_with fail;refine (XA ins _ w1 (CS.grow _ HA2.out (gbT G.out hg4)) HZ2.out).mono ?_;rintro e w6 ⟨uu,FF,rfl,oo,ll,hw⟩;have O6:=zH (show intF y.heap.size ins uu w6 from intF.of oo (fun x hx=>Nat.le_trans hg4.size (ll x hx)));obtain ⟨_,_,_,rfl⟩:=ZO oo;have G6:=zH hw;clear oo ll hw;go_wp2_with fail;exact ⟨_,rfl,O6.out,Or.inl G6.out⟩
        · intro f w1 hG hpre hold hd
          have hg4:=gbT (gbD (gbR y none)) (gb0 hG);clear hG hpre hold;have k5:=gbk hg4 (kkBT_0.out);have k6:=gbk hg4 (kkBT_1.out)
          (try simp at hd)
          first | simp [hd] | simp
          try clear hd
          go_wp2_with fail;exact ⟨_,rfl,by simp [fAt,Zw,Zn,isV],Or.inl (gbR _ _)⟩
        · intro f w1 hG hpre hold hd
          have hg4:=gbT (gbD (gbR y none)) (gb0 hG);clear hG hpre hold
          (try simp at hd)
          first | (have hd2:=hd.1;clear hd;have hd:=hd2;clear hd2) | skip
          simp [puts,dsts,Act.put,hd];clear hd;go_wp2_with fail;refine (toTape_c ts ta w1).mono ?_;rintro e w6 ⟨rfl,g6⟩;have G6:=zH g6;clear g6;go_wp2_with fail;exact ⟨_,rfl,rfl,Or.inl G6.out⟩
        · intro f w1 hG hpre hold hd
          have hg4:=gbT (gbD (gbR y none)) (gb0 hG);clear hG hpre hold
          (try simp at hd)
          first | simp [hd] | simp
          try clear hd
          go_wp2_with fail;exact ⟨_,rfl,by simp [fAt,Zw,Zn,isV],Or.inl (gbR _ _)⟩
        · intro f w1 hG hpre hold hd
          have hg4:=gbT (gbD (gbR y none)) (gb0 hG);clear hG hpre hold
          (try simp at hd)
          first | (have hd2:=hd.1;clear hd;have hd:=hd2;clear hd2) | skip
          simp [puts,dsts,Act.put,hd];clear hd;go_wp2_with fail;refine (XA es _ w1 (CS.grow _ HA4.out (gbT G.out hg4)) HZ4.out).mono ?_;rintro e w6 ⟨uu,FF,rfl,oo,ll,hw⟩;have O6:=zH (show intF y.heap.size es uu w6 from intF.of oo (fun x hx=>Nat.le_trans hg4.size (ll x hx)));obtain ⟨_,_,_,rfl⟩:=ZO oo;have G6:=zH hw;clear oo ll hw;go_wp2_with fail;exact ⟨_,rfl,O6.out,Or.inl G6.out⟩
        · intro f w1 hG hpre hold hd
          have hg4:=gbT (gbD (gbR y none)) (gb0 hG);clear hG hpre hold
          (try simp at hd)
          obtain ⟨h1,h2,h3,h4,h5⟩:=hd
          first | (have hd2:=h5.1;clear h5;have h5:=hd2;clear hd2) | skip
          obtain ⟨FK0,k0,_⟩:=h1;have R0:=zH k0.rd;obtain ⟨FK1,k1,_⟩:=h2;have R1:=zH k1.rd;have R2:=zH (intF.rd h3);have R4:=zH (intF.rd h5)
          first | simp [puts,dsts,Act.put,h4] | simp [puts,dsts,Act.put]
          go_wp2_with fail;refine (HI.out w1 _ _ _ _ R0.out R1.out R2.out R4.out).mono ?_;rintro e w6 ⟨V,F6,rfl,o6,l6,g6⟩;obtain ⟨A',n',c',rfl⟩:=ZO o6;have O6:=zH (show resTB y.heap.size r0 r1 _ w6 from ⟨A',n',c',rfl,intF.of o6 (fun x hx=>Nat.le_trans hg4.size (l6 x hx))⟩);have G6:=zH g6;clear o6 l6 g6;go_wp2_with fail;exact ⟨_,rfl,O6.out,Or.inl G6.out⟩
        · intro f w1 hG hpre hold hd
          have hg4:=gbT (gbD (gbR y none)) (gb0 hG);clear hG hpre hold
          (try simp at hd)
          obtain ⟨A',n',c',e9,o6⟩:=hd;simp [puts,dsts,Act.put,e9];go_wp2_with fail;exact ⟨_,rfl,⟨A',n',c',rfl,o6⟩,Or.inl (gbR _ _)⟩
        · intro f w1 hG hpre hold hd
          have hg4:=gbT (gbD (gbR y none)) (gb0 hG);clear hG hpre hold
          (try simp at hd)
          first | (have hd2:=hd.1;clear hd;have hd:=hd2;clear hd2) | skip
          obtain ⟨A',n',c',e9,o6⟩:=hd;simp [puts,dsts,Act.put,e9];go_wp2_with fail;exact ⟨_,rfl,o6,Or.inl (gbR _ _)⟩
        · intro f w1 hG hpre hold hd
          have hg4:=gbT (gbD (gbR y none)) (gb0 hG);clear hG hpre hold
          (try simp at hd)
          first | (have hd2:=hd.1;clear hd;have hd:=hd2;clear hd2) | skip
          obtain ⟨A',n',c',e9,o6⟩:=hd;simp [puts,dsts,Act.put,e9];go_wp2_with fail;exact ⟨_,rfl,rfl,Or.inl (gbR _ _)⟩
        · intro f w1 hG hpre hold hd
          have hg4:=gbT (gbD (gbR y none)) (gb0 hG);clear hG hpre hold
          (try simp at hd)
          have e9:=hd.1;clear hd
          first | simp [puts,dsts,Act.put] | skip
          go_wp2_with fail;exact ⟨_,rfl,e9,Or.inl (gbR _ _)⟩
        · intro f w1 hG hpre hold hd
          have hg4:=gbT (gbD (gbR y none)) (gb0 hG);clear hG hpre hold
          (try simp at hd)
          have e9:=hd.1;clear hd;simp [puts,dsts,Act.put,e9];go_wp2_with fail;exact ⟨_,rfl,rfl,Or.inl (gbR _ _)⟩
      intro f yn hG hK;have g:=gbT (gbD (gbR y none)) (gb0 hG);clear hG;simp only [puts,dsts,Act.put,zB,zC,zA,zD,zE];have hr0:intF _ r0 (f 23) yn:=ZQ hK (i:=14) rfl;obtain ⟨Fhr0,hr1,hr2⟩:=intF.own hr0;obtain ⟨ahr0,nhr0,shr0,hr3⟩:=ZO hr1;rw [hr3] at hr1 ⊢;have hr4:f 24=.bool r1:=ZQ hK (i:=15) rfl;rw [hr4]
      try simp at hr2
      have Ohr0:=zH hr1;have Lhr0:=zH hr2;have Uhr0:=zH (CS.lt _ hr1);replace B0:=zH (Blk.grow B0.out g);replace B1:=zH (Blk.grow B1.out g);replace BT:=zH (Blk.grow BT.out g);replace X0:=zH (Blk.grow X0.out g);replace X1:=zH (Blk.grow X1.out g);replace Owr0:=zH (Zi _ Owr0.out g);replace Ogr0:=zH (Zi _ Ogr0.out g);have z25:=World.grownBy.size g
      try simp at z25
      replace G:=zH (gbT G.out g);obtain ⟨y,rfl⟩:∃q,q=yn:=⟨_,rfl⟩;clear g hK hr0 hr1 hr2 hr3 hr4 kkB0_0 kkB0_1 kkB1_0 kkB1_1 kkB1_2 kkBT_0 kkBT_1 kkX0_0 kkX0_1 kkX1_0 kkX1_1 kkX1_2;have k_B0_0:=B0.out.cell 0;have k_B0_1:=B0.out.cell 1;have k_B1_0:=B1.out.cell 0;have k_B1_1:=B1.out.cell 1;have k_B1_2:=B1.out.cell 2;have k_BT_0:=BT.out.cell 0;have k_BT_1:=BT.out.cell 1;have k_X0_0:=X0.out.cell 0;have k_X0_1:=X0.out.cell 1;have k_X1_0:=X1.out.cell 0;have k_X1_1:=X1.out.cell 1;have k_X1_2:=X1.out.cell 2;simp at k_B0_0 k_B0_1 k_B1_0 k_B1_1 k_B1_2 k_BT_0 k_BT_1 k_X0_0 k_X0_1 k_X1_0 k_X1_1 k_X1_2;go_wp2_with fail;clear k_B0_0 k_B0_1 k_B1_0 k_B1_1 k_B1_2 k_BT_0 k_BT_1 k_X0_0 k_X0_1 k_X1_0 k_X1_1 k_X1_2;refine (Vd r0 _ _ _ (CS.toRd _ Ohr0.out) (CS.toRd _ Owr0.out) HL0.out).mono ?_;rintro e y ⟨rfl,g⟩;replace B0:=zH (Blk.grow B0.out g);replace B1:=zH (Blk.grow B1.out g);replace BT:=zH (Blk.grow BT.out g);replace X0:=zH (Blk.grow X0.out g);replace X1:=zH (Blk.grow X1.out g);replace Owr0:=zH (Zi _ Owr0.out g);replace Ogr0:=zH (Zi _ Ogr0.out g);replace Ohr0:=zH (Zi _ Ohr0.out g);have z26:=World.grownBy.size g
      try simp at z26
      replace G:=zH (gbT G.out g);clear g;have k_B0_0:=B0.out.cell 0;have k_B0_1:=B0.out.cell 1;have k_B1_0:=B1.out.cell 0;have k_B1_1:=B1.out.cell 1;have k_B1_2:=B1.out.cell 2;have k_BT_0:=BT.out.cell 0;have k_BT_1:=BT.out.cell 1;have k_X0_0:=X0.out.cell 0;have k_X0_1:=X0.out.cell 1;have k_X1_0:=X1.out.cell 0;have k_X1_1:=X1.out.cell 1;have k_X1_2:=X1.out.cell 2;simp at k_B0_0 k_B0_1 k_B1_0 k_B1_1 k_B1_2 k_BT_0 k_BT_1 k_X0_0 k_X0_1 k_X1_0 k_X1_1 k_X1_2;go_wp2_with fail;clear k_B0_0 k_B0_1 k_B1_0 k_B1_1 k_B1_2 k_BT_0 k_BT_1 k_X0_0 k_X0_1 k_X1_0 k_X1_1 k_X1_2;refine (heldIntS_k r0.length _ 1 _ (CS.toRd _ Ogr0.out) HL0.out (by omega) (by omega)).mono ?_;rintro e y ⟨rfl,g⟩;replace B0:=zH (Blk.grow B0.out g);replace B1:=zH (Blk.grow B1.out g);replace BT:=zH (Blk.grow BT.out g);replace X0:=zH (Blk.grow X0.out g);replace X1:=zH (Blk.grow X1.out g);replace Owr0:=zH (Zi _ Owr0.out g);replace Ogr0:=zH (Zi _ Ogr0.out g);replace Ohr0:=zH (Zi _ Ohr0.out g);have z27:=World.grownBy.size g
      try simp at z27
      replace G:=zH (gbT G.out g);clear g;have khr0:¬(1:Int)+r0.length<0:=by omega
      have k_B0_0:=B0.out.cell 0;have k_B0_1:=B0.out.cell 1;have k_B1_0:=B1.out.cell 0;have k_B1_1:=B1.out.cell 1;have k_B1_2:=B1.out.cell 2;have k_BT_0:=BT.out.cell 0;have k_BT_1:=BT.out.cell 1;have k_X0_0:=X0.out.cell 0;have k_X0_1:=X0.out.cell 1;have k_X1_0:=X1.out.cell 0;have k_X1_1:=X1.out.cell 1;have k_X1_2:=X1.out.cell 2;simp at k_B0_0 k_B0_1 k_B1_0 k_B1_1 k_B1_2 k_BT_0 k_BT_1 k_X0_0 k_X0_1 k_X1_0 k_X1_1 k_X1_2;go_wp2_with fail;clear k_B0_0 k_B0_1 k_B1_0 k_B1_1 k_B1_2 k_BT_0 k_BT_1 k_X0_0 k_X0_1 k_X1_0 k_X1_1 k_X1_2;clear khr0;go_ret;exact ⟨rfl,G.out⟩
set_option maxRecDepth 100000 in
set_option maxHeartbeats 1000000 in
theorem FnExactEngineRun.walk (w:World) (kk:KM) (v0:Value) (h0:AggR w (ckeys kk) v0) (wf0:kk.wf) (cc:AM) (v1:Value) (h1:AggR w (carith cc) v1) (wf1:cc.wf) (A2:Option Addr) (n2 c2:Nat) (ins:List Int) (hes2:IntsK .i64 w A2 n2 ins) (hm2:n2≤c2) (hc2:c2≤maxLen) (ts:Int) (wts:(Lit.int .i64 ts).wf=true) (ta:Int) (wta:(Lit.int .i64 ta).wf=true) (A4:Option Addr) (n4 c4:Nat) (es:List Int) (hes4:IntsK .i64 w A4 n4 es) (hm4:n4≤c4) (hc4:c4≤maxLen) :
    Calls Tryz.prog 3 #[v0,v1,.slice A2 n2 c2,.agg #[.int .i64 ts,.int .i64 ta],.slice A4 n4 c4] w fun e w'=>e=.returned (.bool true)∧w.grownBy w' none:=by
  have hl2:=Ints.len hes2.ints;have hl4:=Ints.len hes4.ints;have hA:=QV wta
  by_cases hb2:n2≤1048576
  rotate_left
  · skip
    obtain ⟨p0_1,rfl,_⟩:=YI h0;obtain ⟨p1_1,p1_2,rfl,_,_⟩:=Zy h1;have hb2':(1048576:Int)<(n2:Int):=by omega
    clear hes2 hl2 hes4 hl4
    go_enter Tryz.func3,Tryz.ntmps3
    go_wp2_with fail;go_ret;exact ⟨rfl,gbA (gbA (gbA (gbR _ _) _) _) _⟩
  by_cases hb4:n4≤1048576
  rotate_left
  · skip
    obtain ⟨p0_1,rfl,_⟩:=YI h0;obtain ⟨p1_1,p1_2,rfl,_,_⟩:=Zy h1;have hb2':¬(1048576:Int)<(n2:Int):=by omega
    have hb4':(1048576:Int)<(n4:Int):=by omega
    clear hes2 hl2 hes4 hl4
    go_enter Tryz.func3,Tryz.ntmps3
    go_wp2_with fail;go_ret;exact ⟨rfl,gbA (gbA (gbA (gbR _ _) _) _) _⟩
  by_cases hz0:kk.sz≤1048576
  rotate_left
  · skip
    have HZ0:=zH (VQ (Nat.lt_of_not_le hz0));have HA0:=zH h0;have HA1:=zH h1;obtain ⟨p0_1,rfl,_⟩:=YI h0;obtain ⟨p1_1,p1_2,rfl,_,_⟩:=Zy h1;have hb2':¬(1048576:Int)<(n2:Int):=by omega
    have hb4':¬(1048576:Int)<(n4:Int):=by omega
    clear hes2 hl2 hes4 hl4 h0 h1
    go_enter Tryz.func3,Tryz.ntmps3
    obtain ⟨y,hyy⟩:∃q:World,(((w).alloc (.cells #[.int .i64 kk.p,p0_1] 24)).alloc (.cells #[.int .i64 cc.p,p1_1,p1_2] 27)).alloc (.cells #[.int .i64 ts,.int .i64 ta] 29)=q:=⟨_,rfl⟩;have G:Hid (w.grownBy y none):=by rw [← hyy];exact gbA (gbA (gbA (gbR _ _) _) _) _
    have B0:Hid (Blk y (w.heap.size) 24 #[.int .i64 kk.p,p0_1]):=by rw [← hyy];exact ((Blk.new w _ _).grow (gbA (gbR _ _) _)).grow (gbA (gbR _ _) _)
    have B1:Hid (Blk y (w.heap.size+1) 27 #[.int .i64 cc.p,p1_1,p1_2]):=by rw [← hyy];exact (Blk.new' _ _ _ _ (by simp)).grow (gbA (gbR _ _) _)
    have k0:=B0.out.cell 0;have k1:=B0.out.cell 1;simp at k0 k1;go_wp2_with fail;clear k0 k1 hyy;refine (szKeys_k kk _ (1048576) _ (AggR.grow HA0.out G.out) (by omega)).mono ?_;rintro e y0 ⟨rfl,g⟩;rw [HZ0.out];have G2:=zH (gbT G.out g);have B12:=zH (B1.out.grow g);clear B1;have B1:=B12;clear B12;clear g G;have G:=G2;clear G2;go_wp2_with fail;go_ret;exact ⟨rfl,G.out⟩
  by_cases hz1:cc.sz≤1048576 - kk.sz
  rotate_left
  · skip
    have HZ0:=zH (Ww hz0);have HZ1:=zH (VQ (Nat.lt_of_not_le hz1));have HA0:=zH h0;have HA1:=zH h1;obtain ⟨p0_1,rfl,_⟩:=YI h0;obtain ⟨p1_1,p1_2,rfl,_,_⟩:=Zy h1;have hb2':¬(1048576:Int)<(n2:Int):=by omega
    have hb4':¬(1048576:Int)<(n4:Int):=by omega
    clear hes2 hl2 hes4 hl4 h0 h1
    go_enter Tryz.func3,Tryz.ntmps3
    obtain ⟨y,hyy⟩:∃q:World,(((w).alloc (.cells #[.int .i64 kk.p,p0_1] 24)).alloc (.cells #[.int .i64 cc.p,p1_1,p1_2] 27)).alloc (.cells #[.int .i64 ts,.int .i64 ta] 29)=q:=⟨_,rfl⟩;have G:Hid (w.grownBy y none):=by rw [← hyy];exact gbA (gbA (gbA (gbR _ _) _) _) _
    have B0:Hid (Blk y (w.heap.size) 24 #[.int .i64 kk.p,p0_1]):=by rw [← hyy];exact ((Blk.new w _ _).grow (gbA (gbR _ _) _)).grow (gbA (gbR _ _) _)
    have B1:Hid (Blk y (w.heap.size+1) 27 #[.int .i64 cc.p,p1_1,p1_2]):=by rw [← hyy];exact (Blk.new' _ _ _ _ (by simp)).grow (gbA (gbR _ _) _)
    have k0:=B0.out.cell 0;have k1:=B0.out.cell 1;simp at k0 k1;go_wp2_with fail;clear k0 k1 hyy;refine (szKeys_k kk _ (1048576) _ (AggR.grow HA0.out G.out) (by omega)).mono ?_;rintro e y0 ⟨rfl,g⟩;rw [HZ0.out];have G2:=zH (gbT G.out g);have B12:=zH (B1.out.grow g);clear B1;have B1:=B12;clear B12;clear g G;have G:=G2;clear G2;have k0:=B1.out.cell 0;have k1:=B1.out.cell 1;have k2:=B1.out.cell 2;simp at k0 k1 k2;go_wp2_with fail;clear k0 k1 k2;refine (szArith_k cc _ (1048576 - kk.sz) _ (AggR.grow HA1.out G.out) (by omega)).mono ?_;rintro e y1 ⟨rfl,g⟩;rw [HZ1.out];have G2:=zH (gbT G.out g);clear g G;have G:=G2;clear G2;go_wp2_with fail;go_ret;exact ⟨rfl,G.out⟩
  have wk0:kwf kk:=⟨wf0.1,by have h3:kk.sz=kk.al.length:=rfl;omega⟩;have hcz1:cc.sz=cc.st.length+cc.outs.length:=rfl;have wk1:amwf cc:=⟨wf1,by omega,by omega⟩;have hn2:ins.length≤1048576:=by omega
  have hn4:es.length≤1048576:=by omega
  exact FnExactEngineRun.core kk cc ins es ts ta (runR0 kk cc ins es ts ta) (runR1 kk cc ins es ts ta) w v0 v1 _ _ h0 h1 (Ur hes2.ints hm2 hc2) (Ur hes4.ints hm4 hc4) hz0 hz1 hn2 hn4 (runR0_len (by omega)) (fun w u0 u1 u2 u4 q0 q1 q2 q4=>KT kk cc ins es ts ta wk0 wk1 hn2 hn4 w u0 u1 u2 u4 q0 q1 q2 q4) (fun w u0 u1 u2 u4 q0 q1 q2 q4=>KU kk cc ins es ts ta wk0 wk1 hn2 hn4 w u0 u1 u2 u4 q0 q1 q2 q4)
end Go.Proofs.YthaadgdeadbhkaaGreat
