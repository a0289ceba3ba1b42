/-
 RoundsOf,MulsAt,ArithCost,UsedErrors: reference and program.
-/
import Derived.Test.YthaadgdeadbhkaaGreatMgFnExactCountOutcomes19
open Go.RowKit
set_option linter.unusedVariables false
set_option linter.unusedSimpArgs false
namespace Go.Proofs.YthaadgdeadbhkaaGreat
def maxTo (l:List Int):Nat→Int
 | 0=>0
 | k+1=>max (maxTo l k) (l.getD k 0)
noncomputable def rounds (m:AM):Int:=maxTo (mdepth m) (mdepth m).length
theorem mdepth_bd (m:AM):∀d∈mdepth m,0≤d∧d≤60:=by
 by_cases h:AOk m
 ·rw [XW h]
  intro d hd;have:=depsS_bd' m _ d hd;have:=h.few;omega
 ·rw [WJ h];simp
theorem Kc (m:AM):∀k,0≤maxTo (mdepth m) k∧maxTo (mdepth m) k≤60
 | 0=>by simp [maxTo]
 | k+1=>by
  have ih:=Kc m k
  have h:0≤(mdepth m).getD k 0∧(mdepth m).getD k 0≤60:=by
   rcases Nat.lt_or_ge k (mdepth m).length with hk | hk
   ·rw [getI _ _ hk];exact mdepth_bd m _ (List.getElem_mem hk)
   ·rw [zF,List.getElem?_eq_none hk];simp
  rw [maxTo];omega
theorem Wl (m:AM):0≤rounds m∧rounds m≤60:=Kc m _
set_option maxHeartbeats 1000000 in
theorem Wx (m:AM) (v:Value) (w:World) (h:AggR w (carith m) v) (wf:m.wf) :
  Calls Tryz.prog 43 #[v] w fun e w'=>e=.returned (.int .i64 (rounds m))∧w.grownBy w' none:=by
 have HV:=zH h;obtain ⟨u1,u2,rfl,h1,h2⟩:=Zt h;have HW:=zH wf;clear h h1 h2 wf
 go_enter Tryz.func43,Tryz.ntmps43
 go_wp2_with fail;refine (VV m _ _ (AggR.grow HV.out (gbA (gbR w none) _)) HW.out).mono ?_;rintro e w1 ⟨V,rfl,o1,g⟩;have G:=zH (gbT (gbA (gbR w none) _) g);obtain ⟨S,sc,rfl,_,hml⟩:=ZB o1;have HI:=zH (show Ints w1 S (mdepth m).length (mdepth m) from Rd.ofOwn o1);have HB:=zH (fun k=>Kc m k);have HR:Hid (rounds m=maxTo (mdepth m) (mdepth m).length):=rfl;have h60:=WL m;clear g o1;generalize mdepth m=l at *;generalize hln:l.length=n at *;clear hln;go_wp2_with fail
 go_loop [3,5] (fun s i=>∃k:Nat,k≤n∧i=.int .i64 k∧s=.int .i64 (maxTo l k)) (fun _ i=>n - (intOf i).toNat)
 case atStart=>exact ⟨0,Nat.zero_le _,rfl,rfl⟩
 case round =>
  obtain ⟨k,hk,rfl,rfl⟩:=hrel
  by_cases hlt:k<n
  ·obtain ⟨b,o,rfl,hb,q0⟩:=Ints.cell HI.out hlt
   have i1:(k:Int)<(n:Int):=by omega
   have HS:Hid (maxTo l (k+1)=max (maxTo l k) (l.getD k 0)):=rfl;generalize maxTo l k=a at *;generalize l.getD k 0=d at *;go_wp2_with fail
   go_round
   case rel=>exact ⟨k+1,by omega,by go_num,by rw [HS.out,← mxIs]⟩
   case measure=>simp [intOf];omega
  ·have hkn:k=n:=by omega
   subst hkn;go_wp2_with fail;go_ret;exact ⟨retI HR.out.symm,G.out⟩
set_option maxHeartbeats 1000000 in
theorem YB (m:AM) (v:Value) (w:World) (h:AggR w (carith m) v) (wf:m.wf) :
  Calls Tryz.prog 53 #[v] w fun e w'=>e=.returned (.int .i64 (rounds m))∧w.grownBy w' none:=by
 have HV:=zH h;obtain ⟨u1,u2,rfl,h1,h2⟩:=Zt h;have HW:=zH wf;clear h h1 h2 wf
 go_enter Tryz.func53,Tryz.ntmps53
 go_wp2_with fail;refine (VU m _ _ (AggR.grow HV.out (gbA (gbR w none) _)) HW.out).mono ?_;rintro e w1 ⟨V,rfl,o1,g⟩;have G:=zH (gbT (gbA (gbR w none) _) g);obtain ⟨S,sc,rfl,_,hml⟩:=ZB o1;have HI:=zH (show Ints w1 S (mdepth m).length (mdepth m) from Rd.ofOwn o1);have HB:=zH (fun k=>Kc m k);have HR:Hid (rounds m=maxTo (mdepth m) (mdepth m).length):=rfl;have h60:=WL m;clear g o1;generalize mdepth m=l at *;generalize hln:l.length=n at *;clear hln;go_wp2_with fail
 go_loop [3,9] (fun s i=>∃k:Nat,k≤n∧i=.int .i64 k∧s=.int .i64 (maxTo l k)) (fun _ i=>n - (intOf i).toNat)
 case atStart=>exact ⟨0,Nat.zero_le _,rfl,rfl⟩
 case round =>
  obtain ⟨k,hk,rfl,rfl⟩:=hrel
  by_cases hlt:k<n
  ·obtain ⟨b,o,rfl,hb,q0⟩:=Ints.cell HI.out hlt
   have i1:(k:Int)<(n:Int):=by omega
   have HS:Hid (maxTo l (k+1)=max (maxTo l k) (l.getD k 0)):=rfl;generalize maxTo l k=a at *;generalize l.getD k 0=d at *;go_wp2_with fail
   go_round
   case rel=>exact ⟨k+1,by omega,by go_num,by rw [HS.out,← mxIs]⟩
   case measure=>simp [intOf];omega
  ·have hkn:k=n:=by omega
   subst hkn;go_wp2_with fail;go_ret;exact ⟨retI HR.out.symm,G.out⟩
noncomputable def mulsTo (m:AM) (d:Int):Nat→List Int
 | 0=>[]
 | k+1=>mulsTo m d k ++ if (stAt m k).1=4∧(mdepth m).getD k 0=d then [(k:Int)] else []
noncomputable def mulsAt (m:AM) (d:Int):List Int:=mulsTo m d (mdepth m).length
theorem VO (m:AM) (d:Int):∀k,(mulsTo m d k).length≤k
 | 0=>by simp [mulsTo]
 | k+1=>by
  have:=VO m d k;rw [mulsTo,List.length_append]
  split <;> simp <;> omega
theorem VP (m:AM) (d:Int):(mulsAt m d).length≤60:=Nat.le_trans (VO m d _) (WL m)
theorem Wa {m:AM} (h:AOk m):(mdepth m).length=m.st.length:=by rw [XW h,XF]
theorem mdepth_le (m:AM):(mdepth m).length≤m.st.length:=by
 by_cases h:AOk m
 ·rw [Wa h];exact Nat.le_refl _
 ·rw [WJ h];simp
set_option maxRecDepth 100000 in
set_option maxHeartbeats 2000000 in
theorem specMulsAt_c (m:AM) (d:Int) (v:Value) (w:World) (h:AggR w (carith m) v) (wf:m.wf) :
  Calls Tryz.prog 44 #[v,.int .i64 d] w (RowI (mulsAt m d) w):=by
 have HV:=zH h;obtain ⟨u1,u2,rfl,h1,h2⟩:=Zt h;obtain ⟨A,c,rfl,hc,hm,hF⟩:=ZP (s:=3) (fun _=>rfl) (by omega) h1;have HF:=zH hF;have HW:=zH wf;unfold maxLen at hm;have hle:=mdepth_le m;clear h h1 h2 wf hF;have B1:=zH (Blk.new w 38 #[.int .i64 m.p,.slice A m.st.length c,u2]);have B2:=zH (B1.out.grow (gbA (gbR _ none) (.cells #[] 3)));have G2:=zH (gbA (gbA (gbR w none) (.cells #[.int .i64 m.p,.slice A m.st.length c,u2] 38)) (.cells #[] 3))
 have O2:Hid (((w.alloc (.cells #[.int .i64 m.p,.slice A m.st.length c,u2] 38)).alloc (.cells #[] 3)).ownsRow (w.heap.size+1) 3 1 (.slice (some ⟨w.heap.size+1,0,none⟩) 0 0) 0 []):=by
  have:=World.ownsRow_made (e:=3) (size:=1) (base:=w.heap.size+1) (w.alloc (.cells #[.int .i64 m.p,.slice A m.st.length c,u2] 38)) #[] 0 B1.out.lt (by simp) rfl
  simpa [Hid] using this
 clear B1
 go_enter Tryz.func44,Tryz.ntmps44
 go_wp2_with fail;refine (VV m _ _ (AggR.grow HV.out G2.out) HW.out).mono ?_;rintro e w1 ⟨V,rfl,o1,g⟩;have G3:=zH (gbT G2.out g);have B3:=zH (B2.out.grow g);have O3:=zH (Zj O2.out g);obtain ⟨S,sc,rfl,hSl,hml⟩:=ZB o1;have I3:=zH (show Ints w1 S (mdepth m).length (mdepth m) from Rd.ofOwn o1)
 have D3:Hid (∀g,(Value.slice (some ⟨w.heap.size+1,0,none⟩) 0 0).ownBlock=some g→∀a,S=some a→a.block≠g):=by
  intro g hg a ha e;have:=(hSl a ha).2.2.1;simp [Value.ownBlock] at hg this;omega
 have h60:=WL m;obtain ⟨l,hl⟩:∃l,mdepth m=l:=⟨_,rfl⟩;have HL:=zH hl;rw [hl] at I3 hml h60 hle ⊢;obtain ⟨n,hn⟩:∃n,l.length=n:=⟨_,rfl⟩;have HN:=zH hn;rw [hn] at I3 hml h60 hle ⊢;clear g o1 hSl hl hn B2 O2 G2;go_wp2_with fail;have hml2:=hml;unfold maxLen at hml2
 go_loopw [5,7] (fun s i wr=>∃k:Nat,k≤n∧i=.int .i64 k∧Hid (wr.ownsRow (w.heap.size+1) 3 1 s (mulsTo m d k).length ((mulsTo m d k).map (Value.int .i64)))∧Hid (Blk wr w.heap.size 38 #[.int .i64 m.p,.slice A m.st.length c,u2])∧Hid (w.grownBy wr none)∧Hid (Ints wr S n l)∧Hid (∀g,s.ownBlock=some g→∀a,S=some a→a.block≠g)) (fun _ i _=>n - (intOf i).toNat)
 case atStart=>exact ⟨0,Nat.zero_le _,rfl,O3.out,B3.out,G3.out,I3.out,D3.out⟩
 case round =>
  clear O3 B3 G3 I3 D3;obtain ⟨k,hk,rfl,hown,hB,hG,hI,hD⟩:=hrel;have c1:=hB.out.cell 1;simp at c1
  by_cases hlt:k<n
  ·obtain ⟨bb,ob,e1,hbb,r1⟩:=Ints.cell hI.out hlt
   subst e1;obtain ⟨b,o,x,y,z,rfl,hb,hx,q0,q1,q2⟩:=YI (FL.grow HF.out hG.out) (Nat.lt_of_lt_of_le hlt hle);have i1:(k:Int)<(n:Int):=by omega
   have i2:(k:Int)<(m.st.length:Int):=by omega
   have hx':stAt m k=(x,y,z):=by simp [stAt,zF,hx]
   have HDS:Hid (mulsTo m d (k+1)=mulsTo m d k ++ if x=4∧l.getD k 0=d then [(k:Int)] else []):=by unfold Hid;rw [mulsTo,hx',HL.out]
   clear hx hx';generalize l.getD k 0=e at *;have hmk:=VO m d k;generalize hM:mulsTo m d k=M at *;generalize hM1:mulsTo m d (k+1)=M1 at *;have HM1:=zH hM1;clear hM hM1
   cases h4:x == 4
   ·have HDS':Hid (M1=M):=by unfold Hid;rw [HDS.out,if_neg (fun h=>by simp [h.1] at h4)];simp
    clear HDS;go_wp2_with fail
    go_roundw
    case rel=>exact ⟨k+1,by omega,by go_num,by rw [HM1.out,HDS'.out];exact hown.out,hB.out,hG.out,hI.out,hD.out⟩
    case measure=>simp [intOf];omega
   ·cases h5:e == d
    ·have HDS':Hid (M1=M):=by unfold Hid;rw [HDS.out,if_neg (fun h=>by simp [h.2] at h5)];simp
     clear HDS;go_wp2_with fail
     go_roundw
     case rel=>exact ⟨k+1,by omega,by go_num,by rw [HM1.out,HDS'.out];exact hown.out,hB.out,hG.out,hI.out,hD.out⟩
     case measure=>simp [intOf];omega
    ·have HDS':Hid (M1=M ++ [(k:Int)]):=by unfold Hid;rw [HDS.out,if_pos (by simp at h4 h5;exact ⟨h4,h5⟩)]
     clear HDS;have hbs:=hB.out.lt;have hsb:=bb
     go_wp2_with (at_builtin;refine UZ _ wr.heap.size rfl ZZ rfl (.tmp 32) (.tmp 34) rfl _ rfl (by simp [Value.oneCell']) (w.heap.size+1) _ _ _ hown.out rfl rfl (by unfold maxLen;omega) (by omega) (by omega) ?_;intro v' w5 hown5 hgrow5 hnew5)
     have h1:Hid (w5.ownsRow (w.heap.size+1) 3 1 v' M1.length (M1.map (Value.int .i64))):=by unfold Hid;rw [HDS'.out];simpa using hown5
     have h2:=zH (hB.out.grown hgrow5 (fun e=>by have:=(hown.out.lt _ e.symm).1;omega));have h3:=zH (gbN hG.out hgrow5 fun g e=>by have:=(hown.out.lt g e).1;omega);have h4':=zH (hI.out.grown hgrow5 (by rintro a ha e;exact hD.out _ e.symm a ha rfl))
     have h5':Hid (∀g,v'.ownBlock=some g→∀a,some (⟨bb,ob,none⟩:Addr)=some a→a.block≠g):=by
      intro g hg a ha e
      rcases hnew5 g hg with h6 | h6
      ·exact hD.out g h6.symm a ha e
      ·injection ha with ha;subst ha;simp at e;omega
     clear hown5 hgrow5 hnew5 hown hB hG hI hD;go_wp2_with fail
     go_roundw
     case rel=>exact ⟨k+1,by omega,by go_num,by rw [HM1.out];exact h1.out,h2.out,h3.out,h4'.out,h5'.out⟩
     case measure=>simp [intOf];omega
  ·have hkn:k=n:=by omega
   subst hkn;go_wp2_with fail;go_ret;have hR:mulsAt m d=mulsTo m d k:=by unfold mulsAt;rw [HL.out,HN.out]
   exact ⟨_,rfl,by rw [hR];exact ZE hown.out (by omega),hG.out⟩
set_option maxRecDepth 100000 in
set_option maxHeartbeats 2000000 in
theorem implMulsAt_yes (m:AM) (d:Int) (v:Value) (w:World) (h:AggR w (carith m) v) (wf:m.wf) (hok:AOk m) :
  Calls Tryz.prog 54 #[v,.int .i64 d] w (RowI (mulsAt m d) w):=by
 have HV:=zH h;obtain ⟨u1,u2,rfl,h1,h2⟩:=Zt h;obtain ⟨A,c,rfl,hc,hm,hF⟩:=ZP (s:=3) (fun _=>rfl) (by omega) h1;have HF:=zH hF;have HW:=zH wf;have HOK:=zH hok;unfold maxLen at hm;have hle:=mdepth_le m;clear h h1 h2 wf hF hok;have B1:=zH (Blk.new w 38 #[.int .i64 m.p,.slice A m.st.length c,u2]);have G1:=zH (gbA (gbR w none) (.cells #[.int .i64 m.p,.slice A m.st.length c,u2] 38))
 go_enter Tryz.func54,Tryz.ntmps54
 go_wp2_with fail;refine (ZU m _ _ (AggR.grow HV.out G1.out) HW.out).mono ?_;rintro e w0 ⟨rfl,g⟩;rw [Yq HOK.out];have B1':=zH (B1.out.grow g);have G1':=zH (gbT G1.out g);have hb0:=B1'.out.lt;have k0:=B1'.out.cell 0;have k1:=B1'.out.cell 1;have k2:=B1'.out.cell 2;simp at k0 k1 k2;have k0':=kA k0 (.cells #[] 3);have k1':=kA k1 (.cells #[] 3);have k2':=kA k2 (.cells #[] 3);have B2:=zH (B1'.out.grow (gbA (gbR _ none) (.cells #[] 3)));have G2:=zH (gbA G1'.out (.cells #[] 3));have O2:=zH (World.ownsRow_made (e:=3) (size:=1) (base:=w.heap.size+1) w0 #[] 0 hb0 (by simp) rfl);clear B1 G1 B1' G1' g;go_wp2_with fail;clear k0 k1 k2 k0' k1' k2';refine (VU m _ _ (AggR.grow HV.out G2.out) HW.out).mono ?_;rintro e w1 ⟨V,rfl,o1,g⟩;have G3:=zH (gbT G2.out g);have B3:=zH (B2.out.grow g);have O3:=zH (Zj O2.out g);obtain ⟨S,sc,rfl,hSl,hml⟩:=ZB o1;have I3:=zH (show Ints w1 S (mdepth m).length (mdepth m) from Rd.ofOwn o1)
 have D3:Hid (∀g,(Value.slice (some ⟨w0.heap.size,0,none⟩) 0 0).ownBlock=some g→∀a,S=some a→a.block≠g):=by
  intro g hg a ha e;have:=(hSl a ha).2.2.1;simp [Value.ownBlock] at hg this;omega
 have h60:=WL m;obtain ⟨l,hl⟩:∃l,mdepth m=l:=⟨_,rfl⟩;have HL:=zH hl;rw [hl] at I3 hml h60 hle ⊢;obtain ⟨n,hn⟩:∃n,l.length=n:=⟨_,rfl⟩;have HN:=zH hn;rw [hn] at I3 hml h60 hle ⊢;clear g o1 hSl hl hn B2 O2 G2;go_wp2_with fail;have hml2:=hml;unfold maxLen at hml2
 go_loopw [5,15] (fun s i wr=>∃k:Nat,k≤n∧i=.int .i64 k∧Hid (wr.ownsRow (w.heap.size+1) 3 1 s (mulsTo m d k).length ((mulsTo m d k).map (Value.int .i64)))∧Hid (Blk wr w.heap.size 38 #[.int .i64 m.p,.slice A m.st.length c,u2])∧Hid (w.grownBy wr none)∧Hid (Ints wr S n l)∧Hid (∀g,s.ownBlock=some g→∀a,S=some a→a.block≠g)) (fun _ i _=>n - (intOf i).toNat)
 case atStart=>exact ⟨0,Nat.zero_le _,rfl,O3.out,B3.out,G3.out,I3.out,D3.out⟩
 case round =>
  clear O3 B3 G3 I3 D3;obtain ⟨k,hk,rfl,hown,hB,hG,hI,hD⟩:=hrel;have c1:=hB.out.cell 1;simp at c1
  by_cases hlt:k<n
  ·obtain ⟨bb,ob,e1,hbb,r1⟩:=Ints.cell hI.out hlt
   subst e1;obtain ⟨b,o,x,y,z,rfl,hb,hx,q0,q1,q2⟩:=YI (FL.grow HF.out hG.out) (Nat.lt_of_lt_of_le hlt hle);have i1:(k:Int)<(n:Int):=by omega
   have i2:(k:Int)<(m.st.length:Int):=by omega
   have hx':stAt m k=(x,y,z):=by simp [stAt,zF,hx]
   have HDS:Hid (mulsTo m d (k+1)=mulsTo m d k ++ if x=4∧l.getD k 0=d then [(k:Int)] else []):=by unfold Hid;rw [mulsTo,hx',HL.out]
   clear hx hx';generalize l.getD k 0=e at *;have hmk:=VO m d k;generalize hM:mulsTo m d k=M at *;generalize hM1:mulsTo m d (k+1)=M1 at *;have HM1:=zH hM1;clear hM hM1
   cases h4:x == 4
   ·have HDS':Hid (M1=M):=by unfold Hid;rw [HDS.out,if_neg (fun h=>by simp [h.1] at h4)];simp
    clear HDS;go_wp2_with fail
    go_roundw
    case rel=>exact ⟨k+1,by omega,by go_num,by rw [HM1.out,HDS'.out];exact hown.out,hB.out,hG.out,hI.out,hD.out⟩
    case measure=>simp [intOf];omega
   ·cases h5:e == d
    ·have HDS':Hid (M1=M):=by unfold Hid;rw [HDS.out,if_neg (fun h=>by simp [h.2] at h5)];simp
     clear HDS;go_wp2_with fail
     go_roundw
     case rel=>exact ⟨k+1,by omega,by go_num,by rw [HM1.out,HDS'.out];exact hown.out,hB.out,hG.out,hI.out,hD.out⟩
     case measure=>simp [intOf];omega
    ·have HDS':Hid (M1=M ++ [(k:Int)]):=by unfold Hid;rw [HDS.out,if_pos (by simp at h4 h5;exact ⟨h4,h5⟩)]
     clear HDS;have hbs:=hB.out.lt;have hsb:=bb
     go_wp2_with (at_builtin;refine UZ _ wr.heap.size rfl ZZ rfl (.tmp 32) (.tmp 34) rfl _ rfl (by simp [Value.oneCell']) (w.heap.size+1) _ _ _ hown.out rfl rfl (by unfold maxLen;omega) (by omega) (by omega) ?_;intro v' w5 hown5 hgrow5 hnew5)
     have h1:Hid (w5.ownsRow (w.heap.size+1) 3 1 v' M1.length (M1.map (Value.int .i64))):=by unfold Hid;rw [HDS'.out];simpa using hown5
     have h2:=zH (hB.out.grown hgrow5 (fun e=>by have:=(hown.out.lt _ e.symm).1;omega));have h3:=zH (gbN hG.out hgrow5 fun g e=>by have:=(hown.out.lt g e).1;omega);have h4':=zH (hI.out.grown hgrow5 (by rintro a ha e;exact hD.out _ e.symm a ha rfl))
     have h5':Hid (∀g,v'.ownBlock=some g→∀a,some (⟨bb,ob,none⟩:Addr)=some a→a.block≠g):=by
      intro g hg a ha e
      rcases hnew5 g hg with h6 | h6
      ·exact hD.out g h6.symm a ha e
      ·injection ha with ha;subst ha;simp at e;omega
     clear hown5 hgrow5 hnew5 hown hB hG hI hD;go_wp2_with fail
     go_roundw
     case rel=>exact ⟨k+1,by omega,by go_num,by rw [HM1.out];exact h1.out,h2.out,h3.out,h4'.out,h5'.out⟩
     case measure=>simp [intOf];omega
  ·have hkn:k=n:=by omega
   subst hkn;go_wp2_with fail;go_ret;have hR:mulsAt m d=mulsTo m d k:=by unfold mulsAt;rw [HL.out,HN.out]
   exact ⟨_,rfl,by rw [hR];exact ZE hown.out (by omega),hG.out⟩
theorem implMulsAt_no (m:AM) (d:Int) (v:Value) (w:World) (h:AggR w (carith m) v) (wf:m.wf) (hok:¬AOk m) :
  Calls Tryz.prog 54 #[v,.int .i64 d] w (RowI (mulsAt m d) w):=by
 have HV:=zH h;obtain ⟨u1,u2,rfl,h1,h2⟩:=Zt h;have HOK:=zH hok;have HW:=zH wf;clear h h1 h2 wf hok
 go_enter Tryz.func54,Tryz.ntmps54
 go_wp2_with fail;refine (ZU m _ _ (AggR.grow HV.out (gbA (gbR w none) _)) HW.out).mono ?_;rintro e w1 ⟨rfl,g⟩;rw [Yy HOK.out];have G:=zH (gbT (gbA (gbR w none) _) g);clear g;go_wp2_with fail;go_ret;have hR:mulsAt m d=[]:=by unfold mulsAt;rw [WJ HOK.out];rfl
 exact ⟨_,rfl,by rw [hR];exact World.ownsRow_nil _ _ _ _,G.out⟩
theorem QB (m:AM) (d:Int) (v:Value) (w:World) (h:AggR w (carith m) v) (wf:m.wf) :
  Calls Tryz.prog 54 #[v,.int .i64 d] w (RowI (mulsAt m d) w):=by
 by_cases hok:AOk m
 ·exact implMulsAt_yes m d v w h wf hok
 ·exact implMulsAt_no m d v w h wf hok
theorem XG (m:AM):∀(k j:Nat),j<k→(depsS m k).getD j 0=depD (depsS m j) (stAt m j)
 | 0,j,h=>by omega
 | k+1,j,h=>by
  rw [depsS,zF]
  by_cases e:j<k
  ·rw [List.getElem?_append_left (by rw [XF];omega),← zF]
   exact XG m k j e
  ·obtain rfl:j=k:=by omega
   rw [List.getElem?_append_right (by rw [XF];omega),XF];simp
theorem XH (m:AM) {k j i:Nat} (h1:i<j) (h2:j≤k):(depsS m j).getD i 0=(depsS m k).getD i 0:=by
 rw [XG m j i h1,XG m k i (by omega)]
def depAt (m:AM) (j:Nat):Int:=(depsS m m.st.length).getD j 0
theorem maxTo_ge:∀(l:List Int) (k j:Nat),j<k→l.getD j 0≤maxTo l k
 | l,0,j,h=>by omega
 | l,k+1,j,h=>by
  rw [maxTo]
  by_cases e:j<k
  ·have:=maxTo_ge l k j e
   omega
  ·obtain rfl:j=k:=by omega
   omega
theorem maxTo_is:∀(l:List Int) (k:Nat),maxTo l k=0∨∃j,j<k∧l.getD j 0=maxTo l k
 | l,0=>.inl rfl
 | l,k+1=>by
  rw [maxTo]
  rcases maxTo_is l k with h | ⟨j,hj,h⟩
  ·by_cases e:maxTo l k<l.getD k 0
   ·exact .inr ⟨k,by omega,by omega⟩
   ·exact .inl (by omega)
  ·by_cases e:maxTo l k<l.getD k 0
   ·exact .inr ⟨k,by omega,by omega⟩
   ·exact .inr ⟨j,by omega,by omega⟩
theorem dep_cases {m:AM} (h:AOk m) {j:Nat} (hj:j<m.st.length):depAt m j=0∨(∃i,i<j∧depAt m i=depAt m j)∨((stAt m j).1=4∧∃i,i<j∧depAt m j=depAt m i+1):=by
 unfold depAt;rw [XG m _ j hj];unfold depD
 by_cases h3:(stAt m j).1=3
 ·obtain ⟨a,b,ha,hb,hal,hbl⟩:=XB h hj (x:=(stAt m j).1) (y:=(stAt m j).2.1) (z:=(stAt m j).2.2) rfl (.inl h3)
  rw [if_pos h3,ha,hb];simp only [Int.toNat_natCast];rw [XH m hal (Nat.le_of_lt hj),XH m hbl (Nat.le_of_lt hj)]
  rcases Int.le_total ((depsS m m.st.length).getD a 0) ((depsS m m.st.length).getD b 0) with e | e
  ·exact .inr (.inl ⟨b,hbl,by omega⟩)
  ·exact .inr (.inl ⟨a,hal,by omega⟩)
 ·by_cases h4:(stAt m j).1=4
  ·obtain ⟨a,b,ha,hb,hal,hbl⟩:=XB h hj (x:=(stAt m j).1) (y:=(stAt m j).2.1) (z:=(stAt m j).2.2) rfl (.inr h4)
   rw [if_neg h3,if_pos h4,ha,hb];simp only [Int.toNat_natCast];rw [XH m hal (Nat.le_of_lt hj),XH m hbl (Nat.le_of_lt hj)]
   rcases Int.le_total ((depsS m m.st.length).getD a 0) ((depsS m m.st.length).getD b 0) with e | e
   ·exact .inr (.inr ⟨h4,b,hbl,by omega⟩)
   ·exact .inr (.inr ⟨h4,a,hal,by omega⟩)
  ·rw [if_neg h3,if_neg h4]
   exact .inl rfl
theorem has_mul {m:AM} (h:AOk m):∀(k j:Nat),j<k→j<m.st.length→∀d:Int,1≤d→d≤depAt m j→∃i,i<m.st.length∧(stAt m i).1=4∧depAt m i=d
 | 0,j,hk,_,_,_,_=>by omega
 | k+1,j,hk,hj,d,h1,h2=>by
  rcases dep_cases h hj with e | ⟨i,hi,e⟩ | ⟨h4,i,hi,e⟩
  ·omega
  ·exact has_mul h k i (by omega) (by omega) d h1 (by omega)
  ·by_cases hd:d=depAt m j
   ·exact ⟨j,hj,h4,hd.symm⟩
   ·exact has_mul h k i (by omega) (by omega) d h1 (by omega)
theorem mulsTo_mem {m:AM} {d:Int}:∀{k i:Nat},i<k→(stAt m i).1=4→(mdepth m).getD i 0=d→0<(mulsTo m d k).length
 | 0,i,h,_,_=>by omega
 | k+1,i,h,h4,hd=>by
  rw [mulsTo,List.length_append]
  by_cases e:i<k
  ·have:=mulsTo_mem e h4 hd
   omega
  ·obtain rfl:i=k:=by omega
   rw [if_pos ⟨h4,hd⟩];simp
theorem VQ {m:AM} (h:AOk m) (j:Nat):(mdepth m).getD j 0=depAt m j:=by rw [XW h];rfl
theorem mulsAt_pos {m:AM} (h:AOk m) {d:Int} (h1:1≤d) (h2:d≤rounds m):0<(mulsAt m d).length:=by
 have hr:∃j,j<m.st.length∧d≤depAt m j:=by
  unfold rounds at h2
  rcases maxTo_is (mdepth m) (mdepth m).length with e | ⟨j,hj,e⟩
  ·omega
  ·exact ⟨j,by rw [← Wa h];exact hj,by rw [← VQ h,e];exact h2⟩
 obtain ⟨j,hj,hd⟩:=hr;obtain ⟨i,hi,h4,e⟩:=has_mul h (j+1) j (by omega) hj d h1 hd;exact mulsTo_mem (by rw [Wa h];exact hi) h4 (by rw [VQ h,e])
theorem mul_dep {m:AM} (h:AOk m) {j:Nat} (hj:j<m.st.length) (h4:(stAt m j).1=4):1≤depAt m j∧depAt m j≤rounds m:=by
 constructor
 ·unfold depAt
  rw [XG m _ j hj];unfold depD;have h3:¬(stAt m j).1=3:=by omega
  rw [if_neg h3,if_pos h4];have:=(Wt m j (stAt m j).2.1.toNat).1;omega
 ·unfold rounds
  rw [← VQ h];exact maxTo_ge _ _ _ (by rw [Wa h];exact hj)
noncomputable def totTo (m:AM) (k:Nat):Nat→Nat
 | 0=>0
 | r+1=>totTo m k r+(mulsTo m ((r:Int)+1) k).length
theorem totTo_zero (m:AM):∀r,totTo m 0 r=0
 | 0=>rfl
 | r+1=>by rw [totTo,totTo_zero m r];rfl
theorem totTo_succ (m:AM) (k:Nat):∀r:Nat,totTo m (k+1) r=totTo m k r+if (stAt m k).1=4∧1≤(mdepth m).getD k 0∧(mdepth m).getD k 0≤r then 1 else 0
 | 0=>by
  have:¬((stAt m k).1=4∧1≤(mdepth m).getD k 0∧(mdepth m).getD k 0≤((0:Nat):Int)):=by omega
  rw [if_neg this];rfl
 | r+1=>by
  have hl:(if (stAt m k).1=4∧(mdepth m).getD k 0=(r:Int)+1 then [(k:Int)] else []).length=if (stAt m k).1=4∧(mdepth m).getD k 0=(r:Int)+1 then 1 else 0:=by split <;> rfl
  rw [totTo,totTo,totTo_succ m k r,mulsTo,List.length_append,hl];generalize (mdepth m).getD k 0=D;rw [show (((r+1:Nat)):Int)=(r:Int)+1 from rfl]
  split <;> split <;> split <;> omega
theorem totTo_all {m:AM} (h:AOk m) {r:Nat} (hr:rounds m=r):∀k,k≤m.st.length→totTo m k r=muls m.st k
 | 0,_=>by rw [totTo_zero,muls_zero]
 | k+1,hk=>by
  have hlt:k<m.st.length:=hk;have hx:m.st[k]?=some (stAt m k):=by unfold stAt;rw [zF,List.getElem?_eq_getElem hlt];rfl
  rw [totTo_succ,totTo_all h hr k (by omega),muls_succ _ _ _ hx]
  congr 1
  by_cases h4:(stAt m k).1=4
  ·have:=mul_dep h hlt h4
   rw [VQ h,if_pos (by omega)];simp [h4]
  ·rw [if_neg (by omega)]
   simp [h4]
theorem tot_is {m:AM} (h:AOk m) {r:Nat} (hr:rounds m=r):totTo m (mdepth m).length r=muls m.st m.st.length:=by
 rw [Wa h];exact totTo_all h hr _ (Nat.le_refl _)
theorem totTo_next (m:AM) (r:Nat):totTo m (mdepth m).length (r+1)=totTo m (mdepth m).length r+(mulsAt m ((r:Int)+1)).length:=rfl
theorem totTo_le (m:AM) {r s:Nat} (h:r≤s):totTo m (mdepth m).length r≤totTo m (mdepth m).length s:=by
 induction s with
 | zero =>
  have:r=0:=by omega
  subst this;exact Nat.le_refl _
 | succ s ih =>
  by_cases e:r=s+1
  ·subst e;exact Nat.le_refl _
  ·have:=ih (by omega)
   rw [totTo_next];omega
structure EM where
 k:KM
 c:AM
 vs:List AuM
 op:List Int
 rd:Int
 bad:Bool
def getA (vs:List AuM) (i:Nat):AuM:=vs.getD i noA
theorem Ke (vs:List AuM) (i j:Nat) (x:AuM):getA (vs.set i x) j=if i=j∧i<vs.length then x else getA vs j:=by
 unfold getA;rw [zF,zF,List.getElem?_set]
 by_cases e:i=j
 ·subst e
  by_cases h:i<vs.length
  ·simp [h]
  ·simp [h]
 ·simp [e]
theorem getA_out {vs:List AuM} {i:Nat} (h:vs.length≤i):getA vs i=noA:=by
 unfold getA;rw [zF,List.getElem?_eq_none h];rfl
theorem zero_no:zeroA noA=true:=rfl
def okV (k:KM) (v:AuM):Bool:=zeroA v||formB k v
theorem form_nz {k:KM} {v:AuM} (h:formB k v=true):zeroA v=false:=by
 obtain ⟨_,h1,_,_,_,_,h2,_⟩:=Yb h;unfold zeroA;have:¬v.sh.length=0:=by omega
 simp [this]
theorem okV_sh {k:KM} {v:AuM} (h:okV k v=true):decide (v.sh.length=0)=zeroA v:=by
 unfold okV at h
 cases hz:zeroA v
 ·rw [hz,Bool.false_or] at h
  obtain ⟨_,h1,_,_,_,_,h2,_⟩:=Yb h;have:¬v.sh.length=0:=by omega
  simp [this]
 ·unfold zeroA at hz
  rw [Bool.and_eq_true] at hz;exact hz.1
def addOk (c:AM) (vs:List AuM) (i:Nat):Bool:=((stAt c i).1 == 3)&&zeroA (getA vs i)&&!zeroA (getA vs (stAt c i).2.1.toNat)&&!zeroA (getA vs (stAt c i).2.2.toNat)
def Yo (k:KM) (c:AM) (vs:List AuM) (i:Nat):List AuM :=
 if addOk c vs i then vs.set i (ZD k (getA vs (stAt c i).2.1.toNat) (getA vs (stAt c i).2.2.toNat)) else vs
def addsTo (k:KM) (c:AM) (vs:List AuM):Nat→List AuM
 | 0=>vs
 | i+1=>Yo k c (addsTo k c vs i) i
theorem addStep_len (k:KM) (c:AM) (vs:List AuM) (i:Nat):(Yo k c vs i).length=vs.length:=by
 unfold Yo
 split
 ·rw [List.length_set]
 ·rfl
theorem WS (k:KM) (c:AM) (vs:List AuM):∀i,(addsTo k c vs i).length=vs.length
 | 0=>rfl
 | i+1=>by rw [addsTo,addStep_len,WS]
theorem KU {vs:List AuM} (h:∀a∈vs,awf a) (i:Nat):awf (getA vs i):=by
 unfold getA;rw [zF]
 cases hi:vs[i]? with
 | none=>exact Jr
 | some a=>exact h a (List.mem_of_getElem? hi)
theorem UL {k:KM} {c:AM} {vs:List AuM} (h:∀a∈vs,awf a):∀i,∀a∈addsTo k c vs i,awf a
 | 0=>h
 | i+1=>by
  have ih:=UL (k:=k) (c:=c) h i;intro a ha;rw [addsTo,Yo] at ha
  split at ha
  ·rcases List.mem_or_eq_of_mem_set ha with h1 | h1
   ·exact ih a h1
   ·rw [h1];exact Xn (KU ih _)
  ·exact ih a ha
def initV (k:KM) (c:AM) (P s:Nat) (ins:List Int) (i:Nat):AuM :=
 if (stAt c i).1=1 then ZL k P (keyN s 9 i) 0 (ins.getD (stAt c i).2.1.toNat 0) else if (stAt c i).1=2 then ZH k (zerosA k.al.length) (stAt c i).2.1 else noA
def initL (k:KM) (c:AM) (P s:Nat) (ins:List Int):List AuM:=(List.range c.st.length).map (initV k c P s ins)
theorem Xp (k:KM) (c:AM) (P s:Nat) (ins:List Int):(initL k c P s ins).length=c.st.length:=by simp [initL]
theorem UM (k:KM) (c:AM) (P s:Nat) (ins:List Int) {i:Nat} (h:i<c.st.length):getA (initL k c P s ins) i=initV k c P s ins i:=by
 unfold getA initL;rw [zF,List.getElem?_map,List.getElem?_range h];rfl
def engNew (k:KM) (c:AM) (P s:Nat) (ins:List Int):EM:=⟨k,c,addsTo k c (initL k c P s ins) c.st.length,[],0,false⟩
noncomputable def engOkB (e:EM):Bool:=keysB e.k&&arithB e.c&&(e.k.p == e.c.p)&&decide (e.vs.length=e.c.st.length)&&inQ e.rd 0 60&&e.vs.all (okV e.k)
def errAt (es:List Int) (i:Nat):Int:=es.getD i 0
def tr0:TrM:=⟨noA,noA,noA⟩
def trAt (ts:List TrM) (j:Nat):TrM:=ts.getD j tr0
def opA (e:EM) (i:Nat):AuM:=getA e.vs (stAt e.c i).2.1.toNat
def opB (e:EM) (i:Nat):AuM:=getA e.vs (stAt e.c i).2.2.toNat
def rD (e:EM) (x:TrM) (er:Int) (i:Nat):Int:=(openD e.k (opA e i) (opB e i) x+er) % e.k.p
def rE (e:EM) (x:TrM) (er:Int) (i:Nat):Int:=(openE e.k (opA e i) (opB e i) x+er) % e.k.p
def rBad (e:EM) (x:TrM) (D E:Int) (i:Nat):Bool:=!Ye e.k D (minusA e.k (opA e i) x.a)||!Ye e.k E (minusA e.k (opB e i) x.b)
def mulStep (e:EM) (x:TrM) (D E:Int) (i:Nat) (f:EM):EM :=
 { f with vs:=f.vs.set i (ZJ e.k x D E),op:=f.op ++ [D,E],bad:=f.bad||rBad e x D E i }
def Zl (e:EM) (ts:List TrM) (es:List Int) (ss:List Int):Nat→EM
 | 0=>e
 | j+1=>mulStep e (trAt ts j) (rD e (trAt ts j) (errAt es (2*j)) (ss.getD j 0).toNat) (rE e (trAt ts j) (errAt es (2*j+1)) (ss.getD j 0).toNat) (ss.getD j 0).toNat (Zl e ts es ss j)
def XC (e f:EM):EM:={ f with vs:=addsTo e.k e.c f.vs e.c.st.length,rd:=e.rd+1 }
noncomputable def mulsOf (e:EM):List Int:=mulsAt e.c (e.rd+1)
def tripOk (e:EM) (x:TrM) (i:Nat):Bool:=formB e.k x.a&&formB e.k x.b&&formB e.k x.c&&!zeroA (opA e i)&&!zeroA (opB e i)
noncomputable def mayB (e:EM) (ts:List TrM) (es:List Int):Bool :=
 engOkB e&&!e.bad&&decide (e.rd<rounds e.c)&&decide ((mulsOf e).length≤ts.length)&&elemsB e.k.p es&&(List.range (mulsOf e).length).all fun j=>tripOk e (trAt ts j) ((mulsOf e).getD j 0).toNat
noncomputable def Yt (e:EM) (ts:List TrM) (es:List Int):EM:=if mayB e ts es then XC e (Zl e ts es (mulsOf e) (mulsOf e).length) else e
theorem YC (e:EM) (ts:List TrM) (es ss:List Int):∀j,(Zl e ts es ss j).k=e.k∧(Zl e ts es ss j).c=e.c∧(Zl e ts es ss j).rd=e.rd∧(Zl e ts es ss j).vs.length=e.vs.length∧(Zl e ts es ss j).op.length=e.op.length+2*j
 | 0=>⟨rfl,rfl,rfl,rfl,rfl⟩
 | j+1=>by
  obtain ⟨h1,h2,h3,h4,h5⟩:=YC e ts es ss j;refine ⟨h1,h2,h3, ?_, ?_⟩
  ·show (List.set _ _ _).length=_
   rw [List.length_set];exact h4
  ·show (_ ++ [_,_]).length=_
   rw [List.length_append,h5];simp;omega
def out1 (e:EM) (i:Nat):Bool:=!zeroA (getA e.vs i)&&Ye e.k (fsum e.k.p (getA e.vs i).sh) (getA e.vs i)
noncomputable def outB (e:EM):Bool:=engOkB e&&!e.bad&&e.c.outs.all fun z=>out1 e z.toNat
noncomputable def outR (e:EM):List Int:=if outB e then e.c.outs.map fun z=>fsum e.k.p (getA e.vs z.toNat).sh else []
def trW (k:KM):Nat:=2+6*(k.al.length - 1)
noncomputable def totM (c:AM) (r:Nat):Nat:=totTo c (mdepth c).length r
noncomputable def nAt (c:AM) (r:Nat):Nat:=(mulsAt c ((r:Int)+1)).length
def trsN (k:KM) (P s a n:Nat):List TrM:=(List.range n).map fun i=>Ys k P s (a+i*trW k)
theorem XP (k:KM) (P s a n:Nat):(trsN k P s a n).length=n:=by simp [trsN]
theorem trsN_at {k:KM} {P s a n j:Nat} (h:j<n):trAt (trsN k P s a n) j=Ys k P s (a+j*trW k):=by
 unfold trAt trsN;rw [zF,List.getElem?_map,List.getElem?_range h];rfl
theorem trsN_succ (k:KM) (P s a n:Nat):trsN k P s a (n+1)=trsN k P s a n ++ [Ys k P s (a+n*trW k)]:=by
 unfold trsN;rw [List.range_succ,List.map_append];rfl
def errsN (es:List Int) (from_ n:Nat):List Int:=(es.drop from_).take n
theorem errsN_at {es:List Int} {a n j:Nat} (h:j<n):errAt (errsN es a n) j=errAt es (a+j):=by
 unfold errAt errsN;rw [zF,zF,List.getElem?_take,if_pos h,List.getElem?_drop]
theorem errsN_el {p:Int} {es:List Int} (h:elemsB p es=true) (a n:Nat):elemsB p (errsN es a n)=true:=by
 obtain ⟨hf,_,_,h1⟩:=ZI h;exact YZ hf fun z hz=>h1 z (List.mem_of_mem_drop (List.mem_of_mem_take hz))
noncomputable def engAt (k:KM) (c:AM) (P s1 s2:Nat) (ins es:List Int):Nat→EM
 | 0=>engNew k c P s1 ins
 | r+1=>Yt (engAt k c P s1 s2 ins es r) (trsN k P s2 (totM c r*trW k) (nAt c r)) (errsN es (2*totM c r) (2*nAt c r))
end Go.Proofs.YthaadgdeadbhkaaGreat
