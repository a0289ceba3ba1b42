/-
 RoundsOf,MulsAt,ArithCost,UsedErrors: reference and program.
-/
import Derived.Test.YthaadgdeadbhkaaGreatMgFnExactEngineRound21
open Go.RowKit
set_option linter.unusedVariables false
set_option linter.unusedSimpArgs false
namespace Go.Proofs.YthaadgdeadbhkaaGreat
def maxTo (l:List Int):Nat→Int
 | 0=>0
 | k+1=>max (maxTo l k) (l.getD k 0)
noncomputable def rounds (m:AM):Int:=maxTo (mdepth m) (mdepth m).length
theorem mdepth_bd (m:AM):∀d∈mdepth m,0≤d∧d≤60:=by
 by_cases h:AOk m
 ·rw [Xw h]
  intro d hd;have:=depsS_bd' m _ d hd;have:=h.few;omega
 ·rw [XQ h];simp
theorem maxTo_bd (m:AM):∀k,0≤maxTo (mdepth m) k∧maxTo (mdepth m) k≤60
 | 0=>by simp [maxTo]
 | k+1=>by
  have ih:=maxTo_bd m k
  have h:0≤(mdepth m).getD k 0∧(mdepth m).getD k 0≤60:=by
   rcases Nat.lt_or_ge k (mdepth m).length with hk | hk
   ·rw [getI _ _ hk];exact mdepth_bd m _ (List.getElem_mem hk)
   ·rw [zF,List.getElem?_eq_none hk];simp
  rw [maxTo];omega
set_option maxHeartbeats 1000000 in
theorem Xg (m:AM) (v:Value) (w:World) (h:AggR w (carith m) v) (wf:m.wf) :
  Calls Tryz.prog 43 #[v] w fun e w'=>e=.returned (.int .i64 (rounds m))∧w.grownBy w' none:=by
 have HV:=zH h;obtain ⟨u1,u2,rfl,h1,h2⟩:=ZA h;have HW:=zH wf;clear h h1 h2 wf
 go_enter Tryz.func43,Tryz.ntmps43
 go_wp2_with fail;refine (Va m _ _ (AggR.grow HV.out (gbA (gbR w none) _)) HW.out).mono ?_;rintro e w1 ⟨V,rfl,o1,g⟩;have G:=zH (gbT (gbA (gbR w none) _) g);obtain ⟨S,sc,rfl,_,hml⟩:=Ye o1;have HI:=zH (show Ints w1 S (mdepth m).length (mdepth m) from Rd.ofOwn o1);have HB:=zH (fun k=>maxTo_bd m k);have HR:Hid (rounds m=maxTo (mdepth m) (mdepth m).length):=rfl;have h60:=XR m;clear g o1;generalize mdepth m=l at *;generalize hln:l.length=n at *;clear hln;go_wp2_with fail
 go_loop [3,5] (fun s i=>∃k:Nat,k≤n∧i=.int .i64 k∧s=.int .i64 (maxTo l k)) (fun _ i=>n - (intOf i).toNat)
 case atStart=>exact ⟨0,Nat.zero_le _,rfl,rfl⟩
 case round =>
  obtain ⟨k,hk,rfl,rfl⟩:=hrel
  by_cases hlt:k<n
  ·obtain ⟨b,o,rfl,hb,q0⟩:=Ints.cell HI.out hlt
   have i1:(k:Int)<(n:Int):=by omega
   have HS:Hid (maxTo l (k+1)=max (maxTo l k) (l.getD k 0)):=rfl;generalize maxTo l k=a at *;generalize l.getD k 0=d at *;go_wp2_with fail
   go_round
   case rel=>exact ⟨k+1,by omega,by go_num,by rw [HS.out,← mxIs]⟩
   case measure=>simp [intOf];omega
  ·have hkn:k=n:=by omega
   subst hkn;go_wp2_with fail;go_ret;exact ⟨retI HR.out.symm,G.out⟩
set_option maxHeartbeats 1000000 in
theorem Xh (m:AM) (v:Value) (w:World) (h:AggR w (carith m) v) (wf:m.wf) :
  Calls Tryz.prog 53 #[v] w fun e w'=>e=.returned (.int .i64 (rounds m))∧w.grownBy w' none:=by
 have HV:=zH h;obtain ⟨u1,u2,rfl,h1,h2⟩:=ZA h;have HW:=zH wf;clear h h1 h2 wf
 go_enter Tryz.func53,Tryz.ntmps53
 go_wp2_with fail;refine (WZ m _ _ (AggR.grow HV.out (gbA (gbR w none) _)) HW.out).mono ?_;rintro e w1 ⟨V,rfl,o1,g⟩;have G:=zH (gbT (gbA (gbR w none) _) g);obtain ⟨S,sc,rfl,_,hml⟩:=Ye o1;have HI:=zH (show Ints w1 S (mdepth m).length (mdepth m) from Rd.ofOwn o1);have HB:=zH (fun k=>maxTo_bd m k);have HR:Hid (rounds m=maxTo (mdepth m) (mdepth m).length):=rfl;have h60:=XR m;clear g o1;generalize mdepth m=l at *;generalize hln:l.length=n at *;clear hln;go_wp2_with fail
 go_loop [3,9] (fun s i=>∃k:Nat,k≤n∧i=.int .i64 k∧s=.int .i64 (maxTo l k)) (fun _ i=>n - (intOf i).toNat)
 case atStart=>exact ⟨0,Nat.zero_le _,rfl,rfl⟩
 case round =>
  obtain ⟨k,hk,rfl,rfl⟩:=hrel
  by_cases hlt:k<n
  ·obtain ⟨b,o,rfl,hb,q0⟩:=Ints.cell HI.out hlt
   have i1:(k:Int)<(n:Int):=by omega
   have HS:Hid (maxTo l (k+1)=max (maxTo l k) (l.getD k 0)):=rfl;generalize maxTo l k=a at *;generalize l.getD k 0=d at *;go_wp2_with fail
   go_round
   case rel=>exact ⟨k+1,by omega,by go_num,by rw [HS.out,← mxIs]⟩
   case measure=>simp [intOf];omega
  ·have hkn:k=n:=by omega
   subst hkn;go_wp2_with fail;go_ret;exact ⟨retI HR.out.symm,G.out⟩
noncomputable def mulsTo (m:AM) (d:Int):Nat→List Int
 | 0=>[]
 | k+1=>mulsTo m d k ++ if (stAt m k).1=4∧(mdepth m).getD k 0=d then [(k:Int)] else []
noncomputable def mulsAt (m:AM) (d:Int):List Int:=mulsTo m d (mdepth m).length
theorem WL (m:AM) (d:Int):∀k,(mulsTo m d k).length≤k
 | 0=>by simp [mulsTo]
 | k+1=>by
  have:=WL m d k;rw [mulsTo,List.length_append]
  split <;> simp <;> omega
theorem WN (m:AM) (d:Int):(mulsAt m d).length≤60:=Nat.le_trans (WL m d _) (XR m)
theorem mdepth_len {m:AM} (h:AOk m):(mdepth m).length=m.st.length:=by rw [Xw h,Xj]
theorem mdepth_le (m:AM):(mdepth m).length≤m.st.length:=by
 by_cases h:AOk m
 ·rw [mdepth_len h];exact Nat.le_refl _
 ·rw [XQ h];simp
set_option maxRecDepth 100000 in
set_option maxHeartbeats 2000000 in
theorem specMulsAt_c (m:AM) (d:Int) (v:Value) (w:World) (h:AggR w (carith m) v) (wf:m.wf) :
  Calls Tryz.prog 44 #[v,.int .i64 d] w (RowI (mulsAt m d) w):=by
 have HV:=zH h;obtain ⟨u1,u2,rfl,h1,h2⟩:=ZA h;obtain ⟨A,c,rfl,hc,hm,hF⟩:=ZX (s:=3) (fun _=>rfl) (by omega) h1;have HF:=zH hF;have HW:=zH wf;unfold maxLen at hm;have hle:=mdepth_le m;clear h h1 h2 wf hF;have B1:=zH (Blk.new w 38 #[.int .i64 m.p,.slice A m.st.length c,u2]);have B2:=zH (B1.out.grow (gbA (gbR _ none) (.cells #[] 3)));have G2:=zH (gbA (gbA (gbR w none) (.cells #[.int .i64 m.p,.slice A m.st.length c,u2] 38)) (.cells #[] 3))
 have O2:Hid (((w.alloc (.cells #[.int .i64 m.p,.slice A m.st.length c,u2] 38)).alloc (.cells #[] 3)).ownsRow (w.heap.size+1) 3 1 (.slice (some ⟨w.heap.size+1,0,none⟩) 0 0) 0 []):=by
  have:=World.ownsRow_made (e:=3) (size:=1) (base:=w.heap.size+1) (w.alloc (.cells #[.int .i64 m.p,.slice A m.st.length c,u2] 38)) #[] 0 B1.out.lt (by simp) rfl
  simpa [Hid] using this
 clear B1
 go_enter Tryz.func44,Tryz.ntmps44
 go_wp2_with fail;refine (Va m _ _ (AggR.grow HV.out G2.out) HW.out).mono ?_;rintro e w1 ⟨V,rfl,o1,g⟩;have G3:=zH (gbT G2.out g);have B3:=zH (B2.out.grow g);have O3:=zH (Zu O2.out g);obtain ⟨S,sc,rfl,hSl,hml⟩:=Ye o1;have I3:=zH (show Ints w1 S (mdepth m).length (mdepth m) from Rd.ofOwn o1)
 have D3:Hid (∀g,(Value.slice (some ⟨w.heap.size+1,0,none⟩) 0 0).ownBlock=some g→∀a,S=some a→a.block≠g):=by
  intro g hg a ha e;have:=(hSl a ha).2.2.1;simp [Value.ownBlock] at hg this;omega
 have h60:=XR m;obtain ⟨l,hl⟩:∃l,mdepth m=l:=⟨_,rfl⟩;have HL:=zH hl;rw [hl] at I3 hml h60 hle ⊢;obtain ⟨n,hn⟩:∃n,l.length=n:=⟨_,rfl⟩;have HN:=zH hn;rw [hn] at I3 hml h60 hle ⊢;clear g o1 hSl hl hn B2 O2 G2;go_wp2_with fail;have hml2:=hml;unfold maxLen at hml2
 go_loopw [5,7] (fun s i wr=>∃k:Nat,k≤n∧i=.int .i64 k∧Hid (wr.ownsRow (w.heap.size+1) 3 1 s (mulsTo m d k).length ((mulsTo m d k).map (Value.int .i64)))∧Hid (Blk wr w.heap.size 38 #[.int .i64 m.p,.slice A m.st.length c,u2])∧Hid (w.grownBy wr none)∧Hid (Ints wr S n l)∧Hid (∀g,s.ownBlock=some g→∀a,S=some a→a.block≠g)) (fun _ i _=>n - (intOf i).toNat)
 case atStart=>exact ⟨0,Nat.zero_le _,rfl,O3.out,B3.out,G3.out,I3.out,D3.out⟩
 case round =>
  clear O3 B3 G3 I3 D3;obtain ⟨k,hk,rfl,hown,hB,hG,hI,hD⟩:=hrel;have c1:=hB.out.cell 1;simp at c1
  by_cases hlt:k<n
  ·obtain ⟨bb,ob,e1,hbb,r1⟩:=Ints.cell hI.out hlt
   subst e1;obtain ⟨b,o,x,y,z,rfl,hb,hx,q0,q1,q2⟩:=YM (FL.grow HF.out hG.out) (Nat.lt_of_lt_of_le hlt hle);have i1:(k:Int)<(n:Int):=by omega
   have i2:(k:Int)<(m.st.length:Int):=by omega
   have hx':stAt m k=(x,y,z):=by simp [stAt,zF,hx]
   have HDS:Hid (mulsTo m d (k+1)=mulsTo m d k ++ if x=4∧l.getD k 0=d then [(k:Int)] else []):=by unfold Hid;rw [mulsTo,hx',HL.out]
   clear hx hx';generalize l.getD k 0=e at *;have hmk:=WL m d k;generalize hM:mulsTo m d k=M at *;generalize hM1:mulsTo m d (k+1)=M1 at *;have HM1:=zH hM1;clear hM hM1
   cases h4:x == 4
   ·have HDS':Hid (M1=M):=by unfold Hid;rw [HDS.out,if_neg (fun h=>by simp [h.1] at h4)];simp
    clear HDS;go_wp2_with fail
    go_roundw
    case rel=>exact ⟨k+1,by omega,by go_num,by rw [HM1.out,HDS'.out];exact hown.out,hB.out,hG.out,hI.out,hD.out⟩
    case measure=>simp [intOf];omega
   ·cases h5:e == d
    ·have HDS':Hid (M1=M):=by unfold Hid;rw [HDS.out,if_neg (fun h=>by simp [h.2] at h5)];simp
     clear HDS;go_wp2_with fail
     go_roundw
     case rel=>exact ⟨k+1,by omega,by go_num,by rw [HM1.out,HDS'.out];exact hown.out,hB.out,hG.out,hI.out,hD.out⟩
     case measure=>simp [intOf];omega
    ·have HDS':Hid (M1=M ++ [(k:Int)]):=by unfold Hid;rw [HDS.out,if_pos (by simp at h4 h5;exact ⟨h4,h5⟩)]
     clear HDS;have hbs:=hB.out.lt;have hsb:=bb
     go_wp2_with (at_builtin;refine wp_appendB _ wr.heap.size rfl YF rfl (.tmp 32) (.tmp 34) rfl _ rfl (by simp [Value.oneCell']) (w.heap.size+1) _ _ _ hown.out rfl rfl (by unfold maxLen;omega) (by omega) (by omega) ?_;intro v' w5 hown5 hgrow5 hnew5)
     have h1:Hid (w5.ownsRow (w.heap.size+1) 3 1 v' M1.length (M1.map (Value.int .i64))):=by unfold Hid;rw [HDS'.out];simpa using hown5
     have h2:=zH (hB.out.grown hgrow5 (fun e=>by have:=(hown.out.lt _ e.symm).1;omega));have h3:=zH (gbN hG.out hgrow5 fun g e=>by have:=(hown.out.lt g e).1;omega);have h4':=zH (hI.out.grown hgrow5 (by rintro a ha e;exact hD.out _ e.symm a ha rfl))
     have h5':Hid (∀g,v'.ownBlock=some g→∀a,some (⟨bb,ob,none⟩:Addr)=some a→a.block≠g):=by
      intro g hg a ha e
      rcases hnew5 g hg with h6 | h6
      ·exact hD.out g h6.symm a ha e
      ·injection ha with ha;subst ha;simp at e;omega
     clear hown5 hgrow5 hnew5 hown hB hG hI hD;go_wp2_with fail
     go_roundw
     case rel=>exact ⟨k+1,by omega,by go_num,by rw [HM1.out];exact h1.out,h2.out,h3.out,h4'.out,h5'.out⟩
     case measure=>simp [intOf];omega
  ·have hkn:k=n:=by omega
   subst hkn;go_wp2_with fail;go_ret;have hR:mulsAt m d=mulsTo m d k:=by unfold mulsAt;rw [HL.out,HN.out]
   exact ⟨_,rfl,by rw [hR];exact ZQ hown.out (by omega),hG.out⟩
set_option maxRecDepth 100000 in
set_option maxHeartbeats 2000000 in
theorem implMulsAt_yes (m:AM) (d:Int) (v:Value) (w:World) (h:AggR w (carith m) v) (wf:m.wf) (hok:AOk m) :
  Calls Tryz.prog 54 #[v,.int .i64 d] w (RowI (mulsAt m d) w):=by
 have HV:=zH h;obtain ⟨u1,u2,rfl,h1,h2⟩:=ZA h;obtain ⟨A,c,rfl,hc,hm,hF⟩:=ZX (s:=3) (fun _=>rfl) (by omega) h1;have HF:=zH hF;have HW:=zH wf;have HOK:=zH hok;unfold maxLen at hm;have hle:=mdepth_le m;clear h h1 h2 wf hF hok;have B1:=zH (Blk.new w 38 #[.int .i64 m.p,.slice A m.st.length c,u2]);have G1:=zH (gbA (gbR w none) (.cells #[.int .i64 m.p,.slice A m.st.length c,u2] 38))
 go_enter Tryz.func54,Tryz.ntmps54
 go_wp2_with fail;refine (YW m _ _ (AggR.grow HV.out G1.out) HW.out).mono ?_;rintro e w0 ⟨rfl,g⟩;rw [XP HOK.out];have B1':=zH (B1.out.grow g);have G1':=zH (gbT G1.out g);have hb0:=B1'.out.lt;have k0:=B1'.out.cell 0;have k1:=B1'.out.cell 1;have k2:=B1'.out.cell 2;simp at k0 k1 k2;have k0':=kA k0 (.cells #[] 3);have k1':=kA k1 (.cells #[] 3);have k2':=kA k2 (.cells #[] 3);have B2:=zH (B1'.out.grow (gbA (gbR _ none) (.cells #[] 3)));have G2:=zH (gbA G1'.out (.cells #[] 3));have O2:=zH (World.ownsRow_made (e:=3) (size:=1) (base:=w.heap.size+1) w0 #[] 0 hb0 (by simp) rfl);clear B1 G1 B1' G1' g;go_wp2_with fail;clear k0 k1 k2 k0' k1' k2';refine (WZ m _ _ (AggR.grow HV.out G2.out) HW.out).mono ?_;rintro e w1 ⟨V,rfl,o1,g⟩;have G3:=zH (gbT G2.out g);have B3:=zH (B2.out.grow g);have O3:=zH (Zu O2.out g);obtain ⟨S,sc,rfl,hSl,hml⟩:=Ye o1;have I3:=zH (show Ints w1 S (mdepth m).length (mdepth m) from Rd.ofOwn o1)
 have D3:Hid (∀g,(Value.slice (some ⟨w0.heap.size,0,none⟩) 0 0).ownBlock=some g→∀a,S=some a→a.block≠g):=by
  intro g hg a ha e;have:=(hSl a ha).2.2.1;simp [Value.ownBlock] at hg this;omega
 have h60:=XR m;obtain ⟨l,hl⟩:∃l,mdepth m=l:=⟨_,rfl⟩;have HL:=zH hl;rw [hl] at I3 hml h60 hle ⊢;obtain ⟨n,hn⟩:∃n,l.length=n:=⟨_,rfl⟩;have HN:=zH hn;rw [hn] at I3 hml h60 hle ⊢;clear g o1 hSl hl hn B2 O2 G2;go_wp2_with fail;have hml2:=hml;unfold maxLen at hml2
 go_loopw [5,15] (fun s i wr=>∃k:Nat,k≤n∧i=.int .i64 k∧Hid (wr.ownsRow (w.heap.size+1) 3 1 s (mulsTo m d k).length ((mulsTo m d k).map (Value.int .i64)))∧Hid (Blk wr w.heap.size 38 #[.int .i64 m.p,.slice A m.st.length c,u2])∧Hid (w.grownBy wr none)∧Hid (Ints wr S n l)∧Hid (∀g,s.ownBlock=some g→∀a,S=some a→a.block≠g)) (fun _ i _=>n - (intOf i).toNat)
 case atStart=>exact ⟨0,Nat.zero_le _,rfl,O3.out,B3.out,G3.out,I3.out,D3.out⟩
 case round =>
  clear O3 B3 G3 I3 D3;obtain ⟨k,hk,rfl,hown,hB,hG,hI,hD⟩:=hrel;have c1:=hB.out.cell 1;simp at c1
  by_cases hlt:k<n
  ·obtain ⟨bb,ob,e1,hbb,r1⟩:=Ints.cell hI.out hlt
   subst e1;obtain ⟨b,o,x,y,z,rfl,hb,hx,q0,q1,q2⟩:=YM (FL.grow HF.out hG.out) (Nat.lt_of_lt_of_le hlt hle);have i1:(k:Int)<(n:Int):=by omega
   have i2:(k:Int)<(m.st.length:Int):=by omega
   have hx':stAt m k=(x,y,z):=by simp [stAt,zF,hx]
   have HDS:Hid (mulsTo m d (k+1)=mulsTo m d k ++ if x=4∧l.getD k 0=d then [(k:Int)] else []):=by unfold Hid;rw [mulsTo,hx',HL.out]
   clear hx hx';generalize l.getD k 0=e at *;have hmk:=WL m d k;generalize hM:mulsTo m d k=M at *;generalize hM1:mulsTo m d (k+1)=M1 at *;have HM1:=zH hM1;clear hM hM1
   cases h4:x == 4
   ·have HDS':Hid (M1=M):=by unfold Hid;rw [HDS.out,if_neg (fun h=>by simp [h.1] at h4)];simp
    clear HDS;go_wp2_with fail
    go_roundw
    case rel=>exact ⟨k+1,by omega,by go_num,by rw [HM1.out,HDS'.out];exact hown.out,hB.out,hG.out,hI.out,hD.out⟩
    case measure=>simp [intOf];omega
   ·cases h5:e == d
    ·have HDS':Hid (M1=M):=by unfold Hid;rw [HDS.out,if_neg (fun h=>by simp [h.2] at h5)];simp
     clear HDS;go_wp2_with fail
     go_roundw
     case rel=>exact ⟨k+1,by omega,by go_num,by rw [HM1.out,HDS'.out];exact hown.out,hB.out,hG.out,hI.out,hD.out⟩
     case measure=>simp [intOf];omega
    ·have HDS':Hid (M1=M ++ [(k:Int)]):=by unfold Hid;rw [HDS.out,if_pos (by simp at h4 h5;exact ⟨h4,h5⟩)]
     clear HDS;have hbs:=hB.out.lt;have hsb:=bb
     go_wp2_with (at_builtin;refine wp_appendB _ wr.heap.size rfl YF rfl (.tmp 32) (.tmp 34) rfl _ rfl (by simp [Value.oneCell']) (w.heap.size+1) _ _ _ hown.out rfl rfl (by unfold maxLen;omega) (by omega) (by omega) ?_;intro v' w5 hown5 hgrow5 hnew5)
     have h1:Hid (w5.ownsRow (w.heap.size+1) 3 1 v' M1.length (M1.map (Value.int .i64))):=by unfold Hid;rw [HDS'.out];simpa using hown5
     have h2:=zH (hB.out.grown hgrow5 (fun e=>by have:=(hown.out.lt _ e.symm).1;omega));have h3:=zH (gbN hG.out hgrow5 fun g e=>by have:=(hown.out.lt g e).1;omega);have h4':=zH (hI.out.grown hgrow5 (by rintro a ha e;exact hD.out _ e.symm a ha rfl))
     have h5':Hid (∀g,v'.ownBlock=some g→∀a,some (⟨bb,ob,none⟩:Addr)=some a→a.block≠g):=by
      intro g hg a ha e
      rcases hnew5 g hg with h6 | h6
      ·exact hD.out g h6.symm a ha e
      ·injection ha with ha;subst ha;simp at e;omega
     clear hown5 hgrow5 hnew5 hown hB hG hI hD;go_wp2_with fail
     go_roundw
     case rel=>exact ⟨k+1,by omega,by go_num,by rw [HM1.out];exact h1.out,h2.out,h3.out,h4'.out,h5'.out⟩
     case measure=>simp [intOf];omega
  ·have hkn:k=n:=by omega
   subst hkn;go_wp2_with fail;go_ret;have hR:mulsAt m d=mulsTo m d k:=by unfold mulsAt;rw [HL.out,HN.out]
   exact ⟨_,rfl,by rw [hR];exact ZQ hown.out (by omega),hG.out⟩
theorem implMulsAt_no (m:AM) (d:Int) (v:Value) (w:World) (h:AggR w (carith m) v) (wf:m.wf) (hok:¬AOk m) :
  Calls Tryz.prog 54 #[v,.int .i64 d] w (RowI (mulsAt m d) w):=by
 have HV:=zH h;obtain ⟨u1,u2,rfl,h1,h2⟩:=ZA h;have HOK:=zH hok;have HW:=zH wf;clear h h1 h2 wf hok
 go_enter Tryz.func54,Tryz.ntmps54
 go_wp2_with fail;refine (YW m _ _ (AggR.grow HV.out (gbA (gbR w none) _)) HW.out).mono ?_;rintro e w1 ⟨rfl,g⟩;rw [Yj HOK.out];have G:=zH (gbT (gbA (gbR w none) _) g);clear g;go_wp2_with fail;go_ret;have hR:mulsAt m d=[]:=by unfold mulsAt;rw [XQ HOK.out];rfl
 exact ⟨_,rfl,by rw [hR];exact World.ownsRow_nil _ _ _ _,G.out⟩
theorem implMulsAt_c (m:AM) (d:Int) (v:Value) (w:World) (h:AggR w (carith m) v) (wf:m.wf) :
  Calls Tryz.prog 54 #[v,.int .i64 d] w (RowI (mulsAt m d) w):=by
 by_cases hok:AOk m
 ·exact implMulsAt_yes m d v w h wf hok
 ·exact implMulsAt_no m d v w h wf hok
theorem XV (m:AM):∀(k j:Nat),j<k→(depsS m k).getD j 0=depD (depsS m j) (stAt m j)
 | 0,j,h=>by omega
 | k+1,j,h=>by
  rw [depsS,zF]
  by_cases e:j<k
  ·rw [List.getElem?_append_left (by rw [Xj];omega),← zF]
   exact XV m k j e
  ·obtain rfl:j=k:=by omega
   rw [List.getElem?_append_right (by rw [Xj];omega),Xj];simp
theorem Vy (m:AM) {k j i:Nat} (h1:i<j) (h2:j≤k):(depsS m j).getD i 0=(depsS m k).getD i 0:=by
 rw [XV m j i h1,XV m k i (by omega)]
def depAt (m:AM) (j:Nat):Int:=(depsS m m.st.length).getD j 0
theorem depAt_md {m:AM} (h:AOk m) (j:Nat):(mdepth m).getD j 0=depAt m j:=by rw [Xw h];rfl
structure EM where
 k:KM
 c:AM
 vs:List AuM
 op:List Int
 rd:Int
 bad:Bool
def getA (vs:List AuM) (i:Nat):AuM:=vs.getD i noA
theorem UA (vs:List AuM) (i j:Nat) (x:AuM):getA (vs.set i x) j=if i=j∧i<vs.length then x else getA vs j:=by
 unfold getA;rw [zF,zF,List.getElem?_set]
 by_cases e:i=j
 ·subst e
  by_cases h:i<vs.length
  ·simp [h]
  ·simp [h]
 ·simp [e]
theorem getA_out {vs:List AuM} {i:Nat} (h:vs.length≤i):getA vs i=noA:=by
 unfold getA;rw [zF,List.getElem?_eq_none h];rfl
theorem zero_no:zeroA noA=true:=rfl
def okV (k:KM) (v:AuM):Bool:=zeroA v||formB k v
theorem form_nz {k:KM} {v:AuM} (h:formB k v=true):zeroA v=false:=by
 obtain ⟨_,h1,_,_,_,_,h2,_⟩:=ZN h;unfold zeroA;have:¬v.sh.length=0:=by omega
 simp [this]
theorem okV_sh {k:KM} {v:AuM} (h:okV k v=true):decide (v.sh.length=0)=zeroA v:=by
 unfold okV at h
 cases hz:zeroA v
 ·rw [hz,Bool.false_or] at h
  obtain ⟨_,h1,_,_,_,_,h2,_⟩:=ZN h;have:¬v.sh.length=0:=by omega
  simp [this]
 ·unfold zeroA at hz
  rw [Bool.and_eq_true] at hz;exact hz.1
def addOk (c:AM) (vs:List AuM) (i:Nat):Bool:=((stAt c i).1 == 3)&&zeroA (getA vs i)&&!zeroA (getA vs (stAt c i).2.1.toNat)&&!zeroA (getA vs (stAt c i).2.2.toNat)
def Yc (k:KM) (c:AM) (vs:List AuM) (i:Nat):List AuM :=
 if addOk c vs i then vs.set i (Zk k (getA vs (stAt c i).2.1.toNat) (getA vs (stAt c i).2.2.toNat)) else vs
def addsTo (k:KM) (c:AM) (vs:List AuM):Nat→List AuM
 | 0=>vs
 | i+1=>Yc k c (addsTo k c vs i) i
theorem addStep_len (k:KM) (c:AM) (vs:List AuM) (i:Nat):(Yc k c vs i).length=vs.length:=by
 unfold Yc
 split
 ·rw [List.length_set]
 ·rfl
theorem XW (k:KM) (c:AM) (vs:List AuM):∀i,(addsTo k c vs i).length=vs.length
 | 0=>rfl
 | i+1=>by rw [addsTo,addStep_len,XW]
theorem Qj {vs:List AuM} (h:∀a∈vs,awf a) (i:Nat):awf (getA vs i):=by
 unfold getA;rw [zF]
 cases hi:vs[i]? with
 | none=>exact awf_no
 | some a=>exact h a (List.mem_of_getElem? hi)
theorem UB {k:KM} {c:AM} {vs:List AuM} (h:∀a∈vs,awf a):∀i,∀a∈addsTo k c vs i,awf a
 | 0=>h
 | i+1=>by
  have ih:=UB (k:=k) (c:=c) h i;intro a ha;rw [addsTo,Yc] at ha
  split at ha
  ·rcases List.mem_or_eq_of_mem_set ha with h1 | h1
   ·exact ih a h1
   ·rw [h1];exact YY (Qj ih _)
  ·exact ih a ha
noncomputable def engOkB (e:EM):Bool:=keysB e.k&&arithB e.c&&(e.k.p == e.c.p)&&decide (e.vs.length=e.c.st.length)&&inQ e.rd 0 60&&e.vs.all (okV e.k)
def errAt (es:List Int) (i:Nat):Int:=es.getD i 0
def tr0:TrM:=⟨noA,noA,noA⟩
def trAt (ts:List TrM) (j:Nat):TrM:=ts.getD j tr0
def opA (e:EM) (i:Nat):AuM:=getA e.vs (stAt e.c i).2.1.toNat
def opB (e:EM) (i:Nat):AuM:=getA e.vs (stAt e.c i).2.2.toNat
def rD (e:EM) (x:TrM) (er:Int) (i:Nat):Int:=(openD e.k (opA e i) (opB e i) x+er) % e.k.p
def rE (e:EM) (x:TrM) (er:Int) (i:Nat):Int:=(openE e.k (opA e i) (opB e i) x+er) % e.k.p
def rBad (e:EM) (x:TrM) (D E:Int) (i:Nat):Bool:=!Yb e.k D (minusA e.k (opA e i) x.a)||!Yb e.k E (minusA e.k (opB e i) x.b)
def mulStep (e:EM) (x:TrM) (D E:Int) (i:Nat) (f:EM):EM :=
 { f with vs:=f.vs.set i (Zw e.k x D E),op:=f.op ++ [D,E],bad:=f.bad||rBad e x D E i }
def Zf (e:EM) (ts:List TrM) (es:List Int) (ss:List Int):Nat→EM
 | 0=>e
 | j+1=>mulStep e (trAt ts j) (rD e (trAt ts j) (errAt es (2*j)) (ss.getD j 0).toNat) (rE e (trAt ts j) (errAt es (2*j+1)) (ss.getD j 0).toNat) (ss.getD j 0).toNat (Zf e ts es ss j)
def Xs (e f:EM):EM:={ f with vs:=addsTo e.k e.c f.vs e.c.st.length,rd:=e.rd+1 }
noncomputable def mulsOf (e:EM):List Int:=mulsAt e.c (e.rd+1)
def tripOk (e:EM) (x:TrM) (i:Nat):Bool:=formB e.k x.a&&formB e.k x.b&&formB e.k x.c&&!zeroA (opA e i)&&!zeroA (opB e i)
noncomputable def mayB (e:EM) (ts:List TrM) (es:List Int):Bool :=
 engOkB e&&!e.bad&&decide (e.rd<rounds e.c)&&decide ((mulsOf e).length≤ts.length)&&elemsB e.k.p es&&(List.range (mulsOf e).length).all fun j=>tripOk e (trAt ts j) ((mulsOf e).getD j 0).toNat
noncomputable def Ym (e:EM) (ts:List TrM) (es:List Int):EM:=if mayB e ts es then Xs e (Zf e ts es (mulsOf e) (mulsOf e).length) else e
theorem Yk (e:EM) (ts:List TrM) (es ss:List Int):∀j,(Zf e ts es ss j).k=e.k∧(Zf e ts es ss j).c=e.c∧(Zf e ts es ss j).rd=e.rd∧(Zf e ts es ss j).vs.length=e.vs.length∧(Zf e ts es ss j).op.length=e.op.length+2*j
 | 0=>⟨rfl,rfl,rfl,rfl,rfl⟩
 | j+1=>by
  obtain ⟨h1,h2,h3,h4,h5⟩:=Yk e ts es ss j;refine ⟨h1,h2,h3, ?_, ?_⟩
  ·show (List.set _ _ _).length=_
   rw [List.length_set];exact h4
  ·show (_ ++ [_,_]).length=_
   rw [List.length_append,h5];simp;omega
def out1 (e:EM) (i:Nat):Bool:=!zeroA (getA e.vs i)&&Yb e.k (fsum e.k.p (getA e.vs i).sh) (getA e.vs i)
noncomputable def outB (e:EM):Bool:=engOkB e&&!e.bad&&e.c.outs.all fun z=>out1 e z.toNat
noncomputable def outR (e:EM):List Int:=if outB e then e.c.outs.map fun z=>fsum e.k.p (getA e.vs z.toNat).sh else []
abbrev Zd (m:EM):List CS:=[ci m.k.p,cints m.k.al,ci m.c.p,csteps m.c.st,cints m.c.outs,cauths m.vs,cints m.op,ci m.rd,cb m.bad]
theorem Wg:St Tryz.prog 58 9:=⟨⟨_,Tryz.underlying58,rfl⟩,by kernel_rfl⟩
theorem elAuth:El Tryz.prog 56 80 (.agg #[.slice none 0 0,.slice none 0 0]) 2 48:=⟨Tryz.underlying56,by kernel_rfl,rfl,by decide⟩
structure ewf (m:EM):Prop where
 k:kwf m.k
 c:amwf m.c
 vs:∀a∈m.vs,awf a
 n:m.vs.length≤1048576
 op:m.op.length≤1048576
 rd:i64w m.rd
structure EngR (m:EM) (w:World) (A B C D E:Option Addr) (a b c d e:Nat):Prop where
 ky:AggR w (ckeys m.k) (.agg #[.int .i64 m.k.p,.slice A m.k.al.length a])
 ar:AggR w (carith m.c) (.agg #[.int .i64 m.c.p,.slice B m.c.st.length b,.slice C m.c.outs.length c])
 stp:FL c3 3 w B m.c.st.length m.c.st
 ou:Ints w C m.c.outs.length m.c.outs
 va:(cauths m.vs).rd w (.slice D m.vs.length d)
 opn:(cints m.op).rd w (.slice E m.op.length e)
 al9:AggR w (Zd m) (.agg #[.int .i64 m.k.p,.slice A m.k.al.length a,.int .i64 m.c.p,.slice B m.c.st.length b,.slice C m.c.outs.length c,.slice D m.vs.length d,.slice E m.op.length e,.int .i64 m.rd,.bool m.bad])
theorem EngR.grow {m:EM} {w w':World} {A B C D E:Option Addr} {a b c d e:Nat} (h:EngR m w A B C D E a b c d e) (g:w.grownBy w' none):EngR m w' A B C D E a b c d e :=
 ⟨h.ky.grow g,h.ar.grow g,FL.grow h.stp g,h.ou.grow g,CS.grow _ h.va g,CS.grow _ h.opn g,h.al9.grow g⟩
theorem Qk {w:World} {xs:List AuM} {v:Value} (h:(cauths xs).rd w v):∃A c,v=.slice A xs.length c:=by
 obtain ⟨A,c,_,e,_⟩:=Qu (s:=2) (fun _=>rfl) (by omega) h;exact ⟨A,c,e⟩
theorem Zo {w:World} {m:EM} {v:Value} (h:AggR w (Zd m) v):∃A B C D E a b c d e,v=.agg #[.int .i64 m.k.p,.slice A m.k.al.length a,.int .i64 m.c.p,.slice B m.c.st.length b,.slice C m.c.outs.length c,.slice D m.vs.length d,.slice E m.op.length e,.int .i64 m.rd,.bool m.bad]∧EngR m w A B C D E a b c d e:=by
 have hall:=h;obtain ⟨vs,rfl,h⟩:=h;obtain ⟨u0,vs0,rfl,h0,h⟩:=RdAll.head h;obtain ⟨u1,vs1,rfl,h1,h⟩:=RdAll.head h;obtain ⟨u2,vs2,rfl,h2,h⟩:=RdAll.head h;obtain ⟨u3,vs3,rfl,h3,h⟩:=RdAll.head h;obtain ⟨u4,vs4,rfl,h4,h⟩:=RdAll.head h;obtain ⟨u5,vs5,rfl,h5,h⟩:=RdAll.head h;obtain ⟨u6,vs6,rfl,h6,h⟩:=RdAll.head h;obtain ⟨u7,vs7,rfl,h7,h⟩:=RdAll.head h;obtain ⟨u8,vs8,rfl,h8,h⟩:=RdAll.head h;obtain rfl:=RdAll.none h;obtain rfl:=QB h0;obtain rfl:=QB h2;obtain rfl:=QB h7;obtain rfl:=cb_rd h8;obtain ⟨A,a,rfl,_,_,_⟩:=ZF h1;obtain ⟨B,b,rfl,_,_,f3⟩:=ZX (s:=3) (fun _=>rfl) (by omega) h3;obtain ⟨C,c,rfl,_,_,f4⟩:=ZF h4;obtain ⟨D,d,rfl⟩:=Qk h5;obtain ⟨E,e,rfl,_,_,_⟩:=ZF h6;exact ⟨A,B,C,D,E,a,b,c,d,e,rfl,ckeys_mk h1,carith_mk h3 h4,f3,f4,h5,h6,hall⟩
theorem Xx (m:EM):∀c∈Zd m,tyd [3,102,80] c:=by
 intro c hc;simp only [List.mem_cons,List.not_mem_nil,or_false] at hc
 rcases hc with rfl | rfl | rfl | rfl | rfl | rfl | rfl | rfl | rfl
 ·exact Qe
 ·exact Yv (by simp)
 ·exact Qe
 ·exact Yv (by simp)
 ·exact Yv (by simp)
 ·exact tyd_cauths (by simp) (by simp)
 ·exact Yv (by simp)
 ·exact Qe
 ·exact Qe
theorem cauths_nil (w:World):(cauths []).own w [] (.slice none 0 0):=⟨0,[],[],rfl,World.ownsRow_nil w 0 _ 2,OwnAll.nil w,rfl,by simp⟩
theorem SOF.eng {m:EM} {g:Nat} {F:List Nat} {w:World} (h:SOF 58 (Zd m) g F w):∃A B C D E a b c d e,Blk w g 58 #[.int .i64 m.k.p,.slice A m.k.al.length a,.int .i64 m.c.p,.slice B m.c.st.length b,.slice C m.c.outs.length c,.slice D m.vs.length d,.slice E m.op.length e,.int .i64 m.rd,.bool m.bad]∧EngR m w A B C D E a b c d e:=by
 obtain ⟨vs,h1,h2⟩:=h.agg;obtain ⟨A,B,C,D,E,a,b,c,d,e,hv,hR⟩:=Zo h2.rd;injection hv with hv;rw [hv] at h1;exact ⟨A,B,C,D,E,a,b,c,d,e,h1,hR⟩
theorem SOF.is {T:TypeId} {cs:List CS} {g:Nat} {F:List Nat} {w:World} {us:List Value} (h:SOF T cs g F w) (B:Blk w g T us.toArray):AggO w cs F (.agg us.toArray):=by
 obtain ⟨vs,h1,h2⟩:=h.agg;unfold Blk at h1 B;rw [h1] at B;injection B with B;injection B with B;rw [← B];exact h2
theorem Vi {xs:List AuM} {w:World} {F:List Nat} {v:Value} (h:(cauths xs).own w F v) :
  ∃vs,w.ownsRow 0 80 2 v xs.length vs∧(∀g,v.ownBlock=some g→g∈F)∧∀(w':World) (v' u0 u1:Value) (x:AuM) (Fx:List Nat),w'.ownsRow 0 80 2 v' (xs.length+1) (vs ++ [u0,u1])→w.grownBy w' v.ownBlock→(∀g,v'.ownBlock=some g→some g=v.ownBlock∨w.heap.size≤g)→AggO w' (cauth x) Fx (.agg #[u0,u1])→(∀y∈Fx,y∉F)→(∀g,v'.ownBlock=some g→g∉Fx) →
   ∃F',(cauths (xs ++ [x])).own w' F' v'∧∀y∈F',y∈F∨w.heap.size≤y∨y∈Fx:=by
 obtain ⟨n,vs,h1,h2,h3,h4⟩:=row_push h;rw [ZI (sz:=2) (fun _=>rfl)] at h1;have hn:=div_of (by omega) h1;subst hn;refine ⟨vs,h2,h3,fun w' v' u0 u1 x Fx ho hg hv hx hd hd2 => ?_⟩;obtain ⟨us,Ds,e,h5,rfl⟩:=hx;injection e with e;have e:us=[u0,u1]:=by have:=congrArg Array.toList e;simpa using this.symm
 subst e;obtain ⟨F',k1,k2⟩:=h4 w' v' 1 [u0,u1] (cauth x) Ds rfl ho hg hv h5 hd hd2;exact ⟨F',by rw [cauths,lst,List.flatMap_append];simpa using k1,k2⟩
theorem autF.own {lo:Nat} {m:AuM} {v:Value} {w:World} (h:autF lo m v w):∃A n c B k d F,v=.agg #[.slice A n c,.slice B k d]∧AggO w (cauth m) F (.agg #[.slice A n c,.slice B k d])∧∀g∈F,lo≤g:=by
 obtain ⟨A,n,c,B,k,d,rfl⟩:=h.form;obtain ⟨F,h1,h2⟩:=h;exact ⟨A,n,c,B,k,d,F,rfl,h1,h2⟩
theorem SOF.val {m:EM} {g:Nat} {F:List Nat} {w:World} (h:SOF 58 (Zd m) g F w) :
  ∃D d F5,w.cell? ⟨g,5,none⟩=some (.slice D m.vs.length d)∧w.frozen? ⟨g,5,none⟩=false∧(cauths m.vs).own w F5 (.slice D m.vs.length d)∧(∀x∈F5,x∈F)∧g∉F5∧(∀x∈F5,x<w.heap.size) ∧
   (∀(w':World) (l:List AuM) (u':Value) (F':List Nat),Chg (fun x=>x∈F5) w w'→(cauths l).own w' F' u'→(∀x∈F',x∈F5∨w.heap.size≤x)→∃F'',SOF 58 (Zd { m with vs:=l }) g F'' (w'.setCell ⟨g,5,none⟩ u')∧∀x∈F'',x∈F∨w.heap.size≤x) ∧
   (∀(w':World) (l:List AuM) (F':List Nat),Chg (fun x=>x∈F5) w w'→(cauths l).own w' F' (.slice D m.vs.length d)→(∀x∈F',x∈F5∨w.heap.size≤x)→∃F'',SOF 58 (Zd { m with vs:=l }) g F'' w'∧∀x∈F'',x∈F∨w.heap.size≤x):=by
 obtain ⟨u,F5,h1,h2,h3,h4,h5,h6,h7⟩:=h.at_ (i:=5) (c:=cauths m.vs) rfl;obtain ⟨D,d,rfl⟩:=Qk (CS.toRd _ h3);exact ⟨D,d,F5,h1,h2,h3,h4,h5,CS.lt _ h3,fun w' l u' F' a b c=>h6 w' (cauths l) u' F' a b c,fun w' l F' a b c=>h7 w' (cauths l) F' a b c⟩
theorem SOF.opn {m:EM} {g:Nat} {F:List Nat} {w:World} (h:SOF 58 (Zd m) g F w) :
  ∃E e F6,w.cell? ⟨g,6,none⟩=some (.slice E m.op.length e)∧w.frozen? ⟨g,6,none⟩=false∧(cints m.op).own w F6 (.slice E m.op.length e)∧(∀x∈F6,x∈F)∧g∉F6∧(∀x∈F6,x<w.heap.size) ∧
   (∀(w':World) (l:List Int) (u':Value) (F':List Nat),Chg (fun x=>x∈F6) w w'→(cints l).own w' F' u'→(∀x∈F',x∈F6∨w.heap.size≤x)→∃F'',SOF 58 (Zd { m with op:=l }) g F'' (w'.setCell ⟨g,6,none⟩ u')∧∀x∈F'',x∈F∨w.heap.size≤x):=by
 obtain ⟨u,F6,h1,h2,h3,h4,h5,h6,h7⟩:=h.at_ (i:=6) (c:=cints m.op) rfl;obtain ⟨E,e,rfl,_⟩:=ZF (CS.toRd _ h3);exact ⟨E,e,F6,h1,h2,h3,h4,h5,CS.lt _ h3,fun w' l u' F' a b c=>h6 w' (cints l) u' F' a b c⟩
theorem SOF.round {m:EM} {g:Nat} {F:List Nat} {w:World} (h:SOF 58 (Zd m) g F w) (z:Int):∃F',SOF 58 (Zd { m with rd:=z }) g F' (w.setCell ⟨g,7,none⟩ (.int .i64 z))∧∀x∈F',x∈F∨w.heap.size≤x :=
 SOF.put h (i:=7) (c:=ci m.rd) (c':=ci z) rfl (fun w=>WW w z)
theorem SOF.flag {m:EM} {g:Nat} {F:List Nat} {w:World} (h:SOF 58 (Zd m) g F w) (b:Bool):∃F',SOF 58 (Zd { m with bad:=b }) g F' (w.setCell ⟨g,8,none⟩ (.bool b))∧∀x∈F',x∈F∨w.heap.size≤x :=
 SOF.put h (i:=8) (c:=cb m.bad) (c':=cb b) rfl (fun w=>cb_own w b)
theorem getA_at {xs:List AuM} {i:Nat} (h:i<xs.length):xs[i]?=some (getA xs i):=by
 unfold getA;rw [zF,List.getElem?_eq_getElem h];rfl
theorem YB {xs:List AuM} {w:World} {F:List Nat} {g n c:Nat} (h:(cauths xs).own w F (.slice (some ⟨g,0,none⟩) n c)) {i:Nat} (hi:i<xs.length) :
  ∃B d C f,w.cell? ⟨g,i*2,none⟩=some (.slice B (getA xs i).sh.length d)∧w.cell? ⟨g,i*2+1,none⟩=some (.slice C (getA xs i).mc.length f)∧w.frozen? ⟨g,i*2,none⟩=false∧w.frozen? ⟨g,i*2+1,none⟩=false∧AggR w (cauth (getA xs i)) (.agg #[.slice B (getA xs i).sh.length d,.slice C (getA xs i).mc.length f]):=by
 have hx:=getA_at hi
 have h0:(xs.flatMap cauth)[i*2]?=some (cints (getA xs i).sh):=by
  have:=YL (sz:=2) (F:=cauth) (fun _=>rfl) xs i 0 (by omega);rw [hx] at this;exact this
 have h1:(xs.flatMap cauth)[i*2+1]?=some (cints (getA xs i).mc):=by
  have:=YL (sz:=2) (F:=cauth) (fun _=>rfl) xs i 1 (by omega);rw [hx] at this;exact this
 obtain ⟨u0,F0,a1,a2,a3,_⟩:=row_cell h h0;obtain ⟨u1,F1,b1,b2,b3,_⟩:=row_cell h h1;obtain ⟨B,d,rfl,_⟩:=ZF (CS.toRd _ a3);obtain ⟨C,f,rfl,_⟩:=ZF (CS.toRd _ b3);exact ⟨B,d,C,f,a1,b1,a2,b2,WE (CS.toRd _ a3) (CS.toRd _ b3)⟩
theorem XX {xs:List AuM} {w:World} {F:List Nat} {D:Option Addr} {n c:Nat} (h:(cauths xs).own w F (.slice D n c)) (hi:0<xs.length):∃gv,D=some ⟨gv,0,none⟩∧gv∈F:=by
 obtain ⟨g,n',c',e,hg⟩:=Vq (by omega) h (by rw [ZI (sz:=2) (fun _=>rfl)];omega);injection e with e;exact ⟨g,e,hg⟩
theorem EngR.of {m:EM} {w:World} {A B C D E:Option Addr} {a b c d e n1 n2 n3 n4 n5:Nat} (h:AggR w (Zd m) (.agg #[.int .i64 m.k.p,.slice A n1 a,.int .i64 m.c.p,.slice B n2 b,.slice C n3 c,.slice D n4 d,.slice E n5 e,.int .i64 m.rd,.bool m.bad])) :
  n1=m.k.al.length∧n2=m.c.st.length∧n3=m.c.outs.length∧n4=m.vs.length∧n5=m.op.length∧EngR m w A B C D E a b c d e:=by
 obtain ⟨A',B',C',D',E',a',b',c',d',e',hv,hR⟩:=Zo h;injection hv with hv;have hv:=Array.toList_inj.2 hv;simp only [List.cons.injEq,Value.slice.injEq,and_true,true_and] at hv;obtain ⟨⟨rfl,rfl,rfl⟩,⟨rfl,rfl,rfl⟩,⟨rfl,rfl,rfl⟩,⟨rfl,rfl,rfl⟩,⟨rfl,rfl,rfl⟩⟩:=hv;exact ⟨rfl,rfl,rfl,rfl,rfl,hR⟩
end Go.Proofs.YthaadgdeadbhkaaGreat
