/-
 AddShares,ScaleShares,AddConstant: reference and program,on elements.
-/
import Derived.Test.YthaadgdeadbhkaaGreatMgFnExactEngineRound9
import Derived.Test.YthaadgdeadbhkaaGreatMgFnExactEngineRound13
open Go.RowKit
set_option linter.unusedVariables false
set_option linter.unusedSimpArgs false
namespace Go.Proofs.YthaadgdeadbhkaaGreat
def addS (p:Int) (xs ys:List Int):List Int:=List.zipWith (fun x y=>(x+y) % p) xs ys
def sclS (p:Int) (xs:List Int) (k:Int):List Int:=xs.map fun x=>(x*k) % p
def cstS (p:Int) (xs:List Int) (k:Int):List Int:=xs.set 0 ((xs.getD 0 0+k) % p)
theorem Vx {p:Int} {xs ys:List Int} (h:xs.length=ys.length):(addS p xs ys).length=xs.length:=by simp [addS,h]
theorem XJ {p k:Int} {xs:List Int}:(sclS p xs k).length=xs.length:=by simp [sclS]
theorem cstS_len {p k:Int} {xs:List Int}:(cstS p xs k).length=xs.length:=by simp [cstS]
theorem addS_snoc {p:Int} {xs ys:List Int} {k:Nat} (h1:k<xs.length) (h2:k<ys.length):(addS p xs ys).take (k+1)=(addS p xs ys).take k ++ [(xs.getD k 0+ys.getD k 0) % p]:=by
 have hl:k<(addS p xs ys).length:=by unfold addS;rw [List.length_zipWith];omega
 rw [VK _ k hl,getI _ k hl,getI _ k h1,getI _ k h2];simp [addS]
theorem sclS_snoc {p c:Int} {xs:List Int} {k:Nat} (h1:k<xs.length):(sclS p xs c).take (k+1)=(sclS p xs c).take k ++ [(xs.getD k 0*c) % p]:=by
 have hl:k<(sclS p xs c).length:=by rw [XJ];exact h1
 rw [VK _ k hl,getI _ k hl,getI _ k h1];simp [sclS]
theorem Wp {p:Int} {zs:List Int} (h:elemsB p zs=true) {k:Nat} (hk:k<zs.length):elemB p (zs.getD k 0)=true:=by
 obtain ⟨hf,_,_,hz⟩:=ZY h;rw [getI zs k hk];have:=hz _ (List.getElem_mem hk);exact Xn hf this.1 this.2
theorem YA (p a:Int) (w:World) (hp:p≤9223372036854775807) (hp0 : -9223372036854775808≤p) :
  Calls Tryz.prog 134 #[.int .i64 p,.int .i64 a] w fun e w'=>e=.returned (.bool (elemB p a))∧w=w':=by
 have HE:Hid (elemB p a=(fieldB p&&inQ a 0 (p - 1))):=by
  unfold Hid elemB inQ;rw [Bool.and_assoc]
 cases h1:fieldB p
 ·rw [h1] at HE
  go_enter Tryz.func134,Tryz.ntmps134
  go_wp2_with fail;refine (Ya p _ hp).mono ?_;rintro e w1 ⟨rfl,rfl⟩;rw [h1];go_wp2_with fail;go_ret;exact ⟨retB (by rw [HE.out];rfl),rfl⟩
 ·rw [h1] at HE
  obtain ⟨p2,p101⟩:=ZG h1
  go_enter Tryz.func134,Tryz.ntmps134
  go_wp2_with fail;refine (Ya p _ hp).mono ?_;rintro e w1 ⟨rfl,rfl⟩;rw [h1];go_wp2_with fail;refine (UI a 0 (p - 1) _).mono ?_;rintro e w1 ⟨rfl,rfl⟩;go_wp2_with fail;go_ret;exact ⟨retB (by rw [HE.out];rfl),rfl⟩
set_option maxHeartbeats 2000000 in
theorem UZ (p:Int) (A B:Option Addr) (n ac bc:Nat) (xs ys:List Int) (w:World) (hx:elemsB p xs=true) (hy:elemsB p ys=true) (ha:Ints w A n xs) (hb:Ints w B n ys) (hn:n≤1048576) :
  Calls Tryz.prog 146 #[.int .i64 p,.slice A n ac,.slice B n bc] w fun e w'=>∃v,e=.returned v∧w'.ownsRow w.heap.size 3 1 v n ((addS p xs ys).map (Value.int .i64))∧w.grownBy w' none:=by
 obtain ⟨hf,p2,p101,_⟩:=ZY hx;have HX:=zH hx;have HY:=zH hy;have HA:=zH ha;have HB:=zH hb;have lx:=ha.len;have ly:=hb.len;clear hx hy ha hb hf
 go_enter Tryz.func146,Tryz.ntmps146
 go_wp2_with fail;refine (ZU p A n ac xs _ (by omega) (HA.out.grow (gbA (gbR _ _) _)) (by omega)).mono ?_;rintro e w1 ⟨rfl,rfl⟩;rw [HX.out];go_wp2_with fail;refine (ZU p B n bc ys _ (by omega) (HB.out.grow (gbA (gbR _ _) _)) (by omega)).mono ?_;rintro e w1 ⟨rfl,rfl⟩;rw [HY.out];have O0:=zH (World.ownsRow_made (e:=3) (size:=1) (base:=w.heap.size) w #[] 0 (Nat.le_refl _) (by simp) rfl);go_wp2_with fail
 go_loopw [7,8] (fun v i wr=>∃(j gV c4:Nat),j≤n∧i=.int .i64 j∧v=.slice (some ⟨gV,0,none⟩) j c4∧Hid (wr.ownsRow w.heap.size 3 1 v j (((addS p xs ys).take j).map (Value.int .i64)))∧Hid (w.grownBy wr none)) (fun _ i _=>n - (intOf i).toNat)
 case atStart=>exact ⟨0,_,_,Nat.zero_le _,rfl,rfl,zH (by simpa using O0.out),zH (gbA (gbR _ _) _)⟩
 case round =>
  clear O0;obtain ⟨j,gV,c4,hj,rfl,rfl,OW,GW⟩:=hrel;have hgV:=OW.out.lt gV rfl
  by_cases hlt:j<n
  ·have i1:(j:Int)<(n:Int):=by omega
   obtain ⟨ab,ao,rfl,hab,hac⟩:=HA.out.at_ (by omega);obtain ⟨bb,bo,rfl,hbb,hbc⟩:=HB.out.at_ (by omega);have cx:=gbk GW.out (hac j hlt);have cy:=gbk GW.out (hbc j hlt);have LA:=zH hab;have LBB:=zH hbb;have HS:=zH (addS_snoc (p:=p) (xs:=xs) (ys:=ys) (k:=j) (by omega) (by omega));have EX:=zH (Wp HX.out (k:=j) (by omega));have EY:=zH (Wp HY.out (k:=j) (by omega));generalize xs.getD j 0=x at *;generalize ys.getD j 0=y at *;have hF:=fun w=>Wz p x y w EX.out EY.out;obtain ⟨r,hr⟩:∃r,(x+y) % p=r:=⟨_,rfl⟩;rw [hr] at hF HS;have HF:=zH hF;clear hF hr;have CX:=zH cx;have CY:=zH cy;obtain ⟨NX,hNX⟩:∃l,(((addS p xs ys).take (j+1)).map (Value.int .i64))=l:=⟨_,rfl⟩;have HNX:=zH hNX;clear hac hbc cx cy hNX;go_wp2_with fail;refine UY [onT 34 (isV (.slice (some ⟨gV,0,none⟩) j c4)),onT 35 (isV (.int .i64 p)),onT 36 (isV (.slice (some ⟨ab,ao,none⟩) n ac)),onT 37 (isV (.int .i64 j)),onT 38 (isV (.pointer (some ⟨ab,ao+j,none⟩))),onT 39 (isV (.int .i64 x)),onT 40 (isV (.slice (some ⟨bb,bo,none⟩) n bc)),onT 41 (isV (.int .i64 j)),onT 42 (isV (.pointer (some ⟨bb,bo+j,none⟩))),onT 43 (isV (.int .i64 y)),onT 44 (isV (.int .i64 r)),onT 45 (lit1 wr.heap.size (.int .i64 r)),onT 46 (rowL w.heap.size (j+1) NX),eqF 7 46] 12 gV (by kernel_rfl) (by kernel_rfl) (by kernel_rfl) (by simp [Zn,Yg,Zb,rowL_st,lit1_st,eqF_st]) ?_ ?_
   ·simp only [hops5,and_true]
    refine ⟨?_, ?_, ?_, ?_, ?_, ?_, ?_, ?_, ?_, ?_, ?_, ?_, ?_, ?_⟩;rotate_left 12
    ·intro f w4 hG pre old hd
     have hg4:=pre (by kernel_rfl);simp [depsF,bindE,List.filter_cons,Zy,Zp,Zq,Zr,Zz,Yu,fAt,Yn,Xk,isV] at hd;obtain ⟨h56,⟨g1,e1,o1⟩,_⟩:=hd;rw [e1] at o1;have hs4:=hg4.size;have O4:=Zu (Zu OW.out (gbD (gbR wr none))) hg4;simp [puts,dsts,Act.put,h56,e1];refine Ws w4 YF rfl (.tmp 34) (.tmp 45) rfl w.heap.size _ j _ O4 rfl (some ⟨g1,0,none⟩) 1 1 _ rfl (Rd.ofOwn o1) (by simp [Value.oneCell']) (by unfold maxLen;omega) (by omega) (by have:=GW.out.size;simp at hs4;omega) ?_;intro v' w5 o5 g5;obtain ⟨An,cn,rfl,_,_⟩:=Ye o5;have O5:w5.ownsRow w.heap.size 3 1 (.slice An (j+1) cn) (j+1) NX:=by rw [← HNX.out,HS.out,List.map_append];exact o5
     refine ⟨_,rfl,⟨An,cn,rfl,by simpa [Yf,fAt,onT] using O5⟩,Or.inr ⟨Chg.of g5 fun x hx=>by simp [Value.ownBlock] at hx;simp [hx], ?_⟩⟩;simp [keeps,Yn,Xk,isV];intro hk1;obtain ⟨g2,e2,o2⟩:=hk1;refine ⟨g2,e2,own_grown o2 g5 (.inr ?_)⟩;rw [e2];have:=(o2.lt g2 (by rw [e2];rfl)).1;have:=hgV;simp [Value.ownBlock];omega
    ·intro f w4 hG pre old hd
     simp [depsF,bindE,List.filter_cons,Zy,Zp,Zq,Zr,Zz,Yu,fAt,Yn,Xk,isV] at hd;obtain ⟨⟨An,cn,e71,_⟩,_⟩:=hd;simp [puts,dsts,Act.put,e71];go_wp2_with fail;exact ⟨_,rfl,by simp [fAt,Xk,Yf,e71],Or.inl (gbR _ _)⟩
    all_goals
     intro f w4 hG pre old hd;have hg4:=pre (by kernel_rfl);have hs4:=hg4.size;have kA_:=gbk hg4 (kD CX.out);have kB_:=gbk hg4 (kD CY.out);have h6:=old 7 (by kernel_rfl) (by simp [dsts]);simp at h6;simp [depsF,bindE,List.filter_cons,Zy,Zp,Zq,Zr,Zz,Yu,fAt,Yn,Xk,isV] at hd
     first | simp [puts,dsts,Act.put,hd,h6] | simp [puts,dsts,Act.put,h6]
     go_wp2_with (go_at_call 102;refine (HF.out _).mono ?_;rintro e w5 ⟨rfl,hw⟩)
     first
      | exact ⟨_,rfl,by simp [fAt,Yn,Xk,Yf,isV],Or.inl (gbR _ _)⟩
      | exact ⟨_,rfl,by simp [fAt,Yn,Xk,Yf,isV],Or.inl hw⟩
      | exact ⟨_,rfl,⟨_,rfl,own_litI hs4 _ _⟩,Or.inl (gbA (gbR _ _) _)⟩
   intro f w4 hG hd;simp [knowsF,Yn,Xk,isV] at hd;obtain ⟨p0,p1,p2,p3,p4,p5,p6,p7,p8,p9,p10,⟨g1,e70,_⟩,⟨An,cn,e71,o71⟩,e6⟩:=hd;rw [e71] at o71 e6;have hC:Chg (fun b=>b=gV) wr w4:=(Chg.of (gbD (gbR wr none)) (fun _ h=>by cases h)).trans hG;have h2:=zH (Chg.new GW.out hC (fun i hi=>by omega));have hOS:=o71;clear hC hG o71;simp only [puts,dsts,Act.put,p0,p1,p2,p3,p4,p5,p6,p7,p8,p9,p10,e70,e71,e6,zB,zC,zA,zD,zE];clear p0 p1 p2 p3 p4 p5 p6 p7 p8 p9 p10 e70 e71 e6;rw [← HNX.out] at hOS;obtain ⟨gN,cN,hN,_,_,_⟩:=Vw hOS (by omega);rw [hN] at hOS ⊢;have h1:=zH hOS;go_wp2_with fail
   go_roundw
   case rel=>exact ⟨j+1,_,_,by omega,by go_num,rfl,h1,h2⟩
   case measure=>simp [intOf];omega
  ·have hjn:j=n:=by omega
   subst hjn;have hO:=OW.out;rw [List.take_of_length_le (by rw [Vx (by omega)];omega)] at hO;have HO:=zH hO;clear hO;go_wp2_with fail;go_ret;exact ⟨_,rfl,HO.out,GW.out⟩
set_option maxHeartbeats 2000000 in
theorem Qa (p:Int) (A B:Option Addr) (n ac bc:Nat) (xs ys:List Int) (w:World) (hx:elemsB p xs=true) (hy:elemsB p ys=true) (ha:Ints w A n xs) (hb:Ints w B n ys) (hn:n≤1048576) :
  Calls Tryz.prog 157 #[.int .i64 p,.slice A n ac,.slice B n bc] w fun e w'=>∃v,e=.returned v∧w'.ownsRow w.heap.size 3 1 v n ((addS p xs ys).map (Value.int .i64))∧w.grownBy w' none:=by
 obtain ⟨hf,p2,p101,_⟩:=ZY hx;have HX:=zH hx;have HY:=zH hy;have HA:=zH ha;have HB:=zH hb;have lx:=ha.len;have ly:=hb.len;clear hx hy ha hb hf
 go_enter Tryz.func157,Tryz.ntmps157
 go_wp2_with fail;refine (Zl p A n ac xs _ (by omega) (by omega) HA.out (by omega)).mono ?_;rintro e w1 ⟨rfl,rfl⟩;rw [HX.out];go_wp2_with fail;refine (Zl p B n bc ys _ (by omega) (by omega) HB.out (by omega)).mono ?_;rintro e w1 ⟨rfl,rfl⟩;rw [HY.out];have O0:=zH (World.ownsRow_made (e:=3) (size:=1) (base:=w.heap.size) w #[] 0 (Nat.le_refl _) (by simp) rfl);go_wp2_with fail
 go_loopw [7,29] (fun v i wr=>∃(j gV c4:Nat),j≤n∧i=.int .i64 j∧v=.slice (some ⟨gV,0,none⟩) j c4∧Hid (wr.ownsRow w.heap.size 3 1 v j (((addS p xs ys).take j).map (Value.int .i64)))∧Hid (w.grownBy wr none)) (fun _ i _=>n - (intOf i).toNat)
 case atStart=>exact ⟨0,_,_,Nat.zero_le _,rfl,rfl,zH (by simpa using O0.out),zH (gbA (gbR _ _) _)⟩
 case round =>
  clear O0;obtain ⟨j,gV,c4,hj,rfl,rfl,OW,GW⟩:=hrel;have hgV:=OW.out.lt gV rfl
  by_cases hlt:j<n
  ·have i1:(j:Int)<(n:Int):=by omega
   obtain ⟨ab,ao,rfl,hab,hac⟩:=HA.out.at_ (by omega);obtain ⟨bb,bo,rfl,hbb,hbc⟩:=HB.out.at_ (by omega);have cx:=gbk GW.out (hac j hlt);have cy:=gbk GW.out (hbc j hlt);have LA:=zH hab;have LBB:=zH hbb;have HS:=zH (addS_snoc (p:=p) (xs:=xs) (ys:=ys) (k:=j) (by omega) (by omega));have EX:=zH (Wp HX.out (k:=j) (by omega));have EY:=zH (Wp HY.out (k:=j) (by omega));generalize xs.getD j 0=x at *;generalize ys.getD j 0=y at *;have hF:=fun w=>WD p x y w EX.out EY.out;obtain ⟨r,hr⟩:∃r,(x+y) % p=r:=⟨_,rfl⟩;rw [hr] at hF HS;have HF:=zH hF;clear hF hr;have CX:=zH cx;have CY:=zH cy;obtain ⟨NX,hNX⟩:∃l,(((addS p xs ys).take (j+1)).map (Value.int .i64))=l:=⟨_,rfl⟩;have HNX:=zH hNX;clear hac hbc cx cy hNX;go_wp2_with fail;refine UY [onT 32 (isV (.slice (some ⟨gV,0,none⟩) j c4)),onT 33 (isV (.int .i64 p)),onT 34 (isV (.slice (some ⟨ab,ao,none⟩) n ac)),onT 35 (isV (.int .i64 j)),onT 36 (isV (.pointer (some ⟨ab,ao+j,none⟩))),onT 37 (isV (.int .i64 x)),onT 38 (isV (.slice (some ⟨bb,bo,none⟩) n bc)),onT 39 (isV (.int .i64 j)),onT 40 (isV (.pointer (some ⟨bb,bo+j,none⟩))),onT 41 (isV (.int .i64 y)),onT 42 (isV (.int .i64 r)),onT 43 (lit1 wr.heap.size (.int .i64 r)),onT 44 (rowL w.heap.size (j+1) NX),eqF 7 44] 12 gV (by kernel_rfl) (by kernel_rfl) (by kernel_rfl) (by simp [Zn,Yg,Zb,rowL_st,lit1_st,eqF_st]) ?_ ?_
   ·simp only [hops5,and_true]
    refine ⟨?_, ?_, ?_, ?_, ?_, ?_, ?_, ?_, ?_, ?_, ?_, ?_, ?_, ?_⟩;rotate_left 12
    ·intro f w4 hG pre old hd
     have hg4:=pre (by kernel_rfl);simp [depsF,bindE,List.filter_cons,Zy,Zp,Zq,Zr,Zz,Yu,fAt,Yn,Xk,isV] at hd;obtain ⟨h56,⟨g1,e1,o1⟩,_⟩:=hd;rw [e1] at o1;have hs4:=hg4.size;have O4:=Zu (Zu OW.out (gbD (gbR wr none))) hg4;simp [puts,dsts,Act.put,h56,e1];refine Ws w4 YF rfl (.tmp 32) (.tmp 43) rfl w.heap.size _ j _ O4 rfl (some ⟨g1,0,none⟩) 1 1 _ rfl (Rd.ofOwn o1) (by simp [Value.oneCell']) (by unfold maxLen;omega) (by omega) (by have:=GW.out.size;simp at hs4;omega) ?_;intro v' w5 o5 g5;obtain ⟨An,cn,rfl,_,_⟩:=Ye o5;have O5:w5.ownsRow w.heap.size 3 1 (.slice An (j+1) cn) (j+1) NX:=by rw [← HNX.out,HS.out,List.map_append];exact o5
     refine ⟨_,rfl,⟨An,cn,rfl,by simpa [Yf,fAt,onT] using O5⟩,Or.inr ⟨Chg.of g5 fun x hx=>by simp [Value.ownBlock] at hx;simp [hx], ?_⟩⟩;simp [keeps,Yn,Xk,isV];intro hk1;obtain ⟨g2,e2,o2⟩:=hk1;refine ⟨g2,e2,own_grown o2 g5 (.inr ?_)⟩;rw [e2];have:=(o2.lt g2 (by rw [e2];rfl)).1;have:=hgV;simp [Value.ownBlock];omega
    ·intro f w4 hG pre old hd
     simp [depsF,bindE,List.filter_cons,Zy,Zp,Zq,Zr,Zz,Yu,fAt,Yn,Xk,isV] at hd;obtain ⟨⟨An,cn,e71,_⟩,_⟩:=hd;simp [puts,dsts,Act.put,e71];go_wp2_with fail;exact ⟨_,rfl,by simp [fAt,Xk,Yf,e71],Or.inl (gbR _ _)⟩
    all_goals
     intro f w4 hG pre old hd;have hg4:=pre (by kernel_rfl);have hs4:=hg4.size;have kA_:=gbk hg4 (kD CX.out);have kB_:=gbk hg4 (kD CY.out);have h6:=old 7 (by kernel_rfl) (by simp [dsts]);simp at h6;simp [depsF,bindE,List.filter_cons,Zy,Zp,Zq,Zr,Zz,Yu,fAt,Yn,Xk,isV] at hd
     first | simp [puts,dsts,Act.put,hd,h6] | simp [puts,dsts,Act.put,h6]
     go_wp2_with (go_at_call 68;refine (HF.out _).mono ?_;rintro e w5 ⟨rfl,hw⟩)
     first
      | exact ⟨_,rfl,by simp [fAt,Yn,Xk,Yf,isV],Or.inl (gbR _ _)⟩
      | exact ⟨_,rfl,by simp [fAt,Yn,Xk,Yf,isV],Or.inl hw⟩
      | exact ⟨_,rfl,⟨_,rfl,own_litI hs4 _ _⟩,Or.inl (gbA (gbR _ _) _)⟩
   intro f w4 hG hd;simp [knowsF,Yn,Xk,isV] at hd;obtain ⟨p0,p1,p2,p3,p4,p5,p6,p7,p8,p9,p10,⟨g1,e70,_⟩,⟨An,cn,e71,o71⟩,e6⟩:=hd;rw [e71] at o71 e6;have hC:Chg (fun b=>b=gV) wr w4:=(Chg.of (gbD (gbR wr none)) (fun _ h=>by cases h)).trans hG;have h2:=zH (Chg.new GW.out hC (fun i hi=>by omega));have hOS:=o71;clear hC hG o71;simp only [puts,dsts,Act.put,p0,p1,p2,p3,p4,p5,p6,p7,p8,p9,p10,e70,e71,e6,zB,zC,zA,zD,zE];clear p0 p1 p2 p3 p4 p5 p6 p7 p8 p9 p10 e70 e71 e6;rw [← HNX.out] at hOS;obtain ⟨gN,cN,hN,_,_,_⟩:=Vw hOS (by omega);rw [hN] at hOS ⊢;have h1:=zH hOS;go_wp2_with fail
   go_roundw
   case rel=>exact ⟨j+1,_,_,by omega,by go_num,rfl,h1,h2⟩
   case measure=>simp [intOf];omega
  ·have hjn:j=n:=by omega
   subst hjn;have hO:=OW.out;rw [List.take_of_length_le (by rw [Vx (by omega)];omega)] at hO;have HO:=zH hO;clear hO;go_wp2_with fail;go_ret;exact ⟨_,rfl,HO.out,GW.out⟩
set_option maxHeartbeats 2000000 in
theorem Xc (p k:Int) (A:Option Addr) (n ac:Nat) (xs:List Int) (w:World) (hx:elemsB p xs=true) (hk:elemB p k=true) (ha:Ints w A n xs) (hn:n≤1048576) :
  Calls Tryz.prog 147 #[.int .i64 p,.slice A n ac,.int .i64 k] w fun e w'=>∃v,e=.returned v∧w'.ownsRow w.heap.size 3 1 v n ((sclS p xs k).map (Value.int .i64))∧w.grownBy w' none:=by
 obtain ⟨hf,p2,p101,_⟩:=ZY hx;have HX:=zH hx;have HK:=zH hk;have HA:=zH ha;have lx:=ha.len;clear hx hk ha hf
 go_enter Tryz.func147,Tryz.ntmps147
 go_wp2_with fail;have O0:=zH (World.ownsRow_made (e:=3) (size:=1) (base:=w.heap.size) w #[] 0 (Nat.le_refl _) (by simp) rfl)
 go_loopw [7,8] (fun v i wr=>∃j:Nat,j≤n∧i=.int .i64 j∧Hid (wr.ownsRow w.heap.size 3 1 v j (((sclS p xs k).take j).map (Value.int .i64)))∧Hid (w.grownBy wr none)) (fun _ i _=>n - (intOf i).toNat)
 case atStart=>exact ⟨0,Nat.zero_le _,rfl,zH (by simpa using O0.out),zH (gbA (gbR _ _) _)⟩
 case round =>
  clear O0;obtain ⟨j,hj,rfl,OW,GW⟩:=hrel;obtain ⟨A4,c4,rfl,_,_⟩:=Ye OW.out
  by_cases hlt:j<n
  ·have i1:(j:Int)<(n:Int):=by omega
   obtain ⟨ab,ao,rfl,hab,hac⟩:=HA.out.at_ (by omega);have cx:=gbk GW.out (hac j hlt);have HS:=zH (sclS_snoc (p:=p) (c:=k) (xs:=xs) (k:=j) (by omega));have EX:=zH (Wp HX.out (k:=j) (by omega));have HAW:=zH (HA.out.grow GW.out);generalize xs.getD j 0=x at *;clear hac;go_wp2_with fail;refine (ZU p _ n ac xs _ (by omega) HAW.out (by omega)).mono ?_;rintro e w1 ⟨rfl,rfl⟩;rw [HX.out];go_wp2_with fail;refine (ZD p k _ (by omega)).mono ?_;rintro e w1 ⟨rfl,rfl⟩;rw [HK.out];go_wp2_with fail;refine (VN p x k _ EX.out HK.out).mono ?_;rintro e w2 ⟨rfl,g2⟩;have OW2:=zH (Zu OW.out g2);have GW2:=zH (gbT GW.out g2);obtain ⟨r,hr⟩:∃r,(x*k) % p=r:=⟨_,rfl⟩;rw [hr] at HS ⊢;clear g2 OW GW hr HAW
   go_wp2_with (at_builtin;(refine Yy _ w2.heap.size rfl YF rfl (.tmp 26) (.tmp 34) rfl _ rfl (by simp [Value.oneCell']) w.heap.size _ j _ OW2.out rfl rfl (by unfold maxLen;omega) (by omega) GW2.out.size ?_);intro v' w9 o9 g9;(have h1:Hid (w9.ownsRow w.heap.size 3 1 v' (j+1) (((sclS p xs k).take (j+1)).map (Value.int .i64))):=(by unfold Hid;rw [HS.out,List.map_append];exact o9);have h2:=zH (gbN GW2.out g9 (fun g e=>(OW2.out.lt g e).1));clear o9 g9 OW2 GW2))
   go_wp2_with fail
   go_roundw
   case rel=>exact ⟨j+1,by omega,by go_num,h1,h2⟩
   case measure=>simp [intOf];omega
  ·have hjn:j=n:=by omega
   subst hjn;have hO:=OW.out;rw [List.take_of_length_le (by rw [XJ];omega)] at hO;have HO:=zH hO;clear hO;go_wp2_with fail;go_ret;exact ⟨_,rfl,HO.out,GW.out⟩
set_option maxHeartbeats 2000000 in
theorem Xd (p k:Int) (A:Option Addr) (n ac:Nat) (xs:List Int) (w:World) (hx:elemsB p xs=true) (hk:elemB p k=true) (ha:Ints w A n xs) (hn:n≤1048576) :
  Calls Tryz.prog 158 #[.int .i64 p,.slice A n ac,.int .i64 k] w fun e w'=>∃v,e=.returned v∧w'.ownsRow w.heap.size 3 1 v n ((sclS p xs k).map (Value.int .i64))∧w.grownBy w' none:=by
 obtain ⟨hf,p2,p101,_⟩:=ZY hx;have HX:=zH hx;have HK:=zH hk;have HA:=zH ha;have lx:=ha.len;clear hx hk ha hf
 go_enter Tryz.func158,Tryz.ntmps158
 go_wp2_with fail;refine (YA p k _ (by omega) (by omega)).mono ?_;rintro e w1 ⟨rfl,rfl⟩;rw [HK.out];go_wp2_with fail;refine (Zl p A n ac xs _ (by omega) (by omega) HA.out (by omega)).mono ?_;rintro e w1 ⟨rfl,rfl⟩;rw [HX.out];go_wp2_with fail;have O0:=zH (World.ownsRow_made (e:=3) (size:=1) (base:=w.heap.size) w #[] 0 (Nat.le_refl _) (by simp) rfl)
 go_loopw [7,23] (fun v i wr=>∃j:Nat,j≤n∧i=.int .i64 j∧Hid (wr.ownsRow w.heap.size 3 1 v j (((sclS p xs k).take j).map (Value.int .i64)))∧Hid (w.grownBy wr none)) (fun _ i _=>n - (intOf i).toNat)
 case atStart=>exact ⟨0,Nat.zero_le _,rfl,zH (by simpa using O0.out),zH (gbA (gbR _ _) _)⟩
 case round =>
  clear O0;obtain ⟨j,hj,rfl,OW,GW⟩:=hrel;obtain ⟨A4,c4,rfl,_,_⟩:=Ye OW.out
  by_cases hlt:j<n
  ·have i1:(j:Int)<(n:Int):=by omega
   obtain ⟨ab,ao,rfl,hab,hac⟩:=HA.out.at_ (by omega);have cx:=gbk GW.out (hac j hlt);have HS:=zH (sclS_snoc (p:=p) (c:=k) (xs:=xs) (k:=j) (by omega));have EX:=zH (Wp HX.out (k:=j) (by omega));have HAW:=zH (HA.out.grow GW.out);generalize xs.getD j 0=x at *;clear hac;go_wp2_with fail;refine (VO p x k _ EX.out HK.out).mono ?_;rintro e w2 ⟨rfl,g2⟩;have OW2:=zH (Zu OW.out g2);have GW2:=zH (gbT GW.out g2);obtain ⟨r,hr⟩:∃r,(x*k) % p=r:=⟨_,rfl⟩;rw [hr] at HS ⊢;clear g2 OW GW hr HAW
   go_wp2_with (at_builtin;(refine Yy _ w2.heap.size rfl YF rfl (.tmp 27) (.tmp 32) rfl _ rfl (by simp [Value.oneCell']) w.heap.size _ j _ OW2.out rfl rfl (by unfold maxLen;omega) (by omega) GW2.out.size ?_);intro v' w9 o9 g9;(have h1:Hid (w9.ownsRow w.heap.size 3 1 v' (j+1) (((sclS p xs k).take (j+1)).map (Value.int .i64))):=(by unfold Hid;rw [HS.out,List.map_append];exact o9);have h2:=zH (gbN GW2.out g9 (fun g e=>(OW2.out.lt g e).1));clear o9 g9 OW2 GW2))
   go_wp2_with fail
   go_roundw
   case rel=>exact ⟨j+1,by omega,by go_num,h1,h2⟩
   case measure=>simp [intOf];omega
  ·have hjn:j=n:=by omega
   subst hjn;have hO:=OW.out;rw [List.take_of_length_le (by rw [XJ];omega)] at hO;have HO:=zH hO;clear hO;go_wp2_with fail;go_ret;exact ⟨_,rfl,HO.out,GW.out⟩
set_option maxHeartbeats 2000000 in
theorem VR (p k:Int) (A:Option Addr) (n ac:Nat) (xs:List Int) (w:World) (hx:elemsB p xs=true) (hk:elemB p k=true) (ha:Ints w A n xs) (hn1:1≤n) (hn:n≤1048576) :
  Calls Tryz.prog 145 #[.int .i64 p,.slice A n ac,.int .i64 k] w fun e w'=>∃v,e=.returned v∧w'.ownsRow w.heap.size 3 1 v n ((cstS p xs k).map (Value.int .i64))∧w.grownBy w' none:=by
 obtain ⟨hf,p2,p101,_⟩:=ZY hx;have HX:=zH hx;have HK:=zH hk;have HA:=zH ha;have lx:=ha.len;obtain ⟨ab,ao,rfl,hab,hac⟩:=ha.at_ (by omega);have cx:=hac 0 (by omega);rw [Nat.add_zero] at cx;have EX:=zH (Wp HX.out (k:=0) (by omega));have hF:=fun w=>Wz p (xs.getD 0 0) k w EX.out HK.out;have HC:Hid ((cstS p xs k).map (Value.int .i64)=(xs.map (Value.int .i64)).set 0 (.int .i64 ((xs.getD 0 0+k) % p))):=by unfold Hid cstS;rw [List.map_set]
 obtain ⟨r,hr⟩:∃r,(xs.getD 0 0+k) % p=r:=⟨_,rfl⟩;rw [hr] at hF HC;have HF:=zH hF;have hn0:((n:Int) == 0)=false:=by simp;omega
 have HXAt:Hid ((xs.map (Value.int .i64))[0]?=some (.int .i64 (xs.getD 0 0))):=by
  unfold Hid;rw [List.getElem?_map,List.getElem?_eq_getElem (show 0<xs.length by omega),getI xs 0 (by omega)];rfl
 clear hx hk ha hf hac hF hr;generalize xs.getD 0 0=x at *
 go_enter Tryz.func145,Tryz.ntmps145
 go_wp2_with fail;refine (ZU p _ n ac xs _ (by omega) HA.out (by omega)).mono ?_;rintro e w1 ⟨rfl,rfl⟩;rw [HX.out];go_wp2_with fail;refine (ZD p k _ (by omega)).mono ?_;rintro e w1 ⟨rfl,rfl⟩;rw [HK.out];have O0:=zH (World.ownsRow_made (e:=3) (size:=1) (base:=w.heap.size) w #[] 0 (Nat.le_refl _) (by simp) rfl);have HA1:=zH (HA.out.grow (gbA (gbR w none) (.cells #[] 3)))
 go_wp2_with (at_builtin;(refine Ws _ YF rfl (.tmp 24) (.tmp 25) rfl w.heap.size _ 0 _ O0.out rfl _ n ac (xs.map (Value.int .i64)) rfl HA1.out (by simp [Value.oneCell']) (by unfold maxLen;omega) (by omega) (by simp) ?_);intro v1 w1 o1 g1;(rw [Nat.zero_add,List.nil_append] at o1;obtain ⟨g,c,hv1,_,hg,_⟩:=Vw o1 (by omega);subst hv1;have O1:=zH o1;have c0:=(o1.cellAt 0 (by omega)).trans HXAt.out;have f0:=o1.frozenAt 0;have G1:=zH (gbN (gbA (gbR w none) (.cells #[] 3)) g1 (fun y hy=>by simp [Value.ownBlock] at hy;omega));have cx1:=gbk G1.out cx;clear o1 g1))
 go_wp2_with fail;refine (HF.out _).mono ?_;rintro e w2 ⟨rfl,g2⟩;have O2:=zH (Zu O1.out g2);have c2:=(O2.out.cellAt 0 (by omega)).trans HXAt.out;have f2:=O2.out.frozenAt 0;have OS:=zH (O2.out.stored 0 (.int .i64 r)).1;have GS:=zH (gbS (gbT G1.out g2) (p:=⟨g,0,none⟩) (by have:=hg;simpa using this) (.int .i64 r));clear g2 O1 G1 O2;go_wp2_with fail;go_ret;exact ⟨_,rfl,by rw [HC.out];exact OS.out,GS.out⟩
set_option maxHeartbeats 2000000 in
theorem VS (p k:Int) (A:Option Addr) (n ac:Nat) (xs:List Int) (w:World) (hx:elemsB p xs=true) (hk:elemB p k=true) (ha:Ints w A n xs) (hn1:1≤n) (hn:n≤1048576) :
  Calls Tryz.prog 156 #[.int .i64 p,.slice A n ac,.int .i64 k] w fun e w'=>∃v,e=.returned v∧w'.ownsRow w.heap.size 3 1 v n ((cstS p xs k).map (Value.int .i64))∧w.grownBy w' none:=by
 obtain ⟨hf,p2,p101,_⟩:=ZY hx;have HX:=zH hx;have HK:=zH hk;have HA:=zH ha;have lx:=ha.len;obtain ⟨ab,ao,rfl,hab,hac⟩:=ha.at_ (by omega);have cx:=hac 0 (by omega);rw [Nat.add_zero] at cx;have EX:=zH (Wp HX.out (k:=0) (by omega));have hF:=fun w=>WD p (xs.getD 0 0) k w EX.out HK.out;have HC:Hid ((cstS p xs k).map (Value.int .i64)=(xs.map (Value.int .i64)).set 0 (.int .i64 ((xs.getD 0 0+k) % p))):=by unfold Hid cstS;rw [List.map_set]
 obtain ⟨r,hr⟩:∃r,(xs.getD 0 0+k) % p=r:=⟨_,rfl⟩;rw [hr] at hF HC;have HF:=zH hF;have hn0:((n:Int) == 0)=false:=by simp;omega
 have HXAt:Hid ((xs.map (Value.int .i64))[0]?=some (.int .i64 (xs.getD 0 0))):=by
  unfold Hid;rw [List.getElem?_map,List.getElem?_eq_getElem (show 0<xs.length by omega),getI xs 0 (by omega)];rfl
 clear hx hk ha hf hac hF hr;generalize xs.getD 0 0=x at *
 go_enter Tryz.func156,Tryz.ntmps156
 go_wp2_with fail;refine (YA p k _ (by omega) (by omega)).mono ?_;rintro e w1 ⟨rfl,rfl⟩;rw [HK.out];go_wp2_with fail;refine (Zl p _ n ac xs _ (by omega) (by omega) HA.out (by omega)).mono ?_;rintro e w1 ⟨rfl,rfl⟩;rw [HX.out];go_wp2_with fail;refine (Qv _ n ac xs w HA.out (by omega)).mono ?_;rintro e w1 ⟨v1,rfl,o1,g1⟩;obtain ⟨g,c,rfl,_,hg,_⟩:=Vw o1 (by omega);have O1:=zH o1;have c0:=(o1.cellAt 0 (by omega)).trans HXAt.out;have f0:=o1.frozenAt 0;have G1:=zH g1;clear o1 g1;go_wp2_with fail;refine (HF.out _).mono ?_;rintro e w2 ⟨rfl,g2⟩;have O2:=zH (Zu O1.out g2);have c2:=(O2.out.cellAt 0 (by omega)).trans HXAt.out;have f2:=O2.out.frozenAt 0;have OS:=zH (O2.out.stored 0 (.int .i64 r)).1;have GS:=zH (gbS (gbT G1.out g2) (p:=⟨g,0,none⟩) (by have:=hg;simpa using this) (.int .i64 r));clear g2 O1 G1 O2;go_wp2_with fail;go_ret;exact ⟨_,rfl,by rw [HC.out];exact OS.out,GS.out⟩
end Go.Proofs.YthaadgdeadbhkaaGreat
