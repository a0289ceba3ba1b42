/-
 MulDepth: reference and program.
-/
import Derived.Test.YthaadgdeadbhkaaGreatMgFnExactCountOutcomes8
open Go.RowKit
set_option linter.unusedVariables false
set_option linter.unusedSimpArgs false
namespace Go.Proofs.YthaadgdeadbhkaaGreat
def depD (l:List Int) (s:Stp):Int :=
 if s.1=3 then max (l.getD s.2.1.toNat 0) (l.getD s.2.2.toNat 0) else if s.1=4 then 1+max (l.getD s.2.1.toNat 0) (l.getD s.2.2.toNat 0) else 0
def depsS (m:AM):Nat→List Int
 | 0=>[]
 | k+1=>depsS m k ++ [depD (depsS m k) (stAt m k)]
theorem XF (m:AM):∀k,(depsS m k).length=k
 | 0=>rfl
 | k+1=>by rw [depsS,List.length_append,XF m k];rfl
theorem Wt (m:AM):∀k,∀j,0≤(depsS m k).getD j 0∧(depsS m k).getD j 0≤k
 | 0,j=>by simp [depsS]
 | k+1,j=>by
  have ih:=Wt m k;rw [depsS,zF,List.getElem?_append]
  split
  ·have:=ih j
   rw [zF] at this;omega
  ·cases hj:j - (depsS m k).length with
   | zero =>
    have h1:=ih (stAt m k).2.1.toNat;have h2:=ih (stAt m k).2.2.toNat;simp only [List.getElem?_cons_zero,Option.getD_some,depD]
    split
    ·omega
    ·split <;> omega
   | succ i=>simp;omega
theorem depsS_bd' (m:AM) (k:Nat):∀d∈depsS m k,0≤d∧d≤k:=fun d hd=>by
 obtain ⟨i,hi,rfl⟩:=List.getElem_of_mem hd;have:=Wt m k i;rw [getI _ _ hi] at this;exact this
open Classical in
noncomputable def mdepth (m:AM):List Int:=if AOk m then depsS m m.st.length else []
theorem XW {m:AM} (h:AOk m):mdepth m=depsS m m.st.length:=by simp [mdepth,h]
theorem WJ {m:AM} (h:¬AOk m):mdepth m=[]:=by simp [mdepth,h]
theorem WL (m:AM):(mdepth m).length≤60:=by
 by_cases h:AOk m
 ·rw [XW h,XF];exact h.few
 ·rw [WJ h];simp
def RowI (r:List Int) (w:World) (e:Ending) (w':World):Prop:=∃V,e=.returned V∧w'.ownsRow w.heap.size 3 1 V r.length (r.map (Value.int .i64))∧w.grownBy w' none
theorem RowI.own {r:List Int} {w w':World} {e:Ending} (h:RowI r w e w'):∃V F,e=.returned V∧(cints r).own w' F V∧(∀g∈F,w.heap.size≤g)∧w.grownBy w' none:=by
 obtain ⟨V,h1,h2,h3⟩:=h;exact ⟨V,_,h1,Ya h2,fun g hg=>(h2.lt g (by simpa using hg)).1,h3⟩
theorem XB {m:AM} (h:AOk m) {k:Nat} (hk:k<m.st.length) {x y z:Int} (hx:stAt m k=(x,y,z)) (h3:x=3∨x=4):∃a b:Nat,y=a∧z=b∧a<k∧b<k:=by
 have h1:=h.steps k hk;rw [hx] at h1;have:¬x=1:=by omega
 have:¬x=2:=by omega
 simp [stepB, *] at h1;rw [inB_iff,inB_iff] at h1;exact ⟨y.toNat,z.toNat,by omega,by omega,by omega,by omega⟩
theorem mxIs (a b:Int):(if a<b then b else a)=max a b:=by rw [Int.max_def];split <;> split <;> omega
set_option maxRecDepth 100000 in
set_option maxHeartbeats 2000000 in
theorem QI (m:AM) (v:Value) (w:World) (h:AggR w (carith m) v) (wf:m.wf) (hok:AOk m) :
  Calls Tryz.prog 119 #[v] w (RowI (depsS m m.st.length) w):=by
 have HV:=zH h;obtain ⟨u1,u2,rfl,h1,h2⟩:=Zt h;obtain ⟨A,c,rfl,hc,hm,hF⟩:=ZP (s:=3) (fun _=>rfl) (by omega) h1;clear h h1 h2;unfold maxLen at hm;obtain ⟨n,hn⟩:∃n,m.st.length=n:=⟨_,rfl⟩;have h60:=hok.few;rw [hn] at hF hc h60 HV ⊢;have HN:=zH hn;have HF:=zH hF;have HOK:=zH hok;have HW:=zH wf;have A1:=zH (Blk.new w 38 #[.int .i64 m.p,.slice A n c,u2]);have G1:=zH (gbA (gbR w none) (.cells #[.int .i64 m.p,.slice A n c,u2] 38));clear hF wf hn hok
 go_enter Tryz.func119,Tryz.ntmps119
 go_wp2_with fail;refine (ZU m _ _ (AggR.grow HV.out G1.out) HW.out).mono ?_;rintro e w1 ⟨rfl,g⟩;rw [Yq HOK.out];have A2:=zH (A1.out.grow g);have G2:=zH (gbT G1.out g);have hlo:=G2.out.size;have O2:=zH (World.ownsRow_made (e:=3) (size:=1) (base:=w.heap.size+1) w1 #[] 0 A2.out.lt (by simp) rfl);have A3:=zH (A2.out.grow (gbA (gbR w1 none) (.cells #[] 3)));have G3:=zH (gbA G2.out (.cells #[] 3));have c1:=A2.out.cell 1;simp at c1;have hbw:=A2.out.lt;have c1':=kA c1 (.cells #[] 3);clear g A1 G1 A2 G2;go_wp2_with fail;clear c1 c1' hbw hlo
 go_loopw [3,14] (fun s i wr=>∃k:Nat,k≤n∧i=.int .i64 k∧Hid (wr.ownsRow (w.heap.size+1) 3 1 s k ((depsS m k).map (Value.int .i64)))∧Hid (Blk wr w.heap.size 38 #[.int .i64 m.p,.slice A n c,u2])∧Hid (w.grownBy wr none)) (fun _ i _=>n - (intOf i).toNat)
 case atStart=>exact ⟨0,Nat.zero_le _,rfl,O2.out,A3.out,G3.out⟩
 case round =>
  clear O2 A3 G3;obtain ⟨k,hk,rfl,hown,hB,hG⟩:=hrel
  by_cases hlt:k<n
  ·obtain ⟨b,o,x,y,z,rfl,hb,hx,q0,q1,q2⟩:=YI (FL.grow HF.out hG.out) hlt
   have i1:(k:Int)<(n:Int):=by omega
   have hx':stAt m k=(x,y,z):=by simp [stAt,zF,hx]
   have HX:=zH hx';clear hx;obtain ⟨S,sc,rfl,_,_⟩:=ZB hown.out;have HDS:Hid (depsS m (k+1)=depsS m k ++ [depD (depsS m k) (x,y,z)]):=by unfold Hid;rw [depsS,hx']
   by_cases h34:x=3∨x=4
   ·obtain ⟨ya,za,rfl,rfl,hya,hza⟩:=XB HOK.out (by rw [HN.out];exact hlt) hx' h34
    clear hx';obtain ⟨bb,ob,e1,hbb,r1⟩:=Ints.cell (show Ints wr S k (depsS m k) from Rd.ofOwn hown.out) hya;obtain ⟨bb',ob',e2,_,r2⟩:=Ints.cell (show Ints wr S k (depsS m k) from Rd.ofOwn hown.out) hza;subst e1;injection e2 with e2;injection e2 with e2 e3;subst e2;subst e3;have hd1:=Wt m k ya;have hd2:=Wt m k za
    have HA':Hid (depD (depsS m k) (x,(ya:Int),(za:Int))=if x=3 then max ((depsS m k).getD ya 0) ((depsS m k).getD za 0) else 1+max ((depsS m k).getD ya 0) ((depsS m k).getD za 0)):=by
     unfold Hid depD;simp only [Int.toNat_natCast]
     split
     ·rfl
     ·rw [if_pos (by omega)]
    rw [HA'.out] at HDS;clear HA';generalize (depsS m k).getD ya 0=da at *;generalize (depsS m k).getD za 0=db at *;have r1':=fun o=>kA r1 o;have r2':=fun o=>kA r2 o;have hib:(ya:Int)<(k:Int):=by omega
    have hic:(za:Int)<(k:Int):=by omega
    have hmx:0≤max da db∧max da db≤k:=by rw [Int.max_def];split <;> omega
    rcases h34 with rfl | rfl
    ·rw [if_pos rfl] at HDS
     go_wp2_with fail
     go_quiet (fail)
     rw [mxIs];generalize max da db=M at *;have OW:=zH (Zj hown.out (gbDN (gbA (gbR wr none) (.cells #[.int .i64 3,.int .i64 ya,.int .i64 za] 102)) nq));have BW:=zH (hB.out.grow (gbDN (gbA (gbR wr none) (.cells #[.int .i64 3,.int .i64 ya,.int .i64 za] 102)) nq));have GW:=zH (gbT hG.out (gbDN (gbA (gbR wr none) (.cells #[.int .i64 3,.int .i64 ya,.int .i64 za] 102)) nq));have hsz:=hB.out.lt;clear hown hB hG
     go_wp2_with (at_builtin;refine ZK _ (wr.heap.size+1) (by simp) ZZ rfl (.tmp 42) (.tmp 44) rfl _ rfl (by simp [Value.oneCell']) (w.heap.size+1) _ k _ OW.out rfl rfl (by unfold maxLen;omega) (by omega) (by simp;omega) ?_;intro v' w5 hown5 hgrow5)
     have h1:Hid (w5.ownsRow (w.heap.size+1) 3 1 v' (k+1) ((depsS m (k+1)).map (Value.int .i64))):=by unfold Hid;rw [HDS.out];simpa using hown5
     have h2:=zH (BW.out.grown hgrow5 (fun e=>by have:=(OW.out.lt _ e.symm).1;omega));have h3:=zH (gbN GW.out hgrow5 fun g e=>by have:=(OW.out.lt g e).1;omega);clear hown5 hgrow5 OW BW GW;go_wp2_with fail
     go_roundw
     case rel=>exact ⟨k+1,by omega,by go_num,h1,h2.out,h3.out⟩
     case measure=>simp [intOf];omega
    ·rw [if_neg (by decide)] at HDS
     go_wp2_with fail
     go_quiet (fail)
     rw [mxIs];generalize max da db=M at *;have HDS':Hid (depsS m (k+1)=depsS m k ++ [M+1]):=by have:=HDS.out;unfold Hid;rw [this,Int.add_comm]
     clear HDS;have HDS:=HDS';have OW:=zH (Zj hown.out (gbDN (gbA (gbR wr none) (.cells #[.int .i64 4,.int .i64 ya,.int .i64 za] 102)) nq));have BW:=zH (hB.out.grow (gbDN (gbA (gbR wr none) (.cells #[.int .i64 4,.int .i64 ya,.int .i64 za] 102)) nq));have GW:=zH (gbT hG.out (gbDN (gbA (gbR wr none) (.cells #[.int .i64 4,.int .i64 ya,.int .i64 za] 102)) nq));have hsz:=hB.out.lt;clear hown hB hG
     go_wp2_with (at_builtin;refine ZK _ (wr.heap.size+1) (by simp) ZZ rfl (.tmp 42) (.tmp 44) rfl _ rfl (by simp [Value.oneCell']) (w.heap.size+1) _ k _ OW.out rfl rfl (by unfold maxLen;omega) (by omega) (by simp;omega) ?_;intro v' w5 hown5 hgrow5)
     have h1:Hid (w5.ownsRow (w.heap.size+1) 3 1 v' (k+1) ((depsS m (k+1)).map (Value.int .i64))):=by unfold Hid;rw [HDS.out];simpa using hown5
     have h2:=zH (BW.out.grown hgrow5 (fun e=>by have:=(OW.out.lt _ e.symm).1;omega));have h3:=zH (gbN GW.out hgrow5 fun g e=>by have:=(OW.out.lt g e).1;omega);clear hown5 hgrow5 OW BW GW;go_wp2_with fail
     go_roundw
     case rel=>exact ⟨k+1,by omega,by go_num,h1,h2.out,h3.out⟩
     case measure=>simp [intOf];omega
   ·have d3:(x == 3)=false:=by simp;omega
    have d4:(x == 4)=false:=by simp;omega
    have HD0:Hid (depD (depsS m k) (x,y,z)=0):=by unfold Hid depD;rw [if_neg (by simp;omega),if_neg (by simp;omega)]
    rw [HD0.out] at HDS;clear HD0 h34 hx';have OW:=zH (Zj hown.out (gbA (gbR wr none) (.cells #[.int .i64 x,.int .i64 y,.int .i64 z] 102)));have BW:=zH (hB.out.grow (gbA (gbR wr none) (.cells #[.int .i64 x,.int .i64 y,.int .i64 z] 102)));have GW:=zH (gbT hG.out (gbA (gbR wr none) (.cells #[.int .i64 x,.int .i64 y,.int .i64 z] 102)));have hsz:=hB.out.lt;clear hown hB hG
    go_wp2_with (at_builtin;refine ZK _ (wr.heap.size+1) (by simp) ZZ rfl (.tmp 42) (.tmp 44) rfl _ rfl (by simp [Value.oneCell']) (w.heap.size+1) _ k _ OW.out rfl rfl (by unfold maxLen;omega) (by omega) (by simp;omega) ?_;intro v' w5 hown5 hgrow5)
    have h1:Hid (w5.ownsRow (w.heap.size+1) 3 1 v' (k+1) ((depsS m (k+1)).map (Value.int .i64))):=by unfold Hid;rw [HDS.out];simpa using hown5
    have h2:=zH (BW.out.grown hgrow5 (fun e=>by have:=(OW.out.lt _ e.symm).1;omega));have h3:=zH (gbN GW.out hgrow5 fun g e=>by have:=(OW.out.lt g e).1;omega);clear hown5 hgrow5 OW BW GW;go_wp2_with fail
    go_roundw
    case rel=>exact ⟨k+1,by omega,by go_num,h1,h2.out,h3.out⟩
    case measure=>simp [intOf];omega
  ·have hkn:k=n:=by omega
   subst hkn;go_wp2_with fail;go_ret;exact ⟨_,rfl,by rw [XF];exact ZE hown.out (by omega),hG.out⟩
theorem Kz (m:AM) (v:Value) (w:World) (h:AggR w (carith m) v) (wf:m.wf) (hok:¬AOk m) :
  Calls Tryz.prog 119 #[v] w (RowI [] w):=by
 have HV:=zH h;obtain ⟨u1,u2,rfl,h1,h2⟩:=Zt h;have HOK:=zH hok;have HW:=zH wf;clear h h1 h2 wf hok
 go_enter Tryz.func119,Tryz.ntmps119
 go_wp2_with fail;refine (ZU m _ _ (AggR.grow HV.out (gbA (gbR w none) _)) HW.out).mono ?_;rintro e w1 ⟨rfl,g⟩;rw [Yy HOK.out];have G:=zH (gbT (gbA (gbR w none) _) g);clear g;go_wp2_with fail;go_ret;exact ⟨_,rfl,World.ownsRow_nil _ _ _ _,G.out⟩
theorem VU (m:AM) (v:Value) (w:World) (h:AggR w (carith m) v) (wf:m.wf) :
  Calls Tryz.prog 119 #[v] w (RowI (mdepth m) w):=by
 by_cases hok:AOk m
 ·rw [XW hok];exact QI m v w h wf hok
 ·rw [WJ hok];exact Kz m v w h wf hok
set_option maxRecDepth 100000 in
set_option maxHeartbeats 2000000 in
theorem QJ (m:AM) (v:Value) (w:World) (h:AggR w (carith m) v) (wf:m.wf) (hok:AOk m) :
  Calls Tryz.prog 98 #[v] w (RowI (depsS m m.st.length) w):=by
 have HV:=zH h;obtain ⟨u1,u2,rfl,h1,h2⟩:=Zt h;obtain ⟨A,c,rfl,hc,hm,hF⟩:=ZP (s:=3) (fun _=>rfl) (by omega) h1;clear h h1 h2;unfold maxLen at hm;obtain ⟨n,hn⟩:∃n,m.st.length=n:=⟨_,rfl⟩;have h60:=hok.few;rw [hn] at hF hc h60 HV ⊢;have HN:=zH hn;have HF:=zH hF;have HOK:=zH hok;have HW:=zH wf;have A1:=zH (Blk.new w 38 #[.int .i64 m.p,.slice A n c,u2])
 have O2:Hid (((w.alloc (.cells #[.int .i64 m.p,.slice A n c,u2] 38)).alloc (.cells #[] 3)).ownsRow (w.heap.size+1) 3 1 (.slice (some ⟨w.heap.size+1,0,none⟩) 0 0) 0 []):=by
  have:=World.ownsRow_made (e:=3) (size:=1) (base:=w.heap.size+1) (w.alloc (.cells #[.int .i64 m.p,.slice A n c,u2] 38)) #[] 0 A1.out.lt (by simp) rfl
  simpa [Hid] using this
 have A3:=zH (A1.out.grow (gbA (gbR _ none) (.cells #[] 3)));have G3:=zH (gbA (gbA (gbR w none) (.cells #[.int .i64 m.p,.slice A n c,u2] 38)) (.cells #[] 3));clear hF wf hn hok A1
 go_enter Tryz.func98,Tryz.ntmps98
 go_wp2_with fail
 go_loopw [3,4] (fun s i wr=>∃k:Nat,k≤n∧i=.int .i64 k∧Hid (wr.ownsRow (w.heap.size+1) 3 1 s k ((depsS m k).map (Value.int .i64)))∧Hid (Blk wr w.heap.size 38 #[.int .i64 m.p,.slice A n c,u2])∧Hid (w.grownBy wr none)) (fun _ i _=>n - (intOf i).toNat)
 case atStart=>exact ⟨0,Nat.zero_le _,rfl,O2.out,A3.out,G3.out⟩
 case round =>
  clear O2 A3 G3;obtain ⟨k,hk,rfl,hown,hB,hG⟩:=hrel;have k0:=hB.out.cell 0;have k1:=hB.out.cell 1;have k2:=hB.out.cell 2;simp at k0 k1 k2
  by_cases hlt:k<n
  ·have i1:(k:Int)<(n:Int):=by omega
   go_wp2_with fail;refine (Yd m _ _ (AggR.grow HV.out hG.out) HW.out).mono ?_;rintro e w1 ⟨rfl,g⟩;rw [Yq HOK.out];clear k0 k1 k2;have hown':=zH (Zj hown.out g);have hB':=zH (hB.out.grow g);have hG':=zH (gbT hG.out g);clear g hown hB hG;have hown:=hown';have hB:=hB';have hG:=hG';clear hown' hB' hG';have k1:=hB.out.cell 1;simp at k1;obtain ⟨b,o,x,y,z,rfl,hb,hx,q0,q1,q2⟩:=YI (FL.grow HF.out hG.out) hlt;have hx':stAt m k=(x,y,z):=by simp [stAt,zF,hx]
   have HX:=zH hx';clear hx;obtain ⟨S,sc,rfl,_,_⟩:=ZB hown.out;have HDS:Hid (depsS m (k+1)=depsS m k ++ [depD (depsS m k) (x,y,z)]):=by unfold Hid;rw [depsS,hx']
   have hsz:=hB.out.lt
   by_cases h34:x=3∨x=4
   ·obtain ⟨ya,za,rfl,rfl,hya,hza⟩:=XB HOK.out (by rw [HN.out];exact hlt) hx' h34
    clear hx';obtain ⟨bb,ob,e1,hbb,r1⟩:=Ints.cell (show Ints w1 S k (depsS m k) from Rd.ofOwn hown.out) hya;obtain ⟨bb',ob',e2,_,r2⟩:=Ints.cell (show Ints w1 S k (depsS m k) from Rd.ofOwn hown.out) hza;subst e1;injection e2 with e2;injection e2 with e2 e3;subst e2;subst e3;have hd1:=Wt m k ya;have hd2:=Wt m k za
    have HA':Hid (depD (depsS m k) (x,(ya:Int),(za:Int))=if x=3 then max ((depsS m k).getD ya 0) ((depsS m k).getD za 0) else 1+max ((depsS m k).getD ya 0) ((depsS m k).getD za 0)):=by
     unfold Hid depD;simp only [Int.toNat_natCast]
     split
     ·rfl
     ·rw [if_pos (by omega)]
    rw [HA'.out] at HDS;clear HA';generalize (depsS m k).getD ya 0=da at *;generalize (depsS m k).getD za 0=db at *;have r1':=fun o=>kA r1 o;have r2':=fun o=>kA r2 o;have hib:(ya:Int)<(k:Int):=by omega
    have hic:(za:Int)<(k:Int):=by omega
    have hmx:0≤max da db∧max da db≤k:=by rw [Int.max_def];split <;> omega
    have hmx1:0≤(if da<db then db else da):=by rw [mxIs];omega
    have hmx2:(if da<db then db else da)≤60:=by rw [mxIs];omega
    rcases h34 with rfl | rfl
    ·rw [if_pos rfl] at HDS
     go_wp2_with fail
     go_quiet (fail)
     rw [mxIs] at *;generalize max da db=M at *;have OW:=zH (Zj hown.out (gbDN (gbA (gbR w1 none) (.cells #[.int .i64 3,.int .i64 ya,.int .i64 za] 102)) nq));have BW:=zH (hB.out.grow (gbDN (gbA (gbR w1 none) (.cells #[.int .i64 3,.int .i64 ya,.int .i64 za] 102)) nq));have GW:=zH (gbT hG.out (gbDN (gbA (gbR w1 none) (.cells #[.int .i64 3,.int .i64 ya,.int .i64 za] 102)) nq));have hsz:=hB.out.lt;clear hown hB hG
     go_wp2_with (at_builtin;refine ZK _ (w1.heap.size+1) (by simp) ZZ rfl (.tmp 53) (.tmp 55) rfl _ rfl (by simp [Value.oneCell']) (w.heap.size+1) _ k _ OW.out rfl rfl (by unfold maxLen;omega) (by omega) (by simp;omega) ?_;intro v' w5 hown5 hgrow5)
     have h1:Hid (w5.ownsRow (w.heap.size+1) 3 1 v' (k+1) ((depsS m (k+1)).map (Value.int .i64))):=by unfold Hid;rw [HDS.out];simpa using hown5
     have h2:=zH (BW.out.grown hgrow5 (fun e=>by have:=(OW.out.lt _ e.symm).1;omega));have h3:=zH (gbN GW.out hgrow5 fun g e=>by have:=(OW.out.lt g e).1;omega);clear hown5 hgrow5 OW BW GW;go_wp2_with fail
     go_roundw
     case rel=>exact ⟨k+1,by omega,by go_num,h1,h2.out,h3.out⟩
     case measure=>simp [intOf];omega
    ·rw [if_neg (by decide)] at HDS
     go_wp2_with fail
     go_quiet (fail)
     rw [mxIs] at *;generalize max da db=M at *;have OW:=zH (Zj hown.out (gbDN (gbA (gbR w1 none) (.cells #[.int .i64 4,.int .i64 ya,.int .i64 za] 102)) nq));have BW:=zH (hB.out.grow (gbDN (gbA (gbR w1 none) (.cells #[.int .i64 4,.int .i64 ya,.int .i64 za] 102)) nq));have GW:=zH (gbT hG.out (gbDN (gbA (gbR w1 none) (.cells #[.int .i64 4,.int .i64 ya,.int .i64 za] 102)) nq));have hsz:=hB.out.lt;clear hown hB hG
     go_wp2_with (at_builtin;refine ZK _ (w1.heap.size+1) (by simp) ZZ rfl (.tmp 53) (.tmp 55) rfl _ rfl (by simp [Value.oneCell']) (w.heap.size+1) _ k _ OW.out rfl rfl (by unfold maxLen;omega) (by omega) (by simp;omega) ?_;intro v' w5 hown5 hgrow5)
     have h1:Hid (w5.ownsRow (w.heap.size+1) 3 1 v' (k+1) ((depsS m (k+1)).map (Value.int .i64))):=by unfold Hid;rw [HDS.out];simpa using hown5
     have h2:=zH (BW.out.grown hgrow5 (fun e=>by have:=(OW.out.lt _ e.symm).1;omega));have h3:=zH (gbN GW.out hgrow5 fun g e=>by have:=(OW.out.lt g e).1;omega);clear hown5 hgrow5 OW BW GW;go_wp2_with fail
     go_roundw
     case rel=>exact ⟨k+1,by omega,by go_num,h1,h2.out,h3.out⟩
     case measure=>simp [intOf];omega
   ·have d3:(x == 3)=false:=by simp;omega
    have d4:(x == 4)=false:=by simp;omega
    have HD0:Hid (depD (depsS m k) (x,y,z)=0):=by unfold Hid depD;rw [if_neg (by simp;omega),if_neg (by simp;omega)]
    rw [HD0.out] at HDS;clear HD0 h34 hx';have OW:=zH (Zj hown.out (gbA (gbR w1 none) (.cells #[.int .i64 x,.int .i64 y,.int .i64 z] 102)));have BW:=zH (hB.out.grow (gbA (gbR w1 none) (.cells #[.int .i64 x,.int .i64 y,.int .i64 z] 102)));have GW:=zH (gbT hG.out (gbA (gbR w1 none) (.cells #[.int .i64 x,.int .i64 y,.int .i64 z] 102)));have hsz:=hB.out.lt;clear hown hB hG
    go_wp2_with (at_builtin;refine ZK _ (w1.heap.size+1) (by simp) ZZ rfl (.tmp 53) (.tmp 55) rfl _ rfl (by simp [Value.oneCell']) (w.heap.size+1) _ k _ OW.out rfl rfl (by unfold maxLen;omega) (by omega) (by simp;omega) ?_;intro v' w5 hown5 hgrow5)
    have h1:Hid (w5.ownsRow (w.heap.size+1) 3 1 v' (k+1) ((depsS m (k+1)).map (Value.int .i64))):=by unfold Hid;rw [HDS.out];simpa using hown5
    have h2:=zH (BW.out.grown hgrow5 (fun e=>by have:=(OW.out.lt _ e.symm).1;omega));have h3:=zH (gbN GW.out hgrow5 fun g e=>by have:=(OW.out.lt g e).1;omega);clear hown5 hgrow5 OW BW GW;go_wp2_with fail
    go_roundw
    case rel=>exact ⟨k+1,by omega,by go_num,h1,h2.out,h3.out⟩
    case measure=>simp [intOf];omega
  ·have hkn:k=n:=by omega
   subst hkn;have d0:decide ((k:Int)<(k:Int))=false:=by simp
   go_wp2_with fail;go_ret;exact ⟨_,rfl,by rw [XF];exact ZE hown.out (by omega),hG.out⟩
theorem KD (m:AM) (v:Value) (w:World) (h:AggR w (carith m) v) (wf:m.wf) (hok:¬AOk m) :
  Calls Tryz.prog 98 #[v] w (RowI [] w):=by
 have HV:=zH h;obtain ⟨u1,u2,rfl,h1,h2⟩:=Zt h;obtain ⟨A,c,rfl,hc,hm,hF⟩:=ZP (s:=3) (fun _=>rfl) (by omega) h1;have HOK:=zH hok;have HW:=zH wf;have G1:=zH (gbA (gbR w none) (.cells #[.int .i64 m.p,.slice A m.st.length c,u2] 38));have G3:=zH (gbA G1.out (.cells #[] 3));have A1:=zH (Blk.new w 38 #[.int .i64 m.p,.slice A m.st.length c,u2])
 have O2:Hid (((w.alloc (.cells #[.int .i64 m.p,.slice A m.st.length c,u2] 38)).alloc (.cells #[] 3)).ownsRow (w.heap.size+1) 3 1 (.slice (some ⟨w.heap.size+1,0,none⟩) 0 0) 0 []):=by
  have:=World.ownsRow_made (e:=3) (size:=1) (base:=w.heap.size+1) (w.alloc (.cells #[.int .i64 m.p,.slice A m.st.length c,u2] 38)) #[] 0 A1.out.lt (by simp) rfl
  simpa [Hid] using this
 clear h h1 h2 wf hok hF;generalize m.st.length=n at *;unfold maxLen at hm
 rcases Nat.eq_zero_or_pos n with h0 | h0
 ·subst h0
  go_enter Tryz.func98,Tryz.ntmps98
  go_wp2_with fail;refine wp_loop_rounds 1 ?_;rw [rounds_succ];go_wp2_with fail;go_ret;exact ⟨_,rfl,ZE O2.out (by omega),G3.out⟩
 ·have i1:(0:Int)<(n:Int):=by omega
  go_enter Tryz.func98,Tryz.ntmps98
  go_wp2_with fail;refine wp_loop_rounds 1 ?_;rw [rounds_succ];go_wp2_with fail;refine (Yd m _ _ (AggR.grow HV.out G3.out) HW.out).mono ?_;rintro e w1 ⟨rfl,g⟩;rw [Yy HOK.out];have O3:=zH (Zj O2.out g);have G4:=zH (gbT G3.out g);clear g;go_wp2_with fail;go_ret;exact ⟨_,rfl,ZE O3.out (by omega),G4.out⟩
theorem VV (m:AM) (v:Value) (w:World) (h:AggR w (carith m) v) (wf:m.wf) :
  Calls Tryz.prog 98 #[v] w (RowI (mdepth m) w):=by
 by_cases hok:AOk m
 ·rw [XW hok];exact QJ m v w h wf hok
 ·rw [WJ hok];exact KD m v w h wf hok
def waitsT (ops:Array Oper):Nat→Nat→List Nat
 | 0,_=>[]
 | n+1,s=>waits ops s ++ (waits ops s).flatMap (waitsT ops n)
def aheadB (ops:Array Oper) (s k:Nat):Bool:=k == s||(waitsT ops ops.size s).contains k
def oldB (ops:Array Oper) (k d:Nat):Bool:=ops.toList.zipIdx.all fun (o,s)=>!(o.dst == some d)||aheadB ops s k
def hop5 (P:Program) (ops:Array Oper) (T:List Fact) (W:World) (a0:Act) (s0 g0:Nat) (o:Oper) (k:Nat):Prop :=
 ∀(f:Tmp→Value) (w:World),Chg (fun b=>b=g0) W w→(aheadB ops s0 k=true→W.grownBy w none)→(∀d,oldB ops k d=true→d∈dsts ops→f d=a0.tmps.getD d undef)→depsF T f w (bindE o) →
  wpList P ops (Only fun a' w'=>∃v,a'=(puts a0 (dsts ops) f).put o.dst v∧(fAt T k).at_ (upd f o.dst v) w'∧(w.grownBy w' none∨(Chg (fun b=>W.heap.size≤b∨(k=s0∧b=g0)) w w'∧keeps f w w' k T 0))) [o] (puts a0 (dsts ops) f) w
def hops5 (P:Program) (ops:Array Oper) (T:List Fact) (W:World) (a0:Act) (s0 g0:Nat):List Oper→Nat→Prop
 | [],_=>True
 | o :: l,k=>hop5 P ops T W a0 s0 g0 o k∧hops5 P ops T W a0 s0 g0 l (k+1)
theorem hops5_at {P:Program} {ops:Array Oper} {T:List Fact} {W:World} {a0:Act} {s0 g0:Nat}:∀{l:List Oper} {k i:Nat} {o:Oper},hops5 P ops T W a0 s0 g0 l k→l[i]?=some o→hop5 P ops T W a0 s0 g0 o (k+i)
 | [],_,_,_,_,h=>by simp at h
 | x :: l,k,0,o,h,hi=>by simp at hi;subst hi;exact h.1
 | x :: l,k,i+1,o,h,hi=>by
  simp at hi;have:=hops5_at (k:=k+1) (i:=i) h.2 hi
  rwa [show k+1+i=k+(i+1) by omega] at this
structure GInv5 (ops:Array Oper) (T:List Fact) (W:World) (a0:Act) (s0 g0:Nat) (listed:Array Bool) (a:Act) (w:World):Prop where
 g:Chg (fun b=>b=g0) W w
 pre:listed.getD s0 false=false→W.grownBy w none
 old:∀i o d,ops[i]?=some o→o.dst=some d→listed.getD i false=false→a.tmps.getD d undef=a0.tmps.getD d undef
 sz:listed.size=ops.size
 tz:a.tmps.size=a0.tmps.size
 df:a.defers=a0.defers
 out:∀t,t∉dsts ops→a.tmps[t]?=a0.tmps[t]?
 facts:∀k o,ops[k]?=some o→listed.getD k false=true→(fAt T k).at_ (fun d=>a.tmps.getD d undef) w
 closed:∀k o,ops[k]?=some o→listed.getD k false=true→∀e∈bindE o,listed.getD e.on false=true
section
variable {P:Program} {ops:Array Oper} {T:List Fact} {W:World} {a0:Act} {s0 g0:Nat} {Q:Exit→Act→World→Prop}
theorem Qz {listed:Array Bool} (hc:∀k o,ops[k]?=some o→listed.getD k false=true→∀e∈bindE o,listed.getD e.on false=true) {s k:Nat} (hs:listed.getD s false=true) (hk:k∈waits ops s):listed.getD k false=true:=by
 unfold waits at hk
 cases hos:ops[s]? with
 | none=>rw [hos] at hk;cases hk
 | some os =>
  rw [hos] at hk;obtain ⟨e,he,hei⟩:=List.mem_map.1 hk;rw [← hei];exact hc s os hos hs e he
theorem UI {listed:Array Bool} (hc:∀k o,ops[k]?=some o→listed.getD k false=true→∀e∈bindE o,listed.getD e.on false=true):∀(n:Nat) {s k:Nat},listed.getD s false=true→k∈waitsT ops n s→listed.getD k false=true
 | 0,_,_,_,hk=>by cases hk
 | n+1,s,k,hs,hk=>by
  rcases List.mem_append.1 hk with hk | hk
  ·exact Qz hc hs hk
  ·obtain ⟨j,hj,hk⟩:=List.mem_flatMap.1 hk
   exact UI hc n (Qz hc hs hj) hk
theorem Vg {listed:Array Bool} (hc:∀k o,ops[k]?=some o→listed.getD k false=true→∀e∈bindE o,listed.getD e.on false=true) {s k:Nat} (hk:listed.getD k false=false) (h:aheadB ops s k=true):listed.getD s false=false:=by
 cases hs:listed.getD s false with
 | false=>rfl
 | true =>
  exfalso
  unfold aheadB at h;rw [Bool.or_eq_true] at h
  rcases h with h | h
  ·have:k=s:=by simpa using h
   subst this;rw [hk] at hs;cases hs
  ·have:=UI hc _ hs (by simpa using h)
   rw [hk] at this;cases this
theorem GInv5.step {listed:Array Bool} {a:Act} {w:World} (K:RegOk ops T) (hsz:∀d∈dsts ops,d<a0.tmps.size) (hst:Zw T) (h:GInv5 ops T W a0 s0 g0 listed a w) {i:Nat} {o:Oper} (hi:ops[i]?=some o)
  (hun:listed.getD i false=false) (hwait:∀e∈bindE o,listed.getD e.on false=true) {v:Value} {w':World} (hv:(fAt T i).at_ (upd (fun d=>a.tmps.getD d undef) o.dst v) w')
  (hg:w.grownBy w' none∨(Chg (fun b=>W.heap.size≤b∨(i=s0∧b=g0)) w w'∧keeps (fun d=>a.tmps.getD d undef) w w' i T 0)):GInv5 ops T W a0 s0 g0 (listed.setIfInBounds i true) (a.put o.dst v) w':=by
 have hdlt:∀d,o.dst=some d→d<a.tmps.size:=fun d hd=>by rw [h.tz];exact hsz d (YM hi hd)
 have hil:i<listed.size:=by rw [h.sz];exact (Array.getElem?_eq_some_iff.1 hi).1
 have lset:∀k,k≠i→(listed.setIfInBounds i true).getD k false=listed.getD k false:=fun k hk=>by
  simp only [Array.getD_eq_getD_getElem?,Array.getElem?_setIfInBounds,Ne.symm hk,if_false]
 have lold:∀k,listed.getD k false=true→(listed.setIfInBounds i true).getD k false=true:=fun k hk=>by
  by_cases e:k=i
  ·subst e;simp [hil]
  ·rw [lset k e];exact hk
 have hf:(fun d=>(a.put o.dst v).tmps.getD d undef)=upd (fun d=>a.tmps.getD d undef) o.dst v:=by
  funext t;exact Vd a o.dst v t hdlt
 refine ⟨?_,fun hs => ?_,fun j oj d hj hd hl => ?_,by simp [h.sz], ?_, ?_,fun t ht => ?_,fun k ok hk hl => ?_,fun k ok hk hl e he => ?_⟩
 ·rcases hg with hg | ⟨hg,_⟩
  ·exact h.g.trans (Chg.of hg fun g hg'=>by simp at hg')
  ·refine ⟨hg.os.trans h.g.os,hg.tape.trans h.g.tape,hg.output.trans h.g.output,Nat.le_trans h.g.size hg.size,fun b hb hs => ?_⟩
   rw [hg.block b (Nat.lt_of_lt_of_le hb h.g.size) fun hs' => ?_,h.g.block b hb hs]
   rcases hs' with h1 | h1
   ·omega
   ·exact hs h1.2
 ·have his:i≠s0:=fun e=>by subst e;simp [hil] at hs
  rw [lset s0 (Ne.symm his)] at hs;have h0:=h.pre hs
  rcases hg with hg | ⟨hg,_⟩
  ·exact gbT h0 hg
  ·refine ⟨hg.os.trans h0.os,hg.tape.trans h0.tape,hg.output.trans h0.output,Nat.le_trans h0.size hg.size,fun b hb hs => ?_⟩
   rw [hg.block b (Nat.lt_of_lt_of_le hb h0.size) fun hs' => ?_,h0.block b hb hs]
   rcases hs' with h1 | h1
   ·omega
   ·exact his h1.1
 ·have hji:j≠i:=fun e=>by subst e;simp [hil] at hl
  rw [lset j hji] at hl;have hne:o.dst≠some d:=fun hd'=>Ym K.nodup (l:=ops.toList) (i:=j) (j:=i) (by simpa using hj) (by simpa using hi) hji hd hd';have h9:(a.put o.dst v).tmps.getD d undef=upd (fun d=>a.tmps.getD d undef) o.dst v d:=congrFun hf d;rw [h9,Xi _ _ _ _ hne];exact h.old j oj d hj hd hl
 ·rw [← h.tz];cases o.dst <;> simp [Act.put]
 ·rw [← h.df];cases o.dst <;> rfl
 ·rw [← h.out t ht]
  cases hd:o.dst with
  | none=>rfl
  | some d =>
   have:d≠t:=fun e=>ht (e ▸ YM hi hd);simp [Act.put,this]
 ·rw [hf]
  by_cases hik:k=i
  ·subst hik
   exact hv
  ·rw [lset k hik] at hl
   have hold:=h.facts k ok hk hl
   have hne:∀t∈(fAt T k).ts,o.dst≠some t:=fun t ht hd=>by
    rcases K.sup k ok hk t ht with h1 | ⟨e,he,o',ho',hd'⟩
    ·exact Ym K.nodup (l:=ops.toList) (i:=k) (j:=i) (by simpa using hk) (by simpa using hi) hik h1 hd
    ·have h2:=h.closed k ok hk hl e he
     have h3:e.on≠i:=fun x=>by rw [x,hun] at h2;cases h2
     exact Ym K.nodup (l:=ops.toList) (i:=e.on) (j:=i) (by simpa using ho') (by simpa using hi) h3 hd' hd
   have hmap:(fAt T k).ts.map (upd (fun d=>a.tmps.getD d undef) o.dst v)=(fAt T k).ts.map (fun d=>a.tmps.getD d undef):=List.map_congr_left fun t ht=>Xi _ _ _ _ (hne t ht);unfold Fact.at_;rw [hmap]
   rcases hg with hg | ⟨_,hk2⟩
   ·exact Xr hst k _ _ _ hold hg
   ·cases hT:T[k]? with
    | none=>unfold fAt;rw [hT];trivial
    | some F =>
     have e:fAt T k=F:=by unfold fAt;rw [hT];rfl
     rw [e] at hold ⊢;exact VB hk2 hT (by omega) hold
 ·by_cases hik:k=i
  ·subst hik
   obtain rfl:ok=o:=by rw [hi] at hk;injection hk with hk;exact hk.symm
   exact lold _ (hwait e he)
  ·rw [lset k hik] at hl
   exact lold _ (h.closed k ok hk hl e he)
theorem GInv5.is {listed:Array Bool} {a:Act} {w:World} (h:GInv5 ops T W a0 s0 g0 listed a w):a=puts a0 (dsts ops) (fun d=>a.tmps.getD d undef):=Ub h.tz h.df h.out
theorem GInv5.old_ {listed:Array Bool} {a:Act} {w:World} (h:GInv5 ops T W a0 s0 g0 listed a w) {k d:Nat} (hk:listed.getD k false=false) (ho:oldB ops k d=true) (hd:d∈dsts ops):a.tmps.getD d undef=a0.tmps.getD d undef:=by
 unfold dsts at hd;obtain ⟨o,ho',hd'⟩:=List.mem_filterMap.1 hd;obtain ⟨i,hi⟩:=List.mem_iff_getElem?.1 ho';have hi':ops[i]?=some o:=by simpa using hi
 refine h.old i o d hi' hd' (Vg h.closed hk ?_);have:=List.all_eq_true.1 ho (o,i) (by rw [List.mem_zipIdx_iff_getElem?];simpa using hi')
 simpa [hd'] using this
theorem reg5_any (K:RegOk ops T) (hsz:∀d∈dsts ops,d<a0.tmps.size) (hst:Zw T) (hh:hops5 P ops T W a0 s0 g0 ops.toList 0)
  (fin:∀(f:Tmp→Value) (w:World),Chg (fun b=>b=g0) W w→knowsF T f w T→Q .normal (puts a0 (dsts ops) f) w) :
  ∀(fuel:Nat) (listed:Array Bool) (a:Act) (w:World),GInv5 ops T W a0 s0 g0 listed a w→listed.toList.countP (fun b=>!b)≤fuel→wpAny P .any ops Q fuel listed a w:=by
 have done:∀(listed:Array Bool) (a:Act) (w:World),GInv5 ops T W a0 s0 g0 listed a w→Region.ready .any ops listed=[]→Q .normal a w:=fun listed a w h hr=>by
  rw [h.is];refine fin _ w h.g (Ux fun F hF => ?_);obtain ⟨k,hk⟩:=List.mem_iff_getElem?.1 hF;have hkl:k<ops.size:=Nat.lt_of_lt_of_le (List.getElem?_eq_some_iff.1 hk).1 K.len;have:=h.facts k ops[k] (Array.getElem?_eq_getElem hkl) (YN K h.sz hr (k+1) k (by omega) hkl);unfold fAt at this;rw [hk] at this;exact this
 intro fuel
 induction fuel with
 | zero =>
  intro listed a w h hc
  have hr:Region.ready .any ops listed=[]:=by
   cases hr:Region.ready .any ops listed with
   | nil=>rfl
   | cons i l =>
    exfalso
    have hi:=(mem_ready.1 (show i∈Region.ready .any ops listed by rw [hr];exact List.mem_cons_self ..)).1;have h0:listed.toList.countP (fun b=>!b)=0:=by omega
    rw [List.countP_eq_zero] at h0
    have hlt:i<listed.size:=by
     rcases Nat.lt_or_ge i listed.size with h1 | h1
     ·exact h1
     ·simp [Array.getElem?_eq_none h1] at hi
    have hv:listed[i]=false:=by simpa [hlt] using hi
    have:=h0 listed[i] (Array.getElem_mem_toList hlt);simp [hv] at this
  exact ⟨hr,done listed a w h hr⟩
 | succ fuel ih =>
  intro listed a w h hc;refine ⟨fun hr=>done listed a w h hr,fun i hi => ?_⟩;obtain ⟨hl,o,ho,hall⟩:=mem_ready.1 hi
  have hwait:∀e∈bindE o,listed.getD e.on false=true:=fun e he=>by
   obtain ⟨h1,h2⟩:=bind_mem.1 he;exact hall e (by simpa using h1) h2
  have hun:listed.getD i false=false:=by
   have hlt:i<listed.size:=by rw [h.sz];exact (Array.getElem?_eq_some_iff.1 ho).1
   simp [hlt] at hl ⊢;exact hl
  have hop:=hops5_at hh (i:=i) (by simpa using ho);rw [Nat.zero_add] at hop
  have h1:=hop (fun d=>a.tmps.getD d undef) w h.g (fun hs=>h.pre (Vg h.closed hun hs)) (fun d hd hm=>h.old_ hun hd hm) (QW fun e he=>by
   have h2:=hwait e he;have h3:=K.early i o ho e he;have h4:e.on<ops.size:=by have:=(Array.getElem?_eq_some_iff.1 ho).1;omega
   exact h.facts e.on _ (Array.getElem?_eq_getElem h4) h2)
  rw [← h.is] at h1;unfold wpOp;simp only [ho]
  have next:∀a' w',(∃v,a'=a.put o.dst v∧(fAt T i).at_ (upd (fun d=>a.tmps.getD d undef) o.dst v) w'∧(w.grownBy w' none∨(Chg (fun b=>W.heap.size≤b∨(i=s0∧b=g0)) w w'∧keeps (fun d=>a.tmps.getD d undef) w w' i T 0)))→wpAny P .any ops Q fuel (listed.setIfInBounds i true) a' w':=fun a' w' ⟨v,ha,hv,hg⟩=>by
   subst ha;exact ih _ _ _ (h.step K hsz hst ho hun hwait hv hg) (Ww hc hl)
  unfold wpList at h1
  split
  ·rename_i hw
   rw [if_pos hw] at h1
   rcases h1 with h1 | h1
   ·exact .inl (We (Oper.wp_mono next h1))
   ·exact (XI h1.2).elim
  ·rename_i hw
   rw [if_neg hw] at h1;exact next _ _ h1
theorem Vh {id:Nat} {w:World} (T:List Fact) (s0 g0:Nat) (hm:P.follows .mixedOrders=true) (hB:regB ops (T.map (·.ts))=true) (hsz:(dsts ops).all (fun d=>d<a0.tmps.size)=true) (hst:Zw T)
  (hh:hops5 P ops T w.drew a0 s0 g0 ops.toList 0)
  (fin:∀(f:Tmp→Value) (w':World),Chg (fun b=>b=g0) w.drew w'→knowsF T f w' T→Q .normal (puts a0 (dsts ops) f) w'):(Code.region id ops true).wp P Q a0 w:=by
 refine wp_region_any hm (reg5_any (W:=w.drew) (T:=T) (RegOk.of hB) (fun d hd=>by simpa using List.all_eq_true.1 hsz d hd) hst hh fin ops.size _ a0 _ ⟨Chg.refl _ _,fun _=>gbR _ _,fun _ _ _ _ _ _=>rfl,by simp,rfl,rfl,fun _ _=>rfl, ?_, ?_⟩ ?_)
 ·intro k o hk hl
  simp only [Array.getD_eq_getD_getElem?,Array.getElem?_replicate] at hl
  split at hl <;> simp at hl
 ·intro k o hk hl
  simp only [Array.getD_eq_getD_getElem?,Array.getElem?_replicate] at hl
  split at hl <;> simp at hl
 ·have:=List.countP_le_length (p:=fun b:Bool=>!b) (l:=(Array.replicate ops.size false).toList)
  simpa using this
end
section
variable {P:Program}
variable {ops:Array Oper} {rest:List Oper} {o:Oper} {a:Act} {Q:Exit→Act→World→Prop}
end
theorem WN {w:World} {base n size:Nat} {e:TypeId} {v:Value} {xs:List Value} (h:w.ownsRow base e size v n xs) (hn:0<n):∃g c,v=.slice (some ⟨g,0,none⟩) n c∧n≤c∧base≤g∧c≤maxLen:=by
 rcases h.2 with ⟨_,h0⟩ | ⟨g,cap,cur,hv,hb,hg,hnc,hcm,hcs,ht⟩
 ·omega
 ·exact ⟨g,cap,hv,hnc,hb,hcm⟩
def evD (p:Int) (ins l:List Int) (s:Stp):Int :=
 if s.1=1 then ins.getD s.2.1.toNat 0 else if s.1=3 then (l.getD s.2.1.toNat 0+l.getD s.2.2.toNat 0) % p else if s.1=4 then (l.getD s.2.1.toNat 0*l.getD s.2.2.toNat 0) % p else s.2.1
def evS (m:AM) (ins:List Int):Nat→List Int
 | 0=>[]
 | k+1=>evS m ins k ++ [evD m.p ins (evS m ins k) (stAt m k)]
theorem evS_len (m:AM) (ins:List Int):∀k,(evS m ins k).length=k
 | 0=>rfl
 | k+1=>by rw [evS,List.length_append,evS_len m ins k];rfl
structure EvOk (m:AM) (ins:List Int):Prop where
 ok:AOk m
 len:ins.length=60
 el:elemsB m.p ins=true
theorem KH {p:Int} {ins:List Int} (h:elemsB p ins=true) (j:Nat):0≤ins.getD j 0∧ins.getD j 0<p:=by
 obtain ⟨_,h2,_,h4⟩:=ZI h;rw [zF]
 cases hj:ins[j]? with
 | none=>simp;omega
 | some x=>exact h4 x (List.mem_of_getElem? hj)
theorem KI {m:AM} {ins:List Int} (h:EvOk m ins):∀k,k≤m.st.length→∀j,0≤(evS m ins k).getD j 0∧(evS m ins k).getD j 0<m.p
 | 0,_,j=>by
  have:=(ZI h.el).2.1;simp [evS];omega
 | k+1,hk,j=>by
  have ih:=KI h k (by omega);have h2:=(ZI h.el).2.1;have hst:=h.ok.steps k (by omega);rw [evS,zF,List.getElem?_append]
  split
  ·have:=ih j
   rw [zF] at this;exact this
  ·cases hj:j - (evS m ins k).length with
   | zero =>
    simp only [List.getElem?_cons_zero,Option.getD_some];obtain ⟨⟨x,y,z⟩,hs⟩:∃s,stAt m k=s:=⟨_,rfl⟩;rw [hs] at hst ⊢;unfold evD;simp only
    split
    ·exact KH h.el _
    ·split
     ·exact ⟨Int.emod_nonneg _ (by omega),Int.emod_lt_of_pos _ (by omega)⟩
     ·split
      ·exact ⟨Int.emod_nonneg _ (by omega),Int.emod_lt_of_pos _ (by omega)⟩
      ·have h2':x=2:=by
        by_cases e:x=2
        ·exact e
        ·simp [stepB, *] at hst
       subst h2';simp [stepB] at hst;have:=ZT hst.1;omega
   | succ i=>simp;omega
open Classical in
noncomputable def evB (m:AM) (ins:List Int):Bool:=decide (EvOk m ins)
theorem evB_yes {m:AM} {ins:List Int} (h:EvOk m ins):evB m ins=true:=by simp [evB,h]
theorem evB_no {m:AM} {ins:List Int} (h:¬EvOk m ins):evB m ins=false:=by simp [evB,h]
def evOut (m:AM) (ins:List Int) (k:Nat):List Int:=(m.outs.take k).map fun o=>(evS m ins m.st.length).getD o.toNat 0
theorem evOut_succ (m:AM) (ins:List Int) (k:Nat) (h:k<m.outs.length):evOut m ins (k+1)=evOut m ins k ++ [(evS m ins m.st.length).getD (m.outs.getD k 0).toNat 0]:=by
 unfold evOut;rw [List.take_succ_eq_append_getElem h,List.map_append,getI _ _ h];rfl
theorem evOut_len (m:AM) (ins:List Int) (k:Nat) (h:k≤m.outs.length):(evOut m ins k).length=k:=by simp [evOut];omega
open Classical in
noncomputable def evR (m:AM) (ins:List Int):List Int:=if EvOk m ins then evOut m ins m.outs.length else []
theorem evR_yes {m:AM} {ins:List Int} (h:EvOk m ins):evR m ins=evOut m ins m.outs.length:=by simp [evR,h]
theorem evR_no {m:AM} {ins:List Int} (h:¬EvOk m ins):evR m ins=[]:=by simp [evR,h]
theorem evR_len (m:AM) (ins:List Int):(evR m ins).length≤m.outs.length:=by
 by_cases h:EvOk m ins
 ·rw [evR_yes h,evOut_len _ _ _ (Nat.le_refl _)];exact Nat.le_refl _
 ·rw [evR_no h];simp
def EvJ (m:AM) (ins:List Int) (w:World) (e:Ending) (w':World):Prop:=∃V,e=.returned (.tuple #[V,.bool (evB m ins)])∧w'.ownsRow w.heap.size 3 1 V (evR m ins).length ((evR m ins).map (Value.int .i64))∧w.grownBy w' none
theorem EvJ.no {m:AM} {ins:List Int} {w w':World} {V:Value} (h:¬EvOk m ins) (ho:w'.ownsRow w.heap.size 3 1 V 0 []) (hg:w.grownBy w' none):EvJ m ins w (.returned (.tuple #[V,.bool false])) w':=⟨V,by rw [evB_no h],by rw [evR_no h];exact ho,hg⟩
theorem EvJ.yes {m:AM} {ins:List Int} {w w':World} {V:Value} (h:EvOk m ins) {q:Nat} (hq:q=m.outs.length) (ho:w'.ownsRow w.heap.size 3 1 V q ((evOut m ins q).map (Value.int .i64))) (hg:w.grownBy w' none):EvJ m ins w (.returned (.tuple #[V,.bool true])) w':=by
 subst hq;refine ⟨V,by rw [evB_yes h], ?_,hg⟩;rw [evR_yes h,evOut_len _ _ _ (Nat.le_refl _)];exact ho
theorem EvJ.own {m:AM} {ins:List Int} {w w':World} {e:Ending} (h:EvJ m ins w e w'):∃V F,e=.returned (.tuple #[V,.bool (evB m ins)])∧(cints (evR m ins)).own w' F V∧(∀g∈F,w.heap.size≤g)∧w.grownBy w' none:=by
 obtain ⟨V,h1,h2,h3⟩:=h;exact ⟨V,_,h1,Ya h2,fun g hg=>(h2.lt g (by simpa using hg)).1,h3⟩
theorem specFMul_yes (p a b:Int) (w:World) (ha:elemB p a=true) (hb:elemB p b=true) :
  Calls Tryz.prog 100 #[.int .i64 p,.int .i64 a,.int .i64 b] w fun e w'=>e=.returned (.int .i64 ((a*b) % p))∧w=w':=by
 obtain ⟨_,p2,p101,a0,a1⟩:=ZT ha;obtain ⟨_,_,_,b0,b1⟩:=ZT hb;have HA:=zH ha;have HB:=zH hb;have hm:=Jv (a:=a) (b:=b) (m:=101) a0 b0 (by omega) (by omega);obtain ⟨m,hme⟩:∃m,a*b=m:=⟨_,rfl⟩;rw [hme] at hm ⊢;obtain ⟨m0,m1⟩:=hm;clear ha hb
 go_enter Tryz.func100,Tryz.ntmps100
 go_wp2_with fail;refine (YU p a b _ (by omega)).mono ?_;rintro e w1 ⟨rfl,rfl⟩;rw [HA.out,HB.out,Bool.and_self];go_wp2_with fail;go_ret;exact ⟨rfl,rfl⟩
theorem implFAdd_yes (p a b:Int) (w:World) (ha:elemB p a=true) (hb:elemB p b=true) :
  Calls Tryz.prog 68 #[.int .i64 p,.int .i64 a,.int .i64 b] w fun e w'=>e=.returned (.int .i64 ((a+b) % p))∧w.grownBy w' none:=by
 obtain ⟨_,p2,p101,a0,a1⟩:=ZT ha;obtain ⟨_,_,_,b0,b1⟩:=ZT hb;have H:=zH (show elemsB p [a,b]=true by rw [XU,ha,hb];rfl);have hm:0≤a+b∧a+b≤101*101:=by omega
 obtain ⟨m,hme⟩:∃m,a+b=m:=⟨_,rfl⟩;rw [hme] at hm ⊢;obtain ⟨m0,m1⟩:=hm;clear ha hb
 go_enter Tryz.func68,Tryz.ntmps68
 go_wp2_with fail;refine (Zp p _ 2 2 [a,b] _ (by omega) (by omega) (ints2 _ _ _ _) (by omega)).mono ?_;rintro e w1 ⟨rfl,rfl⟩;rw [H.out];go_wp2_with fail;go_ret;exact ⟨rfl,gbA (gbR _ _) _⟩
theorem implFMul_yes (p a b:Int) (w:World) (ha:elemB p a=true) (hb:elemB p b=true) :
  Calls Tryz.prog 121 #[.int .i64 p,.int .i64 a,.int .i64 b] w fun e w'=>e=.returned (.int .i64 ((a*b) % p))∧w.grownBy w' none:=by
 obtain ⟨_,p2,p101,a0,a1⟩:=ZT ha;obtain ⟨_,_,_,b0,b1⟩:=ZT hb;have H:=zH (show elemsB p [a,b]=true by rw [XU,ha,hb];rfl);have hm:0≤a*b∧a*b≤101*101:=Jv (a:=a) (b:=b) (m:=101) a0 b0 (by omega) (by omega);obtain ⟨m,hme⟩:∃m,a*b=m:=⟨_,rfl⟩;rw [hme] at hm ⊢;obtain ⟨m0,m1⟩:=hm;clear ha hb
 go_enter Tryz.func121,Tryz.ntmps121
 go_wp2_with fail;refine (Zp p _ 2 2 [a,b] _ (by omega) (by omega) (ints2 _ _ _ _) (by omega)).mono ?_;rintro e w1 ⟨rfl,rfl⟩;rw [H.out];go_wp2_with fail;go_ret;exact ⟨rfl,gbA (gbR _ _) _⟩
end Go.Proofs.YthaadgdeadbhkaaGreat
