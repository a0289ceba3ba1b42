/-
 MulDepth: reference and program.
-/
import Derived.Test.YthaadgdeadbhkaaGreatMgFnExactEngineRound11
open Go.RowKit
set_option linter.unusedVariables false
set_option linter.unusedSimpArgs false
namespace Go.Proofs.YthaadgdeadbhkaaGreat
def depD (l:List Int) (s:Stp):Int :=
 if s.1=3 then max (l.getD s.2.1.toNat 0) (l.getD s.2.2.toNat 0) else if s.1=4 then 1+max (l.getD s.2.1.toNat 0) (l.getD s.2.2.toNat 0) else 0
def depsS (m:AM):Nat→List Int
 | 0=>[]
 | k+1=>depsS m k ++ [depD (depsS m k) (stAt m k)]
theorem Xj (m:AM):∀k,(depsS m k).length=k
 | 0=>rfl
 | k+1=>by rw [depsS,List.length_append,Xj m k];rfl
theorem WG (m:AM):∀k,∀j,0≤(depsS m k).getD j 0∧(depsS m k).getD j 0≤k
 | 0,j=>by simp [depsS]
 | k+1,j=>by
  have ih:=WG m k;rw [depsS,zF,List.getElem?_append]
  split
  ·have:=ih j
   rw [zF] at this;omega
  ·cases hj:j - (depsS m k).length with
   | zero =>
    have h1:=ih (stAt m k).2.1.toNat;have h2:=ih (stAt m k).2.2.toNat;simp only [List.getElem?_cons_zero,Option.getD_some,depD]
    split
    ·omega
    ·split <;> omega
   | succ i=>simp;omega
theorem depsS_bd' (m:AM) (k:Nat):∀d∈depsS m k,0≤d∧d≤k:=fun d hd=>by
 obtain ⟨i,hi,rfl⟩:=List.getElem_of_mem hd;have:=WG m k i;rw [getI _ _ hi] at this;exact this
open Classical in
noncomputable def mdepth (m:AM):List Int:=if AOk m then depsS m m.st.length else []
theorem Xw {m:AM} (h:AOk m):mdepth m=depsS m m.st.length:=by simp [mdepth,h]
theorem XQ {m:AM} (h:¬AOk m):mdepth m=[]:=by simp [mdepth,h]
theorem XR (m:AM):(mdepth m).length≤60:=by
 by_cases h:AOk m
 ·rw [Xw h,Xj];exact h.few
 ·rw [XQ h];simp
def RowI (r:List Int) (w:World) (e:Ending) (w':World):Prop:=∃V,e=.returned V∧w'.ownsRow w.heap.size 3 1 V r.length (r.map (Value.int .i64))∧w.grownBy w' none
theorem RowI.own {r:List Int} {w w':World} {e:Ending} (h:RowI r w e w'):∃V F,e=.returned V∧(cints r).own w' F V∧(∀g∈F,w.heap.size≤g)∧w.grownBy w' none:=by
 obtain ⟨V,h1,h2,h3⟩:=h;exact ⟨V,_,h1,Yi h2,fun g hg=>(h2.lt g (by simpa using hg)).1,h3⟩
theorem Wf {m:AM} (h:AOk m) {k:Nat} (hk:k<m.st.length) {x y z:Int} (hx:stAt m k=(x,y,z)) (h3:x=3∨x=4):∃a b:Nat,y=a∧z=b∧a<k∧b<k:=by
 have h1:=h.steps k hk;rw [hx] at h1;have:¬x=1:=by omega
 have:¬x=2:=by omega
 simp [stepB, *] at h1;rw [inB_iff,inB_iff] at h1;exact ⟨y.toNat,z.toNat,by omega,by omega,by omega,by omega⟩
theorem mxIs (a b:Int):(if a<b then b else a)=max a b:=by rw [Int.max_def];split <;> split <;> omega
set_option maxRecDepth 100000 in
set_option maxHeartbeats 2000000 in
theorem Up (m:AM) (v:Value) (w:World) (h:AggR w (carith m) v) (wf:m.wf) (hok:AOk m) :
  Calls Tryz.prog 119 #[v] w (RowI (depsS m m.st.length) w):=by
 have HV:=zH h;obtain ⟨u1,u2,rfl,h1,h2⟩:=ZA h;obtain ⟨A,c,rfl,hc,hm,hF⟩:=ZX (s:=3) (fun _=>rfl) (by omega) h1;clear h h1 h2;unfold maxLen at hm;obtain ⟨n,hn⟩:∃n,m.st.length=n:=⟨_,rfl⟩;have h60:=hok.few;rw [hn] at hF hc h60 HV ⊢;have HN:=zH hn;have HF:=zH hF;have HOK:=zH hok;have HW:=zH wf;have A1:=zH (Blk.new w 38 #[.int .i64 m.p,.slice A n c,u2]);have G1:=zH (gbA (gbR w none) (.cells #[.int .i64 m.p,.slice A n c,u2] 38));clear hF wf hn hok
 go_enter Tryz.func119,Tryz.ntmps119
 go_wp2_with fail;refine (YW m _ _ (AggR.grow HV.out G1.out) HW.out).mono ?_;rintro e w1 ⟨rfl,g⟩;rw [XP HOK.out];have A2:=zH (A1.out.grow g);have G2:=zH (gbT G1.out g);have hlo:=G2.out.size;have O2:=zH (World.ownsRow_made (e:=3) (size:=1) (base:=w.heap.size+1) w1 #[] 0 A2.out.lt (by simp) rfl);have A3:=zH (A2.out.grow (gbA (gbR w1 none) (.cells #[] 3)));have G3:=zH (gbA G2.out (.cells #[] 3));have c1:=A2.out.cell 1;simp at c1;have hbw:=A2.out.lt;have c1':=kA c1 (.cells #[] 3);clear g A1 G1 A2 G2;go_wp2_with fail;clear c1 c1' hbw hlo
 go_loopw [3,14] (fun s i wr=>∃k:Nat,k≤n∧i=.int .i64 k∧Hid (wr.ownsRow (w.heap.size+1) 3 1 s k ((depsS m k).map (Value.int .i64)))∧Hid (Blk wr w.heap.size 38 #[.int .i64 m.p,.slice A n c,u2])∧Hid (w.grownBy wr none)) (fun _ i _=>n - (intOf i).toNat)
 case atStart=>exact ⟨0,Nat.zero_le _,rfl,O2.out,A3.out,G3.out⟩
 case round =>
  clear O2 A3 G3;obtain ⟨k,hk,rfl,hown,hB,hG⟩:=hrel
  by_cases hlt:k<n
  ·obtain ⟨b,o,x,y,z,rfl,hb,hx,q0,q1,q2⟩:=YM (FL.grow HF.out hG.out) hlt
   have i1:(k:Int)<(n:Int):=by omega
   have hx':stAt m k=(x,y,z):=by simp [stAt,zF,hx]
   have HX:=zH hx';clear hx;obtain ⟨S,sc,rfl,_,_⟩:=Ye hown.out;have HDS:Hid (depsS m (k+1)=depsS m k ++ [depD (depsS m k) (x,y,z)]):=by unfold Hid;rw [depsS,hx']
   by_cases h34:x=3∨x=4
   ·obtain ⟨ya,za,rfl,rfl,hya,hza⟩:=Wf HOK.out (by rw [HN.out];exact hlt) hx' h34
    clear hx';obtain ⟨bb,ob,e1,hbb,r1⟩:=Ints.cell (show Ints wr S k (depsS m k) from Rd.ofOwn hown.out) hya;obtain ⟨bb',ob',e2,_,r2⟩:=Ints.cell (show Ints wr S k (depsS m k) from Rd.ofOwn hown.out) hza;subst e1;injection e2 with e2;injection e2 with e2 e3;subst e2;subst e3;have hd1:=WG m k ya;have hd2:=WG m k za
    have HA':Hid (depD (depsS m k) (x,(ya:Int),(za:Int))=if x=3 then max ((depsS m k).getD ya 0) ((depsS m k).getD za 0) else 1+max ((depsS m k).getD ya 0) ((depsS m k).getD za 0)):=by
     unfold Hid depD;simp only [Int.toNat_natCast]
     split
     ·rfl
     ·rw [if_pos (by omega)]
    rw [HA'.out] at HDS;clear HA';generalize (depsS m k).getD ya 0=da at *;generalize (depsS m k).getD za 0=db at *;have r1':=fun o=>kA r1 o;have r2':=fun o=>kA r2 o;have hib:(ya:Int)<(k:Int):=by omega
    have hic:(za:Int)<(k:Int):=by omega
    have hmx:0≤max da db∧max da db≤k:=by rw [Int.max_def];split <;> omega
    rcases h34 with rfl | rfl
    ·rw [if_pos rfl] at HDS
     go_wp2_with fail
     go_quiet (fail)
     rw [mxIs];generalize max da db=M at *;have OW:=zH (Zu hown.out (gbDN (gbA (gbR wr none) (.cells #[.int .i64 3,.int .i64 ya,.int .i64 za] 102)) nq));have BW:=zH (hB.out.grow (gbDN (gbA (gbR wr none) (.cells #[.int .i64 3,.int .i64 ya,.int .i64 za] 102)) nq));have GW:=zH (gbT hG.out (gbDN (gbA (gbR wr none) (.cells #[.int .i64 3,.int .i64 ya,.int .i64 za] 102)) nq));have hsz:=hB.out.lt;clear hown hB hG
     go_wp2_with (at_builtin;refine Yy _ (wr.heap.size+1) (by simp) YF rfl (.tmp 42) (.tmp 44) rfl _ rfl (by simp [Value.oneCell']) (w.heap.size+1) _ k _ OW.out rfl rfl (by unfold maxLen;omega) (by omega) (by simp;omega) ?_;intro v' w5 hown5 hgrow5)
     have h1:Hid (w5.ownsRow (w.heap.size+1) 3 1 v' (k+1) ((depsS m (k+1)).map (Value.int .i64))):=by unfold Hid;rw [HDS.out];simpa using hown5
     have h2:=zH (BW.out.grown hgrow5 (fun e=>by have:=(OW.out.lt _ e.symm).1;omega));have h3:=zH (gbN GW.out hgrow5 fun g e=>by have:=(OW.out.lt g e).1;omega);clear hown5 hgrow5 OW BW GW;go_wp2_with fail
     go_roundw
     case rel=>exact ⟨k+1,by omega,by go_num,h1,h2.out,h3.out⟩
     case measure=>simp [intOf];omega
    ·rw [if_neg (by decide)] at HDS
     go_wp2_with fail
     go_quiet (fail)
     rw [mxIs];generalize max da db=M at *;have HDS':Hid (depsS m (k+1)=depsS m k ++ [M+1]):=by have:=HDS.out;unfold Hid;rw [this,Int.add_comm]
     clear HDS;have HDS:=HDS';have OW:=zH (Zu hown.out (gbDN (gbA (gbR wr none) (.cells #[.int .i64 4,.int .i64 ya,.int .i64 za] 102)) nq));have BW:=zH (hB.out.grow (gbDN (gbA (gbR wr none) (.cells #[.int .i64 4,.int .i64 ya,.int .i64 za] 102)) nq));have GW:=zH (gbT hG.out (gbDN (gbA (gbR wr none) (.cells #[.int .i64 4,.int .i64 ya,.int .i64 za] 102)) nq));have hsz:=hB.out.lt;clear hown hB hG
     go_wp2_with (at_builtin;refine Yy _ (wr.heap.size+1) (by simp) YF rfl (.tmp 42) (.tmp 44) rfl _ rfl (by simp [Value.oneCell']) (w.heap.size+1) _ k _ OW.out rfl rfl (by unfold maxLen;omega) (by omega) (by simp;omega) ?_;intro v' w5 hown5 hgrow5)
     have h1:Hid (w5.ownsRow (w.heap.size+1) 3 1 v' (k+1) ((depsS m (k+1)).map (Value.int .i64))):=by unfold Hid;rw [HDS.out];simpa using hown5
     have h2:=zH (BW.out.grown hgrow5 (fun e=>by have:=(OW.out.lt _ e.symm).1;omega));have h3:=zH (gbN GW.out hgrow5 fun g e=>by have:=(OW.out.lt g e).1;omega);clear hown5 hgrow5 OW BW GW;go_wp2_with fail
     go_roundw
     case rel=>exact ⟨k+1,by omega,by go_num,h1,h2.out,h3.out⟩
     case measure=>simp [intOf];omega
   ·have d3:(x == 3)=false:=by simp;omega
    have d4:(x == 4)=false:=by simp;omega
    have HD0:Hid (depD (depsS m k) (x,y,z)=0):=by unfold Hid depD;rw [if_neg (by simp;omega),if_neg (by simp;omega)]
    rw [HD0.out] at HDS;clear HD0 h34 hx';have OW:=zH (Zu hown.out (gbA (gbR wr none) (.cells #[.int .i64 x,.int .i64 y,.int .i64 z] 102)));have BW:=zH (hB.out.grow (gbA (gbR wr none) (.cells #[.int .i64 x,.int .i64 y,.int .i64 z] 102)));have GW:=zH (gbT hG.out (gbA (gbR wr none) (.cells #[.int .i64 x,.int .i64 y,.int .i64 z] 102)));have hsz:=hB.out.lt;clear hown hB hG
    go_wp2_with (at_builtin;refine Yy _ (wr.heap.size+1) (by simp) YF rfl (.tmp 42) (.tmp 44) rfl _ rfl (by simp [Value.oneCell']) (w.heap.size+1) _ k _ OW.out rfl rfl (by unfold maxLen;omega) (by omega) (by simp;omega) ?_;intro v' w5 hown5 hgrow5)
    have h1:Hid (w5.ownsRow (w.heap.size+1) 3 1 v' (k+1) ((depsS m (k+1)).map (Value.int .i64))):=by unfold Hid;rw [HDS.out];simpa using hown5
    have h2:=zH (BW.out.grown hgrow5 (fun e=>by have:=(OW.out.lt _ e.symm).1;omega));have h3:=zH (gbN GW.out hgrow5 fun g e=>by have:=(OW.out.lt g e).1;omega);clear hown5 hgrow5 OW BW GW;go_wp2_with fail
    go_roundw
    case rel=>exact ⟨k+1,by omega,by go_num,h1,h2.out,h3.out⟩
    case measure=>simp [intOf];omega
  ·have hkn:k=n:=by omega
   subst hkn;go_wp2_with fail;go_ret;exact ⟨_,rfl,by rw [Xj];exact ZQ hown.out (by omega),hG.out⟩
theorem UW (m:AM) (v:Value) (w:World) (h:AggR w (carith m) v) (wf:m.wf) (hok:¬AOk m) :
  Calls Tryz.prog 119 #[v] w (RowI [] w):=by
 have HV:=zH h;obtain ⟨u1,u2,rfl,h1,h2⟩:=ZA h;have HOK:=zH hok;have HW:=zH wf;clear h h1 h2 wf hok
 go_enter Tryz.func119,Tryz.ntmps119
 go_wp2_with fail;refine (YW m _ _ (AggR.grow HV.out (gbA (gbR w none) _)) HW.out).mono ?_;rintro e w1 ⟨rfl,g⟩;rw [Yj HOK.out];have G:=zH (gbT (gbA (gbR w none) _) g);clear g;go_wp2_with fail;go_ret;exact ⟨_,rfl,World.ownsRow_nil _ _ _ _,G.out⟩
theorem WZ (m:AM) (v:Value) (w:World) (h:AggR w (carith m) v) (wf:m.wf) :
  Calls Tryz.prog 119 #[v] w (RowI (mdepth m) w):=by
 by_cases hok:AOk m
 ·rw [Xw hok];exact Up m v w h wf hok
 ·rw [XQ hok];exact UW m v w h wf hok
set_option maxRecDepth 100000 in
set_option maxHeartbeats 2000000 in
theorem Uq (m:AM) (v:Value) (w:World) (h:AggR w (carith m) v) (wf:m.wf) (hok:AOk m) :
  Calls Tryz.prog 98 #[v] w (RowI (depsS m m.st.length) w):=by
 have HV:=zH h;obtain ⟨u1,u2,rfl,h1,h2⟩:=ZA h;obtain ⟨A,c,rfl,hc,hm,hF⟩:=ZX (s:=3) (fun _=>rfl) (by omega) h1;clear h h1 h2;unfold maxLen at hm;obtain ⟨n,hn⟩:∃n,m.st.length=n:=⟨_,rfl⟩;have h60:=hok.few;rw [hn] at hF hc h60 HV ⊢;have HN:=zH hn;have HF:=zH hF;have HOK:=zH hok;have HW:=zH wf;have A1:=zH (Blk.new w 38 #[.int .i64 m.p,.slice A n c,u2])
 have O2:Hid (((w.alloc (.cells #[.int .i64 m.p,.slice A n c,u2] 38)).alloc (.cells #[] 3)).ownsRow (w.heap.size+1) 3 1 (.slice (some ⟨w.heap.size+1,0,none⟩) 0 0) 0 []):=by
  have:=World.ownsRow_made (e:=3) (size:=1) (base:=w.heap.size+1) (w.alloc (.cells #[.int .i64 m.p,.slice A n c,u2] 38)) #[] 0 A1.out.lt (by simp) rfl
  simpa [Hid] using this
 have A3:=zH (A1.out.grow (gbA (gbR _ none) (.cells #[] 3)));have G3:=zH (gbA (gbA (gbR w none) (.cells #[.int .i64 m.p,.slice A n c,u2] 38)) (.cells #[] 3));clear hF wf hn hok A1
 go_enter Tryz.func98,Tryz.ntmps98
 go_wp2_with fail
 go_loopw [3,4] (fun s i wr=>∃k:Nat,k≤n∧i=.int .i64 k∧Hid (wr.ownsRow (w.heap.size+1) 3 1 s k ((depsS m k).map (Value.int .i64)))∧Hid (Blk wr w.heap.size 38 #[.int .i64 m.p,.slice A n c,u2])∧Hid (w.grownBy wr none)) (fun _ i _=>n - (intOf i).toNat)
 case atStart=>exact ⟨0,Nat.zero_le _,rfl,O2.out,A3.out,G3.out⟩
 case round =>
  clear O2 A3 G3;obtain ⟨k,hk,rfl,hown,hB,hG⟩:=hrel;have k0:=hB.out.cell 0;have k1:=hB.out.cell 1;have k2:=hB.out.cell 2;simp at k0 k1 k2
  by_cases hlt:k<n
  ·have i1:(k:Int)<(n:Int):=by omega
   go_wp2_with fail;refine (We m _ _ (AggR.grow HV.out hG.out) HW.out).mono ?_;rintro e w1 ⟨rfl,g⟩;rw [XP HOK.out];clear k0 k1 k2;have hown':=zH (Zu hown.out g);have hB':=zH (hB.out.grow g);have hG':=zH (gbT hG.out g);clear g hown hB hG;have hown:=hown';have hB:=hB';have hG:=hG';clear hown' hB' hG';have k1:=hB.out.cell 1;simp at k1;obtain ⟨b,o,x,y,z,rfl,hb,hx,q0,q1,q2⟩:=YM (FL.grow HF.out hG.out) hlt;have hx':stAt m k=(x,y,z):=by simp [stAt,zF,hx]
   have HX:=zH hx';clear hx;obtain ⟨S,sc,rfl,_,_⟩:=Ye hown.out;have HDS:Hid (depsS m (k+1)=depsS m k ++ [depD (depsS m k) (x,y,z)]):=by unfold Hid;rw [depsS,hx']
   have hsz:=hB.out.lt
   by_cases h34:x=3∨x=4
   ·obtain ⟨ya,za,rfl,rfl,hya,hza⟩:=Wf HOK.out (by rw [HN.out];exact hlt) hx' h34
    clear hx';obtain ⟨bb,ob,e1,hbb,r1⟩:=Ints.cell (show Ints w1 S k (depsS m k) from Rd.ofOwn hown.out) hya;obtain ⟨bb',ob',e2,_,r2⟩:=Ints.cell (show Ints w1 S k (depsS m k) from Rd.ofOwn hown.out) hza;subst e1;injection e2 with e2;injection e2 with e2 e3;subst e2;subst e3;have hd1:=WG m k ya;have hd2:=WG m k za
    have HA':Hid (depD (depsS m k) (x,(ya:Int),(za:Int))=if x=3 then max ((depsS m k).getD ya 0) ((depsS m k).getD za 0) else 1+max ((depsS m k).getD ya 0) ((depsS m k).getD za 0)):=by
     unfold Hid depD;simp only [Int.toNat_natCast]
     split
     ·rfl
     ·rw [if_pos (by omega)]
    rw [HA'.out] at HDS;clear HA';generalize (depsS m k).getD ya 0=da at *;generalize (depsS m k).getD za 0=db at *;have r1':=fun o=>kA r1 o;have r2':=fun o=>kA r2 o;have hib:(ya:Int)<(k:Int):=by omega
    have hic:(za:Int)<(k:Int):=by omega
    have hmx:0≤max da db∧max da db≤k:=by rw [Int.max_def];split <;> omega
    have hmx1:0≤(if da<db then db else da):=by rw [mxIs];omega
    have hmx2:(if da<db then db else da)≤60:=by rw [mxIs];omega
    rcases h34 with rfl | rfl
    ·rw [if_pos rfl] at HDS
     go_wp2_with fail
     go_quiet (fail)
     rw [mxIs] at *;generalize max da db=M at *;have OW:=zH (Zu hown.out (gbDN (gbA (gbR w1 none) (.cells #[.int .i64 3,.int .i64 ya,.int .i64 za] 102)) nq));have BW:=zH (hB.out.grow (gbDN (gbA (gbR w1 none) (.cells #[.int .i64 3,.int .i64 ya,.int .i64 za] 102)) nq));have GW:=zH (gbT hG.out (gbDN (gbA (gbR w1 none) (.cells #[.int .i64 3,.int .i64 ya,.int .i64 za] 102)) nq));have hsz:=hB.out.lt;clear hown hB hG
     go_wp2_with (at_builtin;refine Yy _ (w1.heap.size+1) (by simp) YF rfl (.tmp 53) (.tmp 55) rfl _ rfl (by simp [Value.oneCell']) (w.heap.size+1) _ k _ OW.out rfl rfl (by unfold maxLen;omega) (by omega) (by simp;omega) ?_;intro v' w5 hown5 hgrow5)
     have h1:Hid (w5.ownsRow (w.heap.size+1) 3 1 v' (k+1) ((depsS m (k+1)).map (Value.int .i64))):=by unfold Hid;rw [HDS.out];simpa using hown5
     have h2:=zH (BW.out.grown hgrow5 (fun e=>by have:=(OW.out.lt _ e.symm).1;omega));have h3:=zH (gbN GW.out hgrow5 fun g e=>by have:=(OW.out.lt g e).1;omega);clear hown5 hgrow5 OW BW GW;go_wp2_with fail
     go_roundw
     case rel=>exact ⟨k+1,by omega,by go_num,h1,h2.out,h3.out⟩
     case measure=>simp [intOf];omega
    ·rw [if_neg (by decide)] at HDS
     go_wp2_with fail
     go_quiet (fail)
     rw [mxIs] at *;generalize max da db=M at *;have OW:=zH (Zu hown.out (gbDN (gbA (gbR w1 none) (.cells #[.int .i64 4,.int .i64 ya,.int .i64 za] 102)) nq));have BW:=zH (hB.out.grow (gbDN (gbA (gbR w1 none) (.cells #[.int .i64 4,.int .i64 ya,.int .i64 za] 102)) nq));have GW:=zH (gbT hG.out (gbDN (gbA (gbR w1 none) (.cells #[.int .i64 4,.int .i64 ya,.int .i64 za] 102)) nq));have hsz:=hB.out.lt;clear hown hB hG
     go_wp2_with (at_builtin;refine Yy _ (w1.heap.size+1) (by simp) YF rfl (.tmp 53) (.tmp 55) rfl _ rfl (by simp [Value.oneCell']) (w.heap.size+1) _ k _ OW.out rfl rfl (by unfold maxLen;omega) (by omega) (by simp;omega) ?_;intro v' w5 hown5 hgrow5)
     have h1:Hid (w5.ownsRow (w.heap.size+1) 3 1 v' (k+1) ((depsS m (k+1)).map (Value.int .i64))):=by unfold Hid;rw [HDS.out];simpa using hown5
     have h2:=zH (BW.out.grown hgrow5 (fun e=>by have:=(OW.out.lt _ e.symm).1;omega));have h3:=zH (gbN GW.out hgrow5 fun g e=>by have:=(OW.out.lt g e).1;omega);clear hown5 hgrow5 OW BW GW;go_wp2_with fail
     go_roundw
     case rel=>exact ⟨k+1,by omega,by go_num,h1,h2.out,h3.out⟩
     case measure=>simp [intOf];omega
   ·have d3:(x == 3)=false:=by simp;omega
    have d4:(x == 4)=false:=by simp;omega
    have HD0:Hid (depD (depsS m k) (x,y,z)=0):=by unfold Hid depD;rw [if_neg (by simp;omega),if_neg (by simp;omega)]
    rw [HD0.out] at HDS;clear HD0 h34 hx';have OW:=zH (Zu hown.out (gbA (gbR w1 none) (.cells #[.int .i64 x,.int .i64 y,.int .i64 z] 102)));have BW:=zH (hB.out.grow (gbA (gbR w1 none) (.cells #[.int .i64 x,.int .i64 y,.int .i64 z] 102)));have GW:=zH (gbT hG.out (gbA (gbR w1 none) (.cells #[.int .i64 x,.int .i64 y,.int .i64 z] 102)));have hsz:=hB.out.lt;clear hown hB hG
    go_wp2_with (at_builtin;refine Yy _ (w1.heap.size+1) (by simp) YF rfl (.tmp 53) (.tmp 55) rfl _ rfl (by simp [Value.oneCell']) (w.heap.size+1) _ k _ OW.out rfl rfl (by unfold maxLen;omega) (by omega) (by simp;omega) ?_;intro v' w5 hown5 hgrow5)
    have h1:Hid (w5.ownsRow (w.heap.size+1) 3 1 v' (k+1) ((depsS m (k+1)).map (Value.int .i64))):=by unfold Hid;rw [HDS.out];simpa using hown5
    have h2:=zH (BW.out.grown hgrow5 (fun e=>by have:=(OW.out.lt _ e.symm).1;omega));have h3:=zH (gbN GW.out hgrow5 fun g e=>by have:=(OW.out.lt g e).1;omega);clear hown5 hgrow5 OW BW GW;go_wp2_with fail
    go_roundw
    case rel=>exact ⟨k+1,by omega,by go_num,h1,h2.out,h3.out⟩
    case measure=>simp [intOf];omega
  ·have hkn:k=n:=by omega
   subst hkn;have d0:decide ((k:Int)<(k:Int))=false:=by simp
   go_wp2_with fail;go_ret;exact ⟨_,rfl,by rw [Xj];exact ZQ hown.out (by omega),hG.out⟩
theorem UX (m:AM) (v:Value) (w:World) (h:AggR w (carith m) v) (wf:m.wf) (hok:¬AOk m) :
  Calls Tryz.prog 98 #[v] w (RowI [] w):=by
 have HV:=zH h;obtain ⟨u1,u2,rfl,h1,h2⟩:=ZA h;obtain ⟨A,c,rfl,hc,hm,hF⟩:=ZX (s:=3) (fun _=>rfl) (by omega) h1;have HOK:=zH hok;have HW:=zH wf;have G1:=zH (gbA (gbR w none) (.cells #[.int .i64 m.p,.slice A m.st.length c,u2] 38));have G3:=zH (gbA G1.out (.cells #[] 3));have A1:=zH (Blk.new w 38 #[.int .i64 m.p,.slice A m.st.length c,u2])
 have O2:Hid (((w.alloc (.cells #[.int .i64 m.p,.slice A m.st.length c,u2] 38)).alloc (.cells #[] 3)).ownsRow (w.heap.size+1) 3 1 (.slice (some ⟨w.heap.size+1,0,none⟩) 0 0) 0 []):=by
  have:=World.ownsRow_made (e:=3) (size:=1) (base:=w.heap.size+1) (w.alloc (.cells #[.int .i64 m.p,.slice A m.st.length c,u2] 38)) #[] 0 A1.out.lt (by simp) rfl
  simpa [Hid] using this
 clear h h1 h2 wf hok hF;generalize m.st.length=n at *;unfold maxLen at hm
 rcases Nat.eq_zero_or_pos n with h0 | h0
 ·subst h0
  go_enter Tryz.func98,Tryz.ntmps98
  go_wp2_with fail;refine wp_loop_rounds 1 ?_;rw [rounds_succ];go_wp2_with fail;go_ret;exact ⟨_,rfl,ZQ O2.out (by omega),G3.out⟩
 ·have i1:(0:Int)<(n:Int):=by omega
  go_enter Tryz.func98,Tryz.ntmps98
  go_wp2_with fail;refine wp_loop_rounds 1 ?_;rw [rounds_succ];go_wp2_with fail;refine (We m _ _ (AggR.grow HV.out G3.out) HW.out).mono ?_;rintro e w1 ⟨rfl,g⟩;rw [Yj HOK.out];have O3:=zH (Zu O2.out g);have G4:=zH (gbT G3.out g);clear g;go_wp2_with fail;go_ret;exact ⟨_,rfl,ZQ O3.out (by omega),G4.out⟩
theorem Va (m:AM) (v:Value) (w:World) (h:AggR w (carith m) v) (wf:m.wf) :
  Calls Tryz.prog 98 #[v] w (RowI (mdepth m) w):=by
 by_cases hok:AOk m
 ·rw [Xw hok];exact Uq m v w h wf hok
 ·rw [XQ hok];exact UX m v w h wf hok
end Go.Proofs.YthaadgdeadbhkaaGreat
