/-
 EvalArith of the program.
-/
import Derived.Test.YthaadgdeadbhkaaGreatMgFnExactCountOutcomes9
open Go.RowKit
set_option linter.unusedVariables false
set_option linter.unusedSimpArgs false
namespace Go.Proofs.YthaadgdeadbhkaaGreat
def rowL (lo:Nat) (n:Nat) (xs:List Value) (v:Value) (w:World):Prop:=∃A c,v=.slice A n c∧w.ownsRow lo 3 1 v n xs
theorem Jw {lo n:Nat} {xs:List Value}:stable (rowL lo n xs):=fun v w w' h hg=>by
 obtain ⟨A,c,e1,ho⟩:=h;exact ⟨A,c,e1,Zj ho hg⟩
def eqF (a b:Tmp):Fact:=⟨[a,b],fun l _=>l.getD 0 undef=l.getD 1 undef⟩
theorem eqF_st (a b:Tmp):Uc (eqF a b):=fun _ _ _ h _=>h
theorem Yp (a b:Tmp) (f:Tmp→Value) (w:World):(eqF a b).at_ f w=(f a=f b):=rfl
def lit1 (H:Nat) (x:Value) (v:Value) (w:World):Prop:=∃g,v=.slice (some ⟨g,0,none⟩) 1 1∧w.ownsRow H 3 1 v 1 [x]
theorem Jx {H:Nat} {x:Value}:stable (lit1 H x):=fun v w w' h hg=>by
 obtain ⟨g,e1,ho⟩:=h;exact ⟨g,e1,Zj ho hg⟩
theorem QZ {w:World} {base:Nat} (hb:base≤w.heap.size) (u:Value) (e:TypeId):(w.alloc (.cells #[u] e)).ownsRow base e 1 (.slice (some ⟨w.heap.size,0,none⟩) 1 1) 1 [u] :=
 ⟨rfl,.inr ⟨_,1,#[u],rfl,hb,heap_alloc_new w _,Nat.le_refl _,by unfold maxLen;omega,rfl,rfl⟩⟩
set_option maxHeartbeats 1000000 in
theorem QK (m:AM) (v:Value) (A:Option Addr) (n c:Nat) (ins:List Int) (w:World) (h:AggR w (carith m) v) (wf:m.wf) (hi:Ints w A n ins) (hn:n≤1048576) (hno:¬EvOk m ins) :
  Calls Tryz.prog 82 #[v,.slice A n c] w (EvJ m ins w):=by
 have HNO:=zH hno;have HI:=zH hi;have HL:=zH hi.len;have HA:=zH h;have HW:=zH wf;obtain ⟨u1,u2,rfl,h1,h2⟩:=Zt h;have A1:=zH (Blk.new w 38 #[.int .i64 m.p,u1,u2]);have G1:=zH (gbA (gbR w none) (.cells #[.int .i64 m.p,u1,u2] 38));clear h h1 h2 wf hi
 cases hok:arithB m with
 | false =>
  have HOK:=zH hok;clear hok hno
  go_enter Tryz.func82,Tryz.ntmps82
  go_wp2_with fail;refine (ZU m _ _ (AggR.grow HA.out G1.out) HW.out).mono ?_;rintro e w1 ⟨rfl,g⟩;rw [HOK.out];have G2:=zH (gbT G1.out g);clear g;go_wp2_with fail
  go_ret2
  exact EvJ.no HNO.out (World.ownsRow_nil _ _ _ _) G2.out
 | true =>
  have HOK:=zH hok;have hok':=WI hok
  by_cases h60:n=60
  ·subst h60
   have hel:elemsB m.p ins=false:=by
    cases he:elemsB m.p ins with
    | false=>rfl
    | true=>exact absurd ⟨hok',HL.out,he⟩ hno
   have HE:=zH hel;have hf:=ZC hok'.fld;have hp1:m.p≤101:=hf.2;have hp0:2≤m.p:=hf.1;clear hok hok' hel hno hf
   go_enter Tryz.func82,Tryz.ntmps82
   go_wp2_with fail;refine (ZU m _ _ (AggR.grow HA.out G1.out) HW.out).mono ?_;rintro e w1 ⟨rfl,g⟩;rw [HOK.out];have A2:=zH (A1.out.grow g);have G2:=zH (gbT G1.out g);have c0:=A2.out.cell 0;simp at c0;clear g;go_wp2_with fail;refine (Zp m.p A 60 c ins _ (by omega) (by omega) (Ints.grow HI.out G2.out) (by omega)).mono ?_;rintro e w2 ⟨rfl,rfl⟩;rw [HE.out];go_wp2_with fail
   go_ret2
   exact EvJ.no HNO.out (World.ownsRow_nil _ _ _ _) G2.out
  ·have d:((n:Int) != 60)=true:=by simp;omega
   clear hok hok' hno
   go_enter Tryz.func82,Tryz.ntmps82
   go_wp2_with fail;refine (ZU m _ _ (AggR.grow HA.out G1.out) HW.out).mono ?_;rintro e w1 ⟨rfl,g⟩;rw [HOK.out];have G2:=zH (gbT G1.out g);clear g;go_wp2_with fail
   go_ret2
   exact EvJ.no HNO.out (World.ownsRow_nil _ _ _ _) G2.out
set_option maxRecDepth 100000 in
set_option maxHeartbeats 4000000 in
theorem Qe (m:AM) (v:Value) (A0:Option Addr) (c00:Nat) (ins:List Int) (w:World) (h:AggR w (carith m) v) (wf:m.wf) (hi:Ints w A0 60 ins) (hok:EvOk m ins) (ho:m.outs.length≤1048576) :
  Calls Tryz.prog 82 #[v,.slice A0 60 c00] w (EvJ m ins w):=by
 have HV:=zH h;have HI:=zH hi;obtain ⟨u1,u2,rfl,h1,h2⟩:=Zt h;obtain ⟨A,c,rfl,hc,hm,hF⟩:=ZP (s:=3) (fun _=>rfl) (by omega) h1;obtain ⟨A2,c2',rfl,hc2,hm2,hO⟩:=Zx h2;clear h h1 h2 hi;unfold maxLen at hm;obtain ⟨n,hn⟩:∃n,m.st.length=n:=⟨_,rfl⟩;obtain ⟨q,hq⟩:∃q,m.outs.length=q:=⟨_,rfl⟩;have h60:=hok.ok.few;rw [hn] at hF hc h60 HV ⊢;rw [hq] at hc2 hO ho HV ⊢;have HN:=zH hn;have HQ:=zH hq;have HF:=zH hF;have HO:=zH hO;have HOK:=zH hok;have HW:=zH wf;have hf:=ZI hok.el;have hp0:=hf.2.1;have hp1:=hf.2.2.1;obtain ⟨p,hp⟩:∃p,m.p=p:=⟨_,rfl⟩;have A1:=zH (Blk.new w 38 #[.int .i64 m.p,.slice A n c,.slice A2 q c2']);have G1:=zH (gbA (gbR w none) (.cells #[.int .i64 m.p,.slice A n c,.slice A2 q c2'] 38));rw [hp] at hp0 hp1 A1 G1 HV ⊢;have HP:=zH hp;clear hF wf hn hok hq hO hf hp
 go_enter Tryz.func82,Tryz.ntmps82
 go_wp2_with fail;refine (ZU m _ _ (AggR.grow HV.out G1.out) HW.out).mono ?_;rintro e w1 ⟨rfl,g⟩;rw [Yq HOK.out.ok];have A2':=zH (A1.out.grow g);have G2:=zH (gbT G1.out g);have hlo:=G2.out.size;have O2:=zH (World.ownsRow_made (e:=3) (size:=1) (base:=w.heap.size+1) w1 #[] 0 A2'.out.lt (by simp) rfl);have A3:=zH (A2'.out.grow (gbA (gbR w1 none) (.cells #[] 3)));have G3:=zH (gbA G2.out (.cells #[] 3));have c0:=A2'.out.cell 0;have c1:=A2'.out.cell 1;simp at c0 c1;have hbw:=A2'.out.lt;have c1':=kA c1 (.cells #[] 3);clear g A1 G1;go_wp2_with fail;refine (Zp p A0 60 c00 ins _ (by omega) (by omega) (Ints.grow HI.out G2.out) (by omega)).mono ?_;rintro e w2 ⟨rfl,rfl⟩;rw [show elemsB p ins=true by rw [← HP.out];exact HOK.out.el];go_wp2_with fail;clear c0 c1 c1' hbw hlo A2' G2
 go_loopw [6,31] (fun s i wr=>∃k:Nat,k≤n∧i=.int .i64 k∧Hid (wr.ownsRow (w.heap.size+1) 3 1 s k ((evS m ins k).map (Value.int .i64)))∧Hid (Blk wr w.heap.size 38 #[.int .i64 p,.slice A n c,.slice A2 q c2'])∧Hid (w.grownBy wr none)) (fun _ i _=>n - (intOf i).toNat)
 case atStart=>exact ⟨0,Nat.zero_le _,rfl,O2.out,A3.out,G3.out⟩
 case round =>
  clear O2 A3 G3;obtain ⟨k,hk,rfl,hown,hB,hG⟩:=hrel
  by_cases hlt:k<n
  ·obtain ⟨b,o,x,y,z,rfl,hb,hx,q0,q1,q2⟩:=YI (FL.grow HF.out hG.out) hlt
   have i1:(k:Int)<(n:Int):=by omega
   have hx':stAt m k=(x,y,z):=by simp [stAt,zF,hx]
   clear hx;obtain ⟨S,sc,rfl,_,_⟩:=ZB hown.out;have HDS:Hid (evS m ins (k+1)=evS m ins k ++ [evD m.p ins (evS m ins k) (x,y,z)]):=by unfold Hid;rw [evS,hx']
   have hsb:=HOK.out.ok.steps k (by rw [HN.out];exact hlt);rw [hx'] at hsb
   by_cases h1:x=1
   ·subst h1
    have hy:0≤y∧y≤59:=by simp [stepB] at hsb;exact inB_iff.1 hsb.1
    obtain ⟨yn,rfl⟩:=Int.eq_ofNat_of_zero_le hy.1;have hyn:yn<60:=by omega
    obtain ⟨bi,oi,rfl,hbi,ci⟩:=Ints.cell (Ints.grow HI.out hG.out) hyn;have HD:evD m.p ins (evS m ins k) ((1:Int),((yn:Int),z))=ins.getD yn 0:=by simp [evD]
    rw [HD] at HDS;clear HD hx' hsb;generalize ins.getD yn 0=d at *;have ci':=fun o=>kA ci o;have hyi:(yn:Int)<60:=by omega
    have OW:=zH (Zj hown.out (gbA (gbR wr none) (.cells #[.int .i64 1,.int .i64 yn,.int .i64 z] 102)));have BW:=zH (hB.out.grow (gbA (gbR wr none) (.cells #[.int .i64 1,.int .i64 yn,.int .i64 z] 102)));have GW:=zH (gbT hG.out (gbA (gbR wr none) (.cells #[.int .i64 1,.int .i64 yn,.int .i64 z] 102)));have hsz:=hB.out.lt;clear hown hB hG
    go_wp2_with (at_builtin;refine ZK _ (wr.heap.size+1) (by simp) ZZ rfl (.tmp 39) (.tmp 45) rfl _ rfl (by simp [Value.oneCell']) (w.heap.size+1) _ k _ OW.out rfl rfl (by unfold maxLen;omega) (by omega) (by simp;omega) ?_;intro v' w5 hown5 hgrow5)
    have h1:Hid (w5.ownsRow (w.heap.size+1) 3 1 v' (k+1) ((evS m ins (k+1)).map (Value.int .i64))):=by unfold Hid;rw [HDS.out];simpa using hown5
    have h2:=zH (BW.out.grown hgrow5 (fun e=>by have:=(OW.out.lt _ e.symm).1;omega));have h3:=zH (gbN GW.out hgrow5 fun g e=>by have:=(OW.out.lt g e).1;omega);clear hown5 hgrow5 OW BW GW;go_wp2_with fail
    go_roundw
    case rel=>exact ⟨k+1,by omega,by go_num,h1,h2.out,h3.out⟩
    case measure=>simp [intOf];omega
   ·have d1:(x == 1)=false:=by simp;omega
    by_cases h2:x=2
    ·subst h2
     have HD:evD m.p ins (evS m ins k) ((2:Int),(y,z))=y:=by simp [evD]
     rw [HD] at HDS;clear HD hx' hsb d1 h1;have OW:=zH (Zj hown.out (gbA (gbR wr none) (.cells #[.int .i64 2,.int .i64 y,.int .i64 z] 102)));have BW:=zH (hB.out.grow (gbA (gbR wr none) (.cells #[.int .i64 2,.int .i64 y,.int .i64 z] 102)));have GW:=zH (gbT hG.out (gbA (gbR wr none) (.cells #[.int .i64 2,.int .i64 y,.int .i64 z] 102)));have hsz:=hB.out.lt;clear hown hB hG
     go_wp2_with (at_builtin;refine ZK _ (wr.heap.size+1) (by simp) ZZ rfl (.tmp 49) (.tmp 52) rfl _ rfl (by simp [Value.oneCell']) (w.heap.size+1) _ k _ OW.out rfl rfl (by unfold maxLen;omega) (by omega) (by simp;omega) ?_;intro v' w5 hown5 hgrow5)
     have h1:Hid (w5.ownsRow (w.heap.size+1) 3 1 v' (k+1) ((evS m ins (k+1)).map (Value.int .i64))):=by unfold Hid;rw [HDS.out];simpa using hown5
     have h2:=zH (BW.out.grown hgrow5 (fun e=>by have:=(OW.out.lt _ e.symm).1;omega));have h3:=zH (gbN GW.out hgrow5 fun g e=>by have:=(OW.out.lt g e).1;omega);clear hown5 hgrow5 OW BW GW;go_wp2_with fail
     go_roundw
     case rel=>exact ⟨k+1,by omega,by go_num,h1,h2.out,h3.out⟩
     case measure=>simp [intOf];omega
    ·have d2:(x == 2)=false:=by simp;omega
     have h34:x=3∨x=4:=by
      by_cases e:x=3∨x=4
      ·exact e
      ·simp [stepB,h1,h2,e] at hsb
     obtain ⟨ya,za,rfl,rfl,hya,hza⟩:=XB HOK.out.ok (by rw [HN.out];exact hlt) hx' h34;clear hx' hsb d1 d2 h1 h2;have r1:=KI HOK.out k (by rw [HN.out];omega) ya;have r2:=KI HOK.out k (by rw [HN.out];omega) za;obtain ⟨gV,cV,ev,hcV,hbV,hmV⟩:=WN hown.out (by omega);injection ev with e1 _ e3;subst e1;subst e3
     have cA:wr.cell? ⟨gV,ya,none⟩=some (.int .i64 ((evS m ins k).getD ya 0)):=by
      obtain ⟨bb,ob,e1,_,r⟩:=Ints.cell (show Ints wr (some ⟨gV,0,none⟩) k (evS m ins k) from Rd.ofOwn hown.out) hya;injection e1 with e1;injection e1 with e1 e2;subst e1;subst e2;rw [Nat.zero_add] at r;exact r
     have cB:wr.cell? ⟨gV,za,none⟩=some (.int .i64 ((evS m ins k).getD za 0)):=by
      obtain ⟨bb,ob,e1,_,r⟩:=Ints.cell (show Ints wr (some ⟨gV,0,none⟩) k (evS m ins k) from Rd.ofOwn hown.out) hza;injection e1 with e1;injection e1 with e1 e2;subst e1;subst e2;rw [Nat.zero_add] at r;exact r
     have HD:Hid (evD m.p ins (evS m ins k) (x,(ya:Int),(za:Int))=if x=3 then ((evS m ins k).getD ya 0+(evS m ins k).getD za 0) % p else ((evS m ins k).getD ya 0*(evS m ins k).getD za 0) % p):=by
      unfold Hid evD;rw [HP.out];simp only [Int.toNat_natCast]
      rcases h34 with rfl | rfl <;> rfl
     rw [HD.out] at HDS;clear HD;obtain ⟨da,hda⟩:∃d,(evS m ins k).getD ya 0=d:=⟨_,rfl⟩;obtain ⟨db,hdb⟩:∃d,(evS m ins k).getD za 0=d:=⟨_,rfl⟩;rw [hda] at r1 cA HDS;rw [hdb] at r2 cB HDS;rw [HP.out] at r1 r2;have EA:=zH (Yi (p:=p) (by rw [← HP.out];exact HOK.out.ok.fld) r1.1 r1.2);have EB:=zH (Yi (p:=p) (by rw [← HP.out];exact HOK.out.ok.fld) r2.1 r2.2);clear hda hdb r1 r2;have hia:(ya:Int)<(k:Int):=by omega
     have hib:(za:Int)<(k:Int):=by omega
     have B0:=hB.out.cell 0;simp at B0;obtain ⟨wz,hwz⟩:∃wz,wr.alloc (.cells #[.int .i64 x,.int .i64 ya,.int .i64 za] 102)=wz:=⟨_,rfl⟩;have gz:wr.grownBy wz none:=by rw [← hwz];exact gbA (gbR wr none) _
     have L:=Blk.new wr 102 #[.int .i64 x,.int .i64 ya,.int .i64 za];rw [hwz] at L;have CA:=zH (gbk gz cA);have CB:=zH (gbk gz cB);have CP:=zH (gbk gz B0);have CL1:=zH (show wz.cell? ⟨wr.heap.size,1,none⟩=some (.int .i64 ya) from L.cell 1);have CL2:=zH (show wz.cell? ⟨wr.heap.size,2,none⟩=some (.int .i64 za) from L.cell 2);have OW:=zH (Zj hown.out gz);have BW:=zH (hB.out.grow gz);have GW:=zH (gbT hG.out gz);have hgV:=(hown.out.lt gV rfl);have hgVl:=hgV.1;have hgVu:=hgV.2;have hzs:=gz.size;have HBlt:=zH hB.out.lt;clear cA cB B0 gz L hown hB hG hgV
     rcases h34 with rfl | rfl
     ·rw [if_pos rfl] at HDS
      have hF:=fun w=>implFAdd_yes p da db w EA.out EB.out;obtain ⟨r,hr⟩:∃r,(da+db) % p=r:=⟨_,rfl⟩;rw [hr] at hF HDS;have HF':=zH hF;clear hF hr;have HWZ:=zH hwz;clear hwz;go_wp2_with fail;rw [HWZ.out];refine Vh [onT 56 (isV (.slice (some ⟨gV,0,none⟩) k sc)),onT 57 (isV (.pointer (some ⟨w.heap.size,0,none⟩))),onT 58 (isV (.int .i64 p)),onT 59 (isV (.slice (some ⟨gV,0,none⟩) k sc)),onT 60 (isV (.pointer (some ⟨wr.heap.size,1,none⟩))),onT 61 (isV (.int .i64 ya)),onT 62 (isV (.pointer (some ⟨gV,ya,none⟩))),onT 63 (isV (.int .i64 da)),onT 64 (isV (.slice (some ⟨gV,0,none⟩) k sc)),onT 65 (isV (.pointer (some ⟨wr.heap.size,2,none⟩))),onT 66 (isV (.int .i64 za)),onT 67 (isV (.pointer (some ⟨gV,za,none⟩))),onT 68 (isV (.int .i64 db)),onT 69 (isV (.int .i64 r)),onT 70 (lit1 wz.heap.size (.int .i64 r)),onT 71 (rowL (w.heap.size+1) (k+1) ((evS m ins (k+1)).map (Value.int .i64))),eqF 6 71] 15 gV (by kernel_rfl) (by kernel_rfl) (by kernel_rfl) (by simp [Zw,Zh,Zb,Jw,Jx,eqF_st]) ?_ ?_
      ·simp only [hops5,and_true]
       refine ⟨?_, ?_, ?_, ?_, ?_, ?_, ?_, ?_, ?_, ?_, ?_, ?_, ?_, ?_, ?_, ?_, ?_⟩;rotate_left 15
       ·intro f w4 hG pre old hd
        have hg4:=pre (by kernel_rfl);simp [depsF,bindE,List.filter_cons,Zz,Zq,Zr,Zs,ZA,ZW,fAt,Zy,Yp,isV] at hd;obtain ⟨h56,⟨g1,e1,o1⟩,_⟩:=hd;rw [e1] at o1;have hs4:=hg4.size;have O4:=Zj (Zj OW.out (gbD (gbR wz none))) hg4;simp [puts,dsts,Act.put,h56,e1];refine XR w4 ZZ rfl (.tmp 56) (.tmp 70) rfl (w.heap.size+1) _ k _ O4 rfl (some ⟨g1,0,none⟩) 1 1 _ rfl (Rd.ofOwn o1) (by simp [Value.oneCell']) (by unfold maxLen;omega) (by omega) (by simp at hs4;omega) ?_;intro v' w5 o5 g5;obtain ⟨An,cn,rfl,_,_⟩:=ZB o5;refine ⟨_,rfl,⟨An,cn,rfl,by rw [HDS.out];simpa [Zn,fAt,onT] using o5⟩,Or.inr ⟨Chg.of g5 fun x hx=>by simp [Value.ownBlock] at hx;simp [hx], ?_⟩⟩;simp [keeps,Zy,Yp,isV];intro hk1;obtain ⟨g2,e2,o2⟩:=hk1;refine ⟨g2,e2,Xf o2 g5 (.inr ?_)⟩;rw [e2];have:=(o2.lt g2 (by rw [e2];rfl)).1;simp [Value.ownBlock];omega
       ·intro f w4 hG pre old hd
        simp [depsF,bindE,List.filter_cons,Zz,Zq,Zr,Zs,ZA,ZW,fAt,Zy,Yp,isV] at hd;obtain ⟨⟨An,cn,e71,_⟩,_⟩:=hd;simp [puts,dsts,Act.put,e71];go_wp2_with fail;exact ⟨_,rfl,by simp [fAt,Yp,Zn,e71],Or.inl (gbR _ _)⟩
       all_goals
        intro f w4 hG pre old hd;have hg4:=pre (by kernel_rfl);have hs4:=hg4.size;have kA_:=gbk hg4 (kD CA.out);have kB_:=gbk hg4 (kD CB.out);have kP_:=gbk hg4 (kD CP.out);have k1_:=gbk hg4 (kD CL1.out);have k2_:=gbk hg4 (kD CL2.out);have h6:=old 6 (by kernel_rfl) (by simp [dsts]);simp at h6;simp [depsF,bindE,List.filter_cons,Zz,Zq,Zr,Zs,ZA,ZW,fAt,Zy,Yp,isV] at hd
        first | simp [puts,dsts,Act.put,hd,h6] | simp [puts,dsts,Act.put,h6]
        go_wp2_with (go_at_call 68;refine (HF'.out _).mono ?_;rintro e w5 ⟨rfl,hw⟩)
        first
         | exact ⟨_,rfl,by simp [fAt,Zy,Yp,Zn,isV],Or.inl (gbR _ _)⟩
         | exact ⟨_,rfl,by simp [fAt,Zy,Yp,Zn,isV],Or.inl hw⟩
         | exact ⟨_,rfl,⟨_,rfl,QZ hs4 _ _⟩,Or.inl (gbA (gbR _ _) _)⟩
      ·intro f w4 hG hd
       simp [knowsF,Zy,Yp,isV] at hd;obtain ⟨p0,p1,p2,p3,p4,p5,p6,p7,p8,p9,p10,p11,p12,p13,⟨g1,e70,_⟩,⟨An,cn,e71,o71⟩,e6⟩:=hd;rw [e71] at o71 e6;have hC:Chg (fun b=>b=gV) wz w4:=(Chg.of (gbD (gbR wz none)) (fun _ h=>by cases h)).trans hG;have B5:=zH (YW BW.out hC (by have:=HBlt.out;omega));have G5:=zH (Chg.new GW.out hC (fun i hi=>by omega));have O5:=zH o71;clear hC hG o71 OW BW GW;simp only [puts,dsts,Act.put,p0,p1,p2,p3,p4,p5,p6,p7,p8,p9,p10,p11,p12,p13,e70,e71,e6,zB,zC,zA,zD,zE];clear p0 p1 p2 p3 p4 p5 p6 p7 p8 p9 p10 p11 p12 p13 e70 e71 e6;go_wp2_with fail
       go_roundw
       case rel=>exact ⟨k+1,by omega,by go_num,O5.out,B5.out,G5.out⟩
       case measure=>simp [intOf];omega
     ·rw [if_neg (by decide)] at HDS
      have hF:=fun w=>implFMul_yes p da db w EA.out EB.out;obtain ⟨r,hr⟩:∃r,(da*db) % p=r:=⟨_,rfl⟩;rw [hr] at hF HDS;have HF':=zH hF;clear hF hr;have HWZ:=zH hwz;clear hwz;go_wp2_with fail;rw [HWZ.out];refine Vh [onT 74 (isV (.slice (some ⟨gV,0,none⟩) k sc)),onT 75 (isV (.pointer (some ⟨w.heap.size,0,none⟩))),onT 76 (isV (.int .i64 p)),onT 77 (isV (.slice (some ⟨gV,0,none⟩) k sc)),onT 78 (isV (.pointer (some ⟨wr.heap.size,1,none⟩))),onT 79 (isV (.int .i64 ya)),onT 80 (isV (.pointer (some ⟨gV,ya,none⟩))),onT 81 (isV (.int .i64 da)),onT 82 (isV (.slice (some ⟨gV,0,none⟩) k sc)),onT 83 (isV (.pointer (some ⟨wr.heap.size,2,none⟩))),onT 84 (isV (.int .i64 za)),onT 85 (isV (.pointer (some ⟨gV,za,none⟩))),onT 86 (isV (.int .i64 db)),onT 87 (isV (.int .i64 r)),onT 88 (lit1 wz.heap.size (.int .i64 r)),onT 89 (rowL (w.heap.size+1) (k+1) ((evS m ins (k+1)).map (Value.int .i64))),eqF 6 89] 15 gV (by kernel_rfl) (by kernel_rfl) (by kernel_rfl) (by simp [Zw,Zh,Zb,Jw,Jx,eqF_st]) ?_ ?_
      ·simp only [hops5,and_true]
       refine ⟨?_, ?_, ?_, ?_, ?_, ?_, ?_, ?_, ?_, ?_, ?_, ?_, ?_, ?_, ?_, ?_, ?_⟩;rotate_left 15
       ·intro f w4 hG pre old hd
        have hg4:=pre (by kernel_rfl);simp [depsF,bindE,List.filter_cons,Zz,Zq,Zr,Zs,ZA,ZW,fAt,Zy,Yp,isV] at hd;obtain ⟨h56,⟨g1,e1,o1⟩,_⟩:=hd;rw [e1] at o1;have hs4:=hg4.size;have O4:=Zj (Zj OW.out (gbD (gbR wz none))) hg4;simp [puts,dsts,Act.put,h56,e1];refine XR w4 ZZ rfl (.tmp 74) (.tmp 88) rfl (w.heap.size+1) _ k _ O4 rfl (some ⟨g1,0,none⟩) 1 1 _ rfl (Rd.ofOwn o1) (by simp [Value.oneCell']) (by unfold maxLen;omega) (by omega) (by simp at hs4;omega) ?_;intro v' w5 o5 g5;obtain ⟨An,cn,rfl,_,_⟩:=ZB o5;refine ⟨_,rfl,⟨An,cn,rfl,by rw [HDS.out];simpa [Zn,fAt,onT] using o5⟩,Or.inr ⟨Chg.of g5 fun x hx=>by simp [Value.ownBlock] at hx;simp [hx], ?_⟩⟩;simp [keeps,Zy,Yp,isV];intro hk1;obtain ⟨g2,e2,o2⟩:=hk1;refine ⟨g2,e2,Xf o2 g5 (.inr ?_)⟩;rw [e2];have:=(o2.lt g2 (by rw [e2];rfl)).1;simp [Value.ownBlock];omega
       ·intro f w4 hG pre old hd
        simp [depsF,bindE,List.filter_cons,Zz,Zq,Zr,Zs,ZA,ZW,fAt,Zy,Yp,isV] at hd;obtain ⟨⟨An,cn,e71,_⟩,_⟩:=hd;simp [puts,dsts,Act.put,e71];go_wp2_with fail;exact ⟨_,rfl,by simp [fAt,Yp,Zn,e71],Or.inl (gbR _ _)⟩
       all_goals
        intro f w4 hG pre old hd;have hg4:=pre (by kernel_rfl);have hs4:=hg4.size;have kA_:=gbk hg4 (kD CA.out);have kB_:=gbk hg4 (kD CB.out);have kP_:=gbk hg4 (kD CP.out);have k1_:=gbk hg4 (kD CL1.out);have k2_:=gbk hg4 (kD CL2.out);have h6:=old 6 (by kernel_rfl) (by simp [dsts]);simp at h6;simp [depsF,bindE,List.filter_cons,Zz,Zq,Zr,Zs,ZA,ZW,fAt,Zy,Yp,isV] at hd
        first | simp [puts,dsts,Act.put,hd,h6] | simp [puts,dsts,Act.put,h6]
        go_wp2_with (go_at_call 121;refine (HF'.out _).mono ?_;rintro e w5 ⟨rfl,hw⟩)
        first
         | exact ⟨_,rfl,by simp [fAt,Zy,Yp,Zn,isV],Or.inl (gbR _ _)⟩
         | exact ⟨_,rfl,by simp [fAt,Zy,Yp,Zn,isV],Or.inl hw⟩
         | exact ⟨_,rfl,⟨_,rfl,QZ hs4 _ _⟩,Or.inl (gbA (gbR _ _) _)⟩
      ·intro f w4 hG hd
       simp [knowsF,Zy,Yp,isV] at hd;obtain ⟨p0,p1,p2,p3,p4,p5,p6,p7,p8,p9,p10,p11,p12,p13,⟨g1,e70,_⟩,⟨An,cn,e71,o71⟩,e6⟩:=hd;rw [e71] at o71 e6;have hC:Chg (fun b=>b=gV) wz w4:=(Chg.of (gbD (gbR wz none)) (fun _ h=>by cases h)).trans hG;have B5:=zH (YW BW.out hC (by have:=HBlt.out;omega));have G5:=zH (Chg.new GW.out hC (fun i hi=>by omega));have O5:=zH o71;clear hC hG o71 OW BW GW;simp only [puts,dsts,Act.put,p0,p1,p2,p3,p4,p5,p6,p7,p8,p9,p10,p11,p12,p13,e70,e71,e6,zB,zC,zA,zD,zE];clear p0 p1 p2 p3 p4 p5 p6 p7 p8 p9 p10 p11 p12 p13 e70 e71 e6;go_wp2_with fail
       go_roundw
       case rel=>exact ⟨k+1,by omega,by go_num,O5.out,B5.out,G5.out⟩
       case measure=>simp [intOf];omega
  ·have hkn:k=n:=by omega
   subst hkn;obtain ⟨S,sc,rfl,_,_⟩:=ZB hown.out;have b2:=hB.out.cell 2;simp at b2;have b2':=kA b2 (.cells #[] 3);have hBu:=hB.out.lt;have OW:=zH hown.out;have GW:=zH hG.out;have O9:=zH (World.ownsRow_made (e:=3) (size:=1) (base:=wr.heap.size) wr #[] 0 (Nat.le_refl _) (by simp) rfl);clear hown hB hG;go_wp2_with fail;clear b2 b2' hBu;obtain ⟨wo,rfl⟩:∃wo:World,wo=wr:=⟨_,rfl⟩
   go_loopw [9,95] (fun s i wi=>∃j:Nat,j≤q∧i=.int .i64 j∧Hid (wi.ownsRow wo.heap.size 3 1 s j ((evOut m ins j).map (Value.int .i64)))∧Hid (wo.grownBy wi none)) (fun _ i _=>q - (intOf i).toNat)
   case atStart=>exact ⟨0,Nat.zero_le _,rfl,by unfold Hid;have o:=O9.out;simpa [evOut] using o,gbA (gbR _ _) _⟩
   case round =>
    clear O9;obtain ⟨j,hj,rfl,hown,hG⟩:=hrel
    by_cases hlt2:j<q
    ·obtain ⟨b,o,rfl,hb,cz⟩:=Ints.cell (Ints.grow HO.out (gbT GW.out hG.out)) hlt2
     have i1:(j:Int)<(q:Int):=by omega
     have HDS:=zH (evOut_succ m ins j (by rw [HQ.out];exact hlt2));have hz:inB (m.outs.getD j 0) 0 (m.st.length - 1)=true:=HOK.out.ok.outs _ (by rw [getI _ _ (by rw [HQ.out];exact hlt2)];exact List.getElem_mem _);rw [inB_iff,HN.out] at hz;rw [HN.out] at HDS;generalize m.outs.getD j 0=z at *;obtain ⟨zn,rfl⟩:=Int.eq_ofNat_of_zero_le hz.1;have hzn:zn<k:=by omega
     obtain ⟨bb,ob,rfl,_,r1⟩:=Ints.cell (show Ints wr S k (evS m ins k) from Ints.grow (Rd.ofOwn OW.out) hG.out) hzn;rw [Int.toNat_natCast] at HDS;generalize (evS m ins k).getD zn 0=d at *;have hzi:(zn:Int)<(k:Int):=by omega
     have O1:=zH hown.out;have G1:=zH hG.out;have hsz:=hG.out.size;obtain ⟨S2,sc2,rfl,_,_⟩:=ZB hown.out;clear hown hG hz
     go_wp2_with (at_builtin;refine ZK _ wr.heap.size rfl ZZ rfl (.tmp 99) (.tmp 104) rfl _ rfl (by simp [Value.oneCell']) wo.heap.size _ j _ O1.out rfl rfl (by unfold maxLen;omega) (by omega) (by omega) ?_;intro v' w5 hown5 hgrow5)
     have h1:Hid (w5.ownsRow wo.heap.size 3 1 v' (j+1) ((evOut m ins (j+1)).map (Value.int .i64))):=by unfold Hid;rw [HDS.out];simpa using hown5
     have h3:=zH (gbN G1.out hgrow5 fun g e=>(O1.out.lt g e).1);clear hown5 hgrow5 O1 G1;go_wp2_with fail
     go_roundw
     case rel=>exact ⟨j+1,by omega,by go_num,h1,h3.out⟩
     case measure=>simp [intOf];omega
    ·have hjn:j=q:=by omega
     subst hjn;have O1:=zH hown.out;have G1:=zH hG.out;clear hown hG;go_wp2_with fail
     go_ret2
     exact EvJ.yes HOK.out HQ.out.symm (ZE O1.out GW.out.size) (gbT GW.out G1.out)
theorem KJ (m:AM) (v:Value) (A:Option Addr) (n c:Nat) (ins:List Int) (w:World) (h:AggR w (carith m) v) (wf:m.wf) (hi:Ints w A n ins) (hn:n≤1048576) (ho:m.outs.length≤1048576) :
  Calls Tryz.prog 82 #[v,.slice A n c] w (EvJ m ins w):=by
 by_cases hok:EvOk m ins
 ·have:n=60:=by rw [← hi.len,hok.len]
  subst this;exact Qe m v A c ins w h wf hi hok ho
 ·exact QK m v A n c ins w h wf hi hn hok
set_option maxHeartbeats 400000 in
theorem l29Same_c (A B:Option Addr) (n m c d:Nat) (xs ys:List Int) (w:World) (hx:Ints w A n xs) (hy:Ints w B m ys) (hn:n≤4611686018427387903) (hm:m≤4611686018427387903) :
  Calls Tryz.prog 81 #[.slice A n c,.slice B m d] w fun e w'=>e=.returned (.bool (xs == ys))∧∃q,w'=w.drewN q:=by
 have lx:=hx.len;have ly:=hy.len
 by_cases hnm:n=m
 ·subst hnm
  have hd:((n:Int) != (n:Int))=false:=by simp
  have LX:=zH lx;have LY:=zH ly;clear lx ly
  go_enter Tryz.func81,Tryz.ntmps81
  go_wp2_with fail
  go_loopw [5] (fun i w1=>∃k q:Nat,k≤n∧i=.int .i64 k∧w1=w.drewN q∧Hid (xs.take k=ys.take k)) (fun i _=>n - (intOf i).toNat)
  case atStart=>exact ⟨0,0,Nat.zero_le _,rfl,rfl,by simp [Hid]⟩
  case round =>
   obtain ⟨k,q,hk,rfl,rfl,heq⟩:=hrel
   by_cases hlt:k<n
   ·obtain ⟨b,o,rfl,hb,hc⟩:=hx.at_ (by omega)
    obtain ⟨b',o',rfl,hb',hc'⟩:=hy.at_ (by omega);have c1:=hc k hlt;have c2:=hc' k hlt;clear hc hc';have i1:(k:Int)<(n:Int):=by omega
    go_wp2_with fail
    go_quiet (fail)
    go_wp2_with fail
    ·have hne:(xs[k]?.getD 0 != ys[k]?.getD 0)=true:=by assumption
     go_ret;have h1:=LX.out;have h2:=LY.out;have:=ne_of_at xs ys 0 k (by simpa using hne);exact ⟨by simp [this],_,dN ..⟩
    ·have hne:(xs[k]?.getD 0 != ys[k]?.getD 0)=false:=by assumption
     go_roundw
     case rel =>
      have h1:=LX.out;have h2:=LY.out;exact ⟨k+1,_,by omega,by go_num,rfl,Vo xs ys 0 k (by omega) (by omega) heq.out (by simpa using hne)⟩
     case measure=>simp [intOf];omega
   ·have hkn:k=n:=by omega
    subst hkn;go_wp2_with fail;go_ret;have h1:=LX.out;have h2:=LY.out;exact ⟨by simp [UV xs ys k h1 h2 heq.out],_,rfl⟩
 ·have hd:((n:Int) != (m:Int))=true:=by simp;omega
  go_enter Tryz.func81,Tryz.ntmps81
  go_wp2_with fail;go_ret;have:¬xs=ys:=by rintro rfl;omega
  exact ⟨by simp [this],0,rfl⟩
set_option maxHeartbeats 400000 in
theorem same_c (A B:Option Addr) (n m c d:Nat) (xs ys:List Int) (w:World) (hx:Ints w A n xs) (hy:Ints w B m ys) (hn:n≤4611686018427387903) (hm:m≤4611686018427387903) :
  Calls Tryz.prog 83 #[.slice A n c,.slice B m d] w fun e w'=>e=.returned (.bool (xs == ys))∧∃q,w'=w.drewN q:=by
 have lx:=hx.len;have ly:=hy.len
 by_cases hnm:n=m
 ·subst hnm
  have hd:((n:Int) != (n:Int))=false:=by simp
  have LX:=zH lx;have LY:=zH ly;clear lx ly
  go_enter Tryz.func83,Tryz.ntmps83
  go_wp2_with fail
  go_loopw [13] (fun i w1=>∃k q:Nat,k≤n∧i=.int .i64 k∧w1=w.drewN q∧Hid (xs.take k=ys.take k)) (fun i _=>n - (intOf i).toNat)
  case atStart=>exact ⟨0,0,Nat.zero_le _,rfl,rfl,by simp [Hid]⟩
  case round =>
   obtain ⟨k,q,hk,rfl,rfl,heq⟩:=hrel
   by_cases hlt:k<n
   ·obtain ⟨b,o,rfl,hb,hc⟩:=hx.at_ (by omega)
    obtain ⟨b',o',rfl,hb',hc'⟩:=hy.at_ (by omega);have c1:=hc k hlt;have c2:=hc' k hlt;clear hc hc';have i1:(k:Int)<(n:Int):=by omega
    go_wp2_with fail
    go_quiet (fail)
    go_wp2_with fail
    ·have hne:(xs[k]?.getD 0 != ys[k]?.getD 0)=true:=by assumption
     go_ret;have h1:=LX.out;have h2:=LY.out;have:=ne_of_at xs ys 0 k (by simpa using hne);exact ⟨by simp [this],_,dN ..⟩
    ·have hne:(xs[k]?.getD 0 != ys[k]?.getD 0)=false:=by assumption
     go_roundw
     case rel =>
      have h1:=LX.out;have h2:=LY.out;exact ⟨k+1,_,by omega,by go_num,rfl,Vo xs ys 0 k (by omega) (by omega) heq.out (by simpa using hne)⟩
     case measure=>simp [intOf];omega
   ·have hkn:k=n:=by omega
    subst hkn;go_wp2_with fail;go_ret;have h1:=LX.out;have h2:=LY.out;exact ⟨by simp [UV xs ys k h1 h2 heq.out],_,rfl⟩
 ·have hd:((n:Int) != (m:Int))=true:=by simp;omega
  go_enter Tryz.func83,Tryz.ntmps83
  go_wp2_with fail;go_ret;have:¬xs=ys:=by rintro rfl;omega
  exact ⟨by simp [this],0,rfl⟩
theorem ints_one (zs:List Int):∀u∈zs.map (Value.int .i64),u.oneCell'=true:=by
 intro u hu;obtain ⟨z,_,rfl⟩:=List.mem_map.1 hu;rfl
theorem Jq (A:Option Addr) (n c:Nat) (zs:List Int) (w:World) (hx:Ints w A n zs) (hn:n≤1099511627776) :
  Calls Tryz.prog 130 #[.slice A n c] w fun e w'=>∃v,e=.returned v∧w'.ownsRow w.heap.size 3 1 v n (zs.map (Value.int .i64))∧w.grownBy w' none:=by
 have hr:=World.ownsRow_made (e:=3) (size:=1) w #[] 0 (Nat.le_refl _) (by simp) rfl
 go_enter Tryz.func130,Tryz.ntmps130
 go_wp2_with (at_builtin;refine XR _ ZZ rfl (.tmp 3) (.tmp 4) rfl w.heap.size _ 0 [] hr rfl A n c _ rfl (hx.grow (gbA (gbR w none) _)) (ints_one zs) (by unfold maxLen;omega) (by omega) (by simp) ?_;intro v' w1 hown1 hgrow)
 go_ret;exact ⟨v',rfl,by simpa using hown1,gbN (gbA (gbR w none) _) hgrow fun g e=>Nat.le_of_eq (show w.heap.size=g by simpa [Value.ownBlock] using e)⟩
end Go.Proofs.YthaadgdeadbhkaaGreat
