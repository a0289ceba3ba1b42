/-
 EngineRun of both,for all arguments.
-/
import Derived.Test.YthaadgdeadbhkaaGreatMgFnExactCountOutcomes42
open Go.RowKit
set_option linter.unusedVariables false
set_option linter.unusedSimpArgs false
namespace Go.Proofs.YthaadgdeadbhkaaGreat
noncomputable def runR0 (k:KM) (c:AM) (ins es:List Int) (s a:Int):List Int:=if runOkB k c ins es s a=true then outR (runAt k c k.p.toNat s.toNat ins es) else []
noncomputable def runR1 (k:KM) (c:AM) (ins es:List Int) (s a:Int):Bool:=if runOkB k c ins es s a=true then outB (runAt k c k.p.toNat s.toNat ins es) else false
theorem runOk_is {k:KM} {c:AM} {ins es:List Int} {s a:Int} (h:runOkB k c ins es s a=true):∃S A:Nat,s=S∧a=A∧S<4294967296∧A≤900000∧Fit k c k.p.toNat ins∧elemsB k.p es=true∧ins.length=60:=by
 unfold runOkB at h;simp only [Bool.and_eq_true,Bool.not_eq_true',decide_eq_false_iff_not] at h;obtain ⟨⟨⟨h1,h2⟩,h3⟩,h4⟩:=h;obtain ⟨S,A,rfl,rfl,hS,_⟩:=Vr h1;obtain ⟨hk,_,_,hl,_⟩:=Qn h3;obtain ⟨p2,_⟩:=ZC (Yc hk).1;exact ⟨S,A,rfl,rfl,hS,by omega,Fit.of h3 (by omega),h4,hl⟩
theorem runAt_outs {k:KM} {c:AM} {P s:Nat} {ins es:List Int}:(runAt k c P s ins es).c=c:=by
 unfold runAt;generalize (rounds c).toNat=n
 induction n with
 | zero=>rfl
 | succ n ih =>
  rw [engAt];unfold Yt
  split
  ·show (Zl _ _ _ _ _).c=c
   rw [(YC _ _ _ _ _).2.1];exact ih
  ·exact ih
theorem runR0_len {k:KM} {c:AM} {ins es:List Int} {s a:Int} (hc:c.outs.length≤1048576):(runR0 k c ins es s a).length≤1048576:=by
 unfold runR0
 split
 ·unfold outR
  split
  ·rw [List.length_map,runAt_outs];exact hc
  ·simp
 ·simp
theorem Jk (k:KM) (c:AM) (ins es:List Int) (s a:Int) (wk:kwf k) (wc:amwf c) (hn:ins.length≤1048576) (he:es.length≤1048576) (w:World) (v0 v1 v2 v4:Value) (h0:AggR w (ckeys k) v0) (h1:AggR w (carith c) v1) (h2:(cints ins).rd w v2) (h4:(cints es).rd w v4) :
  Calls Tryz.prog 9 #[v0,v1,v2,.agg #[.int .i64 s,.int .i64 a],v4] w fun e w'=>∃V F,e=.returned (.tuple #[V,.bool (runR1 k c ins es s a)])∧(cints (runR0 k c ins es s a)).own w' F V∧(∀g∈F,w.heap.size≤g)∧w.grownBy w' none:=by
 obtain ⟨A,cc,rfl,_,_,hI⟩:=Zx h2;obtain ⟨R,cr,rfl,hcr,_,hE⟩:=Zx h4
 cases hb:runOkB k c ins es s a
 ·have e0:runR0 k c ins es s a=[]:=by unfold runR0;rw [if_neg (by rw [hb];decide)]
  have e1:runR1 k c ins es s a=false:=by unfold runR1;rw [if_neg (by rw [hb];decide)]
  rw [e0,e1];refine (QT k c s a A R ins.length cc es.length cr ins es v0 v1 w h0 h1 h2 hE wk wc hn he hb).mono ?_;rintro e w' ⟨V,rfl,h5,h6⟩;exact ⟨V,_,rfl,Ya h5,fun g hg=>(XA h5 (by simpa using hg)).choose_spec.2,h6⟩
 ·obtain ⟨S,T,rfl,rfl,hS,hT,hf,hel,hl⟩:=runOk_is hb
  have e0:runR0 k c ins es (S:Int) (T:Int)=outR (runAt k c k.p.toNat S ins es):=by unfold runR0;rw [if_pos hb];rfl
  have e1:runR1 k c ins es (S:Int) (T:Int)=outB (runAt k c k.p.toNat S ins es):=by unfold runR1;rw [if_pos hb];rfl
  rw [e0,e1];have hv:Value.slice A ins.length cc=.slice A 60 cc:=by rw [hl]
  rw [hl] at hI;rw [hv];refine (Qs k c k.p.toNat S T A R cc es.length cr ins es v0 v1 w h0 h1 hI hE wk wc hf hel hS hT he hcr).mono ?_;rintro e w' ⟨V,rfl,h5,h6⟩;exact ⟨V,_,rfl,Ya h5,fun g hg=>(XA h5 (by simpa using hg)).choose_spec.2,h6⟩
theorem Jl (k:KM) (c:AM) (ins es:List Int) (s a:Int) (wk:kwf k) (wc:amwf c) (hn:ins.length≤1048576) (he:es.length≤1048576) (w:World) (v0 v1 v2 v4:Value) (h0:AggR w (ckeys k) v0) (h1:AggR w (carith c) v1) (h2:(cints ins).rd w v2) (h4:(cints es).rd w v4) :
  Calls Tryz.prog 14 #[v0,v1,v2,.agg #[.int .i64 s,.int .i64 a],v4] w fun e w'=>∃V F,e=.returned (.tuple #[V,.bool (runR1 k c ins es s a)])∧(cints (runR0 k c ins es s a)).own w' F V∧(∀g∈F,w.heap.size≤g)∧w.grownBy w' none:=by
 obtain ⟨A,cc,rfl,_,_,hI⟩:=Zx h2;obtain ⟨R,cr,rfl,hcr,_,hE⟩:=Zx h4
 cases hb:runOkB k c ins es s a
 ·have e0:runR0 k c ins es s a=[]:=by unfold runR0;rw [if_neg (by rw [hb];decide)]
  have e1:runR1 k c ins es s a=false:=by unfold runR1;rw [if_neg (by rw [hb];decide)]
  rw [e0,e1];refine (QS k c s a A R ins.length cc es.length cr ins es v0 v1 w h0 h1 h2 hE wk wc hn he hb).mono ?_;rintro e w' ⟨rfl,h6⟩;exact ⟨_,[],rfl,YS w',by simp,h6⟩
 ·obtain ⟨S,T,rfl,rfl,hS,hT,hf,hel,hl⟩:=runOk_is hb
  have e0:runR0 k c ins es (S:Int) (T:Int)=outR (runAt k c k.p.toNat S ins es):=by unfold runR0;rw [if_pos hb];rfl
  have e1:runR1 k c ins es (S:Int) (T:Int)=outB (runAt k c k.p.toNat S ins es):=by unfold runR1;rw [if_pos hb];rfl
  rw [e0,e1];have hv:Value.slice A ins.length cc=.slice A 60 cc:=by rw [hl]
  rw [hl] at hI;rw [hv];refine (Qp k c k.p.toNat S T A R cc es.length cr ins es v0 v1 w h0 h1 hI hE wk wc hf hel hS hT he hcr).mono ?_;rintro e w' ⟨V,rfl,h5,h6⟩;exact ⟨V,_,rfl,Ya h5,fun g hg=>(XA h5 (by simpa using hg)).choose_spec.2,h6⟩
set_option maxHeartbeats 1000000 in
theorem QV (m:AM) (v:Value) (A:Option Addr) (n c:Nat) (ins:List Int) (w:World) (h:AggR w (carith m) v) (wf:m.wf) (hi:Ints w A n ins) (hn:n≤1048576) (hno:¬EvOk m ins) :
  Calls Tryz.prog 80 #[v,.slice A n c] w (EvJ m ins w):=by
 have HNO:=zH hno;have HI:=zH hi;have HL:=zH hi.len;have HA:=zH h;have HW:=zH wf;obtain ⟨u1,u2,rfl,h1,h2⟩:=Zt h;have A1:=zH ((Blk.new w 38 #[.int .i64 m.p,u1,u2]).grow (gbA (gbR _ none) (.cells #[] 3)));have G1:=zH (gbA (gbA (gbR w none) (.cells #[.int .i64 m.p,u1,u2] 38)) (.cells #[] 3))
 have O1:Hid (((w.alloc (.cells #[.int .i64 m.p,u1,u2] 38)).alloc (.cells #[] 3)).ownsRow w.heap.size 3 1 (.slice (some ⟨w.heap.size+1,0,none⟩) 0 0) 0 []):=by
  have:=World.ownsRow_made (e:=3) (size:=1) (base:=w.heap.size) (w.alloc (.cells #[.int .i64 m.p,u1,u2] 38)) #[] 0 (by simp) (by simp) rfl
  simpa [Hid] using this
 clear h h1 h2 wf hi;have c0':=A1.out.cell 0;have c1':=A1.out.cell 1;have c2':=A1.out.cell 2;simp at c0' c1' c2'
 cases hok:arithB m with
 | false =>
  have HOK:=zH hok;clear hok hno
  go_enter Tryz.func80,Tryz.ntmps80
  go_wp2_with fail;refine (Yd m _ _ (AggR.grow HA.out G1.out) HW.out).mono ?_;rintro e w1 ⟨rfl,g⟩;rw [HOK.out];have G2:=zH (gbT G1.out g);have O2:=zH (Zj O1.out g);clear g;go_wp2_with fail
  go_ret2
  exact EvJ.no HNO.out O2.out G2.out
 | true =>
  have HOK:=zH hok;have hok':=WI hok
  by_cases h60:n=60
  ·subst h60
   have hel:elemsB m.p ins=false:=by
    cases he:elemsB m.p ins with
    | false=>rfl
    | true=>exact absurd ⟨hok',HL.out,he⟩ hno
   have HE:=zH hel;have hf:=ZC hok'.fld;have hp1:m.p≤101:=hf.2;have hp0:2≤m.p:=hf.1;clear hok hok' hel hno hf
   go_enter Tryz.func80,Tryz.ntmps80
   go_wp2_with fail;refine (Yd m _ _ (AggR.grow HA.out G1.out) HW.out).mono ?_;rintro e w1 ⟨rfl,g⟩;rw [HOK.out];have A2:=zH (A1.out.grow g);have G2:=zH (gbT G1.out g);have O2:=zH (Zj O1.out g);have c0:=A2.out.cell 0;simp at c0;clear g;go_wp2_with fail;refine (ZQ m.p A 60 c ins _ (by omega) (Ints.grow HI.out G2.out) (by omega)).mono ?_;rintro e w2 ⟨rfl,rfl⟩;rw [HE.out];go_wp2_with fail
   go_ret2
   exact EvJ.no HNO.out O2.out G2.out
  ·have d:((n:Int) != 60)=true:=by simp;omega
   clear hok hok' hno
   go_enter Tryz.func80,Tryz.ntmps80
   go_wp2_with fail;refine (Yd m _ _ (AggR.grow HA.out G1.out) HW.out).mono ?_;rintro e w1 ⟨rfl,g⟩;rw [HOK.out];have G2:=zH (gbT G1.out g);have O2:=zH (Zj O1.out g);clear g;go_wp2_with fail
   go_ret2
   exact EvJ.no HNO.out O2.out G2.out
set_option maxRecDepth 100000 in
set_option maxHeartbeats 4000000 in
theorem Qt (m:AM) (v:Value) (A0:Option Addr) (c00:Nat) (ins:List Int) (w:World) (h:AggR w (carith m) v) (wf:m.wf) (hi:Ints w A0 60 ins) (hok:EvOk m ins) (ho:m.outs.length≤1048576) :
  Calls Tryz.prog 80 #[v,.slice A0 60 c00] w (EvJ m ins w):=by
 have HV:=zH h;have HI:=zH hi;obtain ⟨u1,u2,rfl,h1,h2⟩:=Zt h;obtain ⟨A,c,rfl,hc,hm,hF⟩:=ZP (s:=3) (fun _=>rfl) (by omega) h1;obtain ⟨A2,c2',rfl,hc2,hm2,hO⟩:=Zx h2;clear h h1 h2 hi;unfold maxLen at hm;obtain ⟨n,hn⟩:∃n,m.st.length=n:=⟨_,rfl⟩;obtain ⟨q,hq⟩:∃q,m.outs.length=q:=⟨_,rfl⟩;have h60:=hok.ok.few;rw [hn] at hF hc h60 HV ⊢;rw [hq] at hc2 hO ho HV ⊢;have HN:=zH hn;have HQ:=zH hq;have HF:=zH hF;have HO:=zH hO;have HOK:=zH hok;have HW:=zH wf;have hf:=ZI hok.el;have hp0:=hf.2.1;have hp1:=hf.2.2.1;obtain ⟨p,hp⟩:∃p,m.p=p:=⟨_,rfl⟩;have A1:=zH ((Blk.new w 38 #[.int .i64 m.p,.slice A n c,.slice A2 q c2']).grow (gbA (gbR _ none) (.cells #[] 3)));have G1:=zH (gbA (gbA (gbR w none) (.cells #[.int .i64 m.p,.slice A n c,.slice A2 q c2'] 38)) (.cells #[] 3));have T1:=zH (World.ownsRow_made (e:=3) (size:=1) (base:=w.heap.size+1) (w.alloc (.cells #[.int .i64 m.p,.slice A n c,.slice A2 q c2'] 38)) #[] 0 (by simp) (by simp) rfl);rw [show (w.alloc (.cells #[.int .i64 m.p,.slice A n c,.slice A2 q c2'] 38)).heap.size=w.heap.size+1 by simp] at T1;rw [hp] at hp0 hp1 A1 G1 T1 HV ⊢;have HP:=zH hp;clear hF wf hn hok hq hO hf hp;have k0:=A1.out.cell 0;have k1:=A1.out.cell 1;have k2:=A1.out.cell 2;simp at k0 k1 k2
 go_enter Tryz.func80,Tryz.ntmps80
 go_wp2_with fail;refine (Yd m _ _ (AggR.grow HV.out G1.out) HW.out).mono ?_;rintro e w1 ⟨rfl,g⟩;rw [Yq HOK.out.ok];have A2':=zH (A1.out.grow g);have G2:=zH (gbT G1.out g);have T2:=zH (Zj T1.out g);have hTl:=(T2.out.lt (w.heap.size+1) rfl).2;have O2:=zH (World.ownsRow_made (e:=3) (size:=1) (base:=w.heap.size+2) w1 #[] 0 (by omega) (by simp) rfl);have A3:=zH (A2'.out.grow (gbA (gbR w1 none) (.cells #[] 3)));have G3:=zH (gbA G2.out (.cells #[] 3));have T3:=zH (Zj T2.out (gbA (gbR w1 none) (.cells #[] 3)));have c0:=A2'.out.cell 0;have c1:=A2'.out.cell 1;simp at c0 c1;have hbw:=A2'.out.lt;have c1':=kA c1 (.cells #[] 3);clear g A1 G1 T1 k0 k1 k2;go_wp2_with fail;refine (ZQ p A0 60 c00 ins _ (by omega) (Ints.grow HI.out G2.out) (by omega)).mono ?_;rintro e w2 ⟨rfl,rfl⟩;rw [show elemsB p ins=true by rw [← HP.out];exact HOK.out.el];go_wp2_with fail;clear c0 c1 c1' hbw hTl A2' G2 T2
 go_loopw [7,8] (fun s i wr=>∃k:Nat,k≤n∧i=.int .i64 k∧Hid (wr.ownsRow (w.heap.size+2) 3 1 s k ((evS m ins k).map (Value.int .i64)))∧Hid (Blk wr w.heap.size 38 #[.int .i64 p,.slice A n c,.slice A2 q c2'])∧Hid (w.grownBy wr none)∧Hid (wr.ownsRow (w.heap.size+1) 3 1 (.slice (some ⟨w.heap.size+1,0,none⟩) 0 0) 0 [])) (fun _ i _=>n - (intOf i).toNat)
 case atStart=>exact ⟨0,Nat.zero_le _,rfl,O2.out,A3.out,G3.out,T3.out⟩
 case round =>
  clear O2 A3 G3 T3;obtain ⟨k,hk,rfl,hown,hB,hG,hT⟩:=hrel;have d1_:=hB.out.cell 1;simp at d1_
  by_cases hlt:k<n
  ·obtain ⟨b,o,x,y,z,rfl,hb,hx,q0,q1,q2⟩:=YI (FL.grow HF.out hG.out) hlt
   have i1:(k:Int)<(n:Int):=by omega
   have hx':stAt m k=(x,y,z):=by simp [stAt,zF,hx]
   clear hx;obtain ⟨S,sc,rfl,_,_⟩:=ZB hown.out;have HDS:Hid (evS m ins (k+1)=evS m ins k ++ [evD m.p ins (evS m ins k) (x,y,z)]):=by unfold Hid;rw [evS,hx']
   have hsb:=HOK.out.ok.steps k (by rw [HN.out];exact hlt);rw [hx'] at hsb
   by_cases h1:x=1
   ·subst h1
    have hy:0≤y∧y≤59:=by simp [stepB] at hsb;exact inB_iff.1 hsb.1
    obtain ⟨yn,rfl⟩:=Int.eq_ofNat_of_zero_le hy.1;have hyn:yn<60:=by omega
    obtain ⟨bi,oi,rfl,hbi,ci⟩:=Ints.cell (Ints.grow HI.out hG.out) hyn;have HD:evD m.p ins (evS m ins k) ((1:Int),((yn:Int),z))=ins.getD yn 0:=by simp [evD]
    rw [HD] at HDS;clear HD hx' hsb;generalize ins.getD yn 0=d at *;have ci':=fun o=>kA ci o;have hyi:(yn:Int)<60:=by omega
    have OW:=zH (Zj hown.out (gbA (gbR wr none) (.cells #[.int .i64 1,.int .i64 yn,.int .i64 z] 102)));have BW:=zH (hB.out.grow (gbA (gbR wr none) (.cells #[.int .i64 1,.int .i64 yn,.int .i64 z] 102)));have GW:=zH (gbT hG.out (gbA (gbR wr none) (.cells #[.int .i64 1,.int .i64 yn,.int .i64 z] 102)));have TW:=zH (Zj hT.out (gbA (gbR wr none) (.cells #[.int .i64 1,.int .i64 yn,.int .i64 z] 102)));have hsz:=hB.out.lt;have hsz2:=(hT.out.lt (w.heap.size+1) rfl).2;clear hown hB hG hT
    go_wp2_with (at_builtin;refine ZK _ (wr.heap.size+1) (by simp) ZZ rfl (.tmp 83) (.tmp 85) rfl _ rfl (by simp [Value.oneCell']) (w.heap.size+2) _ k _ OW.out rfl rfl (by unfold maxLen;omega) (by omega) (by simp;omega) ?_;intro v' w5 hown5 hgrow5)
    have h1:Hid (w5.ownsRow (w.heap.size+2) 3 1 v' (k+1) ((evS m ins (k+1)).map (Value.int .i64))):=by unfold Hid;rw [HDS.out];simpa using hown5
    have h2:=zH (BW.out.grown hgrow5 (fun e=>by have:=(OW.out.lt _ e.symm).1;omega));have h3:=zH (gbN GW.out hgrow5 fun g e=>by have:=(OW.out.lt g e).1;omega);have h4:=zH (Xf TW.out hgrow5 (.inr (fun e=>by have:=(OW.out.lt (w.heap.size+1) e.symm).1;omega)));clear hown5 hgrow5 OW BW GW TW;go_wp2_with fail
    go_roundw
    case rel=>exact ⟨k+1,by omega,by go_num,h1,h2.out,h3.out,h4.out⟩
    case measure=>simp [intOf];omega
   ·have d1:(x == 1)=false:=by simp;omega
    by_cases h2:x=2
    ·subst h2
     have HD:evD m.p ins (evS m ins k) ((2:Int),(y,z))=y:=by simp [evD]
     rw [HD] at HDS;clear HD hx' hsb d1 h1;have OW:=zH (Zj hown.out (gbA (gbR wr none) (.cells #[.int .i64 2,.int .i64 y,.int .i64 z] 102)));have BW:=zH (hB.out.grow (gbA (gbR wr none) (.cells #[.int .i64 2,.int .i64 y,.int .i64 z] 102)));have GW:=zH (gbT hG.out (gbA (gbR wr none) (.cells #[.int .i64 2,.int .i64 y,.int .i64 z] 102)));have TW:=zH (Zj hT.out (gbA (gbR wr none) (.cells #[.int .i64 2,.int .i64 y,.int .i64 z] 102)));have hsz:=hB.out.lt;have hsz2:=(hT.out.lt (w.heap.size+1) rfl).2;clear hown hB hG hT
     go_wp2_with (at_builtin;refine ZK _ (wr.heap.size+1) (by simp) ZZ rfl (.tmp 83) (.tmp 85) rfl _ rfl (by simp [Value.oneCell']) (w.heap.size+2) _ k _ OW.out rfl rfl (by unfold maxLen;omega) (by omega) (by simp;omega) ?_;intro v' w5 hown5 hgrow5)
     have h1:Hid (w5.ownsRow (w.heap.size+2) 3 1 v' (k+1) ((evS m ins (k+1)).map (Value.int .i64))):=by unfold Hid;rw [HDS.out];simpa using hown5
     have h2:=zH (BW.out.grown hgrow5 (fun e=>by have:=(OW.out.lt _ e.symm).1;omega));have h3:=zH (gbN GW.out hgrow5 fun g e=>by have:=(OW.out.lt g e).1;omega);have h4:=zH (Xf TW.out hgrow5 (.inr (fun e=>by have:=(OW.out.lt (w.heap.size+1) e.symm).1;omega)));clear hown5 hgrow5 OW BW GW TW;go_wp2_with fail
     go_roundw
     case rel=>exact ⟨k+1,by omega,by go_num,h1,h2.out,h3.out,h4.out⟩
     case measure=>simp [intOf];omega
    ·have d2:(x == 2)=false:=by simp;omega
     have h34:x=3∨x=4:=by
      by_cases e:x=3∨x=4
      ·exact e
      ·simp [stepB,h1,h2,e] at hsb
     obtain ⟨ya,za,rfl,rfl,hya,hza⟩:=XB HOK.out.ok (by rw [HN.out];exact hlt) hx' h34;clear hx' hsb d1 d2 h1 h2;have r1:=KI HOK.out k (by rw [HN.out];omega) ya;have r2:=KI HOK.out k (by rw [HN.out];omega) za;obtain ⟨gV,cV,ev,hcV,hbV,hmV⟩:=WN hown.out (by omega);injection ev with e1 _ e3;subst e1;subst e3
     have cA:wr.cell? ⟨gV,ya,none⟩=some (.int .i64 ((evS m ins k).getD ya 0)):=by
      obtain ⟨bb,ob,e1,_,r⟩:=Ints.cell (show Ints wr (some ⟨gV,0,none⟩) k (evS m ins k) from Rd.ofOwn hown.out) hya;injection e1 with e1;injection e1 with e1 e2;subst e1;subst e2;rw [Nat.zero_add] at r;exact r
     have cB:wr.cell? ⟨gV,za,none⟩=some (.int .i64 ((evS m ins k).getD za 0)):=by
      obtain ⟨bb,ob,e1,_,r⟩:=Ints.cell (show Ints wr (some ⟨gV,0,none⟩) k (evS m ins k) from Rd.ofOwn hown.out) hza;injection e1 with e1;injection e1 with e1 e2;subst e1;subst e2;rw [Nat.zero_add] at r;exact r
     have HD:Hid (evD m.p ins (evS m ins k) (x,(ya:Int),(za:Int))=if x=3 then ((evS m ins k).getD ya 0+(evS m ins k).getD za 0) % p else ((evS m ins k).getD ya 0*(evS m ins k).getD za 0) % p):=by
      unfold Hid evD;rw [HP.out];simp only [Int.toNat_natCast]
      rcases h34 with rfl | rfl <;> rfl
     rw [HD.out] at HDS;clear HD;obtain ⟨da,hda⟩:∃d,(evS m ins k).getD ya 0=d:=⟨_,rfl⟩;obtain ⟨db,hdb⟩:∃d,(evS m ins k).getD za 0=d:=⟨_,rfl⟩;rw [hda] at r1 cA HDS;rw [hdb] at r2 cB HDS;rw [HP.out] at r1 r2;have EA:=zH (Yi (p:=p) (by rw [← HP.out];exact HOK.out.ok.fld) r1.1 r1.2);have EB:=zH (Yi (p:=p) (by rw [← HP.out];exact HOK.out.ok.fld) r2.1 r2.2);clear hda hdb r1 r2;have hia:(ya:Int)<(k:Int):=by omega
     have hib:(za:Int)<(k:Int):=by omega
     have B0:=hB.out.cell 0;simp at B0;have cA':=fun o=>kA cA o;have cB':=fun o=>kA cB o;have B0':=fun o=>kA B0 o;have hBl:=hB.out.lt
     rcases h34 with rfl | rfl
     ·rw [if_pos rfl] at HDS
      have hF:=fun w=>specFAdd_yes p da db w EA.out EB.out;obtain ⟨r,hr⟩:∃r,(da+db) % p=r:=⟨_,rfl⟩;rw [hr] at hF HDS;have HF':=zH hF;clear hF hr;go_wp2_with fail
      go_quiet ((go_at_call 102;exact Calls.quiet_of_same ((HF'.out _).mono fun _ _ hh=>⟨hh.1,hh.2.symm⟩)))
      clear cA cB cA' cB' B0 B0' hBl;have OW:=zH (Zj hown.out (gbDN (gbA (gbR wr none) (.cells #[.int .i64 3,.int .i64 ya,.int .i64 za] 102)) nq));have BW:=zH (hB.out.grow (gbDN (gbA (gbR wr none) (.cells #[.int .i64 3,.int .i64 ya,.int .i64 za] 102)) nq));have GW:=zH (gbT hG.out (gbDN (gbA (gbR wr none) (.cells #[.int .i64 3,.int .i64 ya,.int .i64 za] 102)) nq));have TW:=zH (Zj hT.out (gbDN (gbA (gbR wr none) (.cells #[.int .i64 3,.int .i64 ya,.int .i64 za] 102)) nq));have hsz:=hB.out.lt;have hsz2:=(hT.out.lt (w.heap.size+1) rfl).2;clear hown hB hG hT
      go_wp2_with (at_builtin;refine ZK _ (wr.heap.size+1) (by simp) ZZ rfl (.tmp 83) (.tmp 85) rfl _ rfl (by simp [Value.oneCell']) (w.heap.size+2) _ k _ OW.out rfl rfl (by unfold maxLen;omega) (by omega) (by simp;omega) ?_;intro v' w5 hown5 hgrow5)
      have h1:Hid (w5.ownsRow (w.heap.size+2) 3 1 v' (k+1) ((evS m ins (k+1)).map (Value.int .i64))):=by unfold Hid;rw [HDS.out];simpa using hown5
      have h2:=zH (BW.out.grown hgrow5 (fun e=>by have:=(OW.out.lt _ e.symm).1;omega));have h3:=zH (gbN GW.out hgrow5 fun g e=>by have:=(OW.out.lt g e).1;omega);have h4:=zH (Xf TW.out hgrow5 (.inr (fun e=>by have:=(OW.out.lt (w.heap.size+1) e.symm).1;omega)));clear hown5 hgrow5 OW BW GW TW;go_wp2_with fail
      go_roundw
      case rel=>exact ⟨k+1,by omega,by go_num,h1,h2.out,h3.out,h4.out⟩
      case measure=>simp [intOf];omega
     ·rw [if_neg (by decide)] at HDS
      have hF:=fun w=>specFMul_yes p da db w EA.out EB.out;obtain ⟨r,hr⟩:∃r,(da*db) % p=r:=⟨_,rfl⟩;rw [hr] at hF HDS;have HF':=zH hF;clear hF hr;go_wp2_with fail
      go_quiet ((go_at_call 100;exact Calls.quiet_of_same ((HF'.out _).mono fun _ _ hh=>⟨hh.1,hh.2.symm⟩)))
      clear cA cB cA' cB' B0 B0' hBl;have OW:=zH (Zj hown.out (gbDN (gbA (gbR wr none) (.cells #[.int .i64 4,.int .i64 ya,.int .i64 za] 102)) nq));have BW:=zH (hB.out.grow (gbDN (gbA (gbR wr none) (.cells #[.int .i64 4,.int .i64 ya,.int .i64 za] 102)) nq));have GW:=zH (gbT hG.out (gbDN (gbA (gbR wr none) (.cells #[.int .i64 4,.int .i64 ya,.int .i64 za] 102)) nq));have TW:=zH (Zj hT.out (gbDN (gbA (gbR wr none) (.cells #[.int .i64 4,.int .i64 ya,.int .i64 za] 102)) nq));have hsz:=hB.out.lt;have hsz2:=(hT.out.lt (w.heap.size+1) rfl).2;clear hown hB hG hT
      go_wp2_with (at_builtin;refine ZK _ (wr.heap.size+1) (by simp) ZZ rfl (.tmp 83) (.tmp 85) rfl _ rfl (by simp [Value.oneCell']) (w.heap.size+2) _ k _ OW.out rfl rfl (by unfold maxLen;omega) (by omega) (by simp;omega) ?_;intro v' w5 hown5 hgrow5)
      have h1:Hid (w5.ownsRow (w.heap.size+2) 3 1 v' (k+1) ((evS m ins (k+1)).map (Value.int .i64))):=by unfold Hid;rw [HDS.out];simpa using hown5
      have h2:=zH (BW.out.grown hgrow5 (fun e=>by have:=(OW.out.lt _ e.symm).1;omega));have h3:=zH (gbN GW.out hgrow5 fun g e=>by have:=(OW.out.lt g e).1;omega);have h4:=zH (Xf TW.out hgrow5 (.inr (fun e=>by have:=(OW.out.lt (w.heap.size+1) e.symm).1;omega)));clear hown5 hgrow5 OW BW GW TW;go_wp2_with fail
      go_roundw
      case rel=>exact ⟨k+1,by omega,by go_num,h1,h2.out,h3.out,h4.out⟩
      case measure=>simp [intOf];omega
  ·have hkn:k=n:=by omega
   subst hkn;obtain ⟨S,sc,rfl,_,_⟩:=ZB hown.out;have b2:=hB.out.cell 2;simp at b2;have OW:=zH hown.out;have BW:=zH hB.out;have GW:=zH hG.out;have TW:=zH hT.out;clear hown hB hG hT
   have SEP:Hid (∀g,(Value.slice (some ⟨w.heap.size+1,0,none⟩) 0 0).ownBlock=some g→(Value.slice S k sc).ownBlock≠some g):=fun g e1 e2=>by
    have:w.heap.size+1=g:=by simpa [Value.ownBlock] using e1
    have:=(OW.out.lt g e2).1;omega
   go_wp2_with fail;clear b2 d1_;obtain ⟨wo,rfl⟩:∃wo:World,wo=wr:=⟨_,rfl⟩
   go_loopw [6,11] (fun s i wi=>∃j:Nat,j≤q∧i=.int .i64 j∧Hid (wi.ownsRow (w.heap.size+1) 3 1 s j ((evOut m ins j).map (Value.int .i64)))∧Hid (wi.ownsRow (w.heap.size+2) 3 1 (.slice S k sc) k ((evS m ins k).map (Value.int .i64)))∧Hid (∀g,s.ownBlock=some g→(Value.slice S k sc).ownBlock≠some g)∧Hid (Blk wi w.heap.size 38 #[.int .i64 p,.slice A k c,.slice A2 q c2'])∧Hid (w.grownBy wi none)) (fun _ i _=>q - (intOf i).toNat)
   case atStart=>exact ⟨0,Nat.zero_le _,rfl,TW.out,OW.out,SEP.out,BW.out,GW.out⟩
   case round =>
    clear TW OW BW GW SEP;obtain ⟨j,hj,rfl,hown,hv,hsep,hB,hG⟩:=hrel;have b2:=hB.out.cell 2;simp at b2
    by_cases hlt2:j<q
    ·obtain ⟨b,o,rfl,hb,cz⟩:=Ints.cell (Ints.grow HO.out hG.out) hlt2
     have i1:(j:Int)<(q:Int):=by omega
     have HDS:=zH (evOut_succ m ins j (by rw [HQ.out];exact hlt2));have hz:inB (m.outs.getD j 0) 0 (m.st.length - 1)=true:=HOK.out.ok.outs _ (by rw [getI _ _ (by rw [HQ.out];exact hlt2)];exact List.getElem_mem _);rw [inB_iff,HN.out] at hz;rw [HN.out] at HDS;generalize m.outs.getD j 0=z at *;obtain ⟨zn,rfl⟩:=Int.eq_ofNat_of_zero_le hz.1;have hzn:zn<k:=by omega
     obtain ⟨bb,ob,rfl,_,r1⟩:=Ints.cell (show Ints wr S k (evS m ins k) from Rd.ofOwn hv.out) hzn;rw [Int.toNat_natCast] at HDS;generalize (evS m ins k).getD zn 0=d at *;have hzi:(zn:Int)<(k:Int):=by omega
     obtain ⟨S2,sc2,rfl,_,_⟩:=ZB hown.out;have O1:=zH hown.out;have V1:=zH hv.out;have B1:=zH hB.out;have G1:=zH hG.out;have SP:=zH hsep.out;have hsz:=hB.out.lt;clear hown hG hz hv hsep hB
     go_wp2_with (at_builtin;refine UZ wr wr.heap.size rfl ZZ rfl (.tmp 94) (.tmp 103) rfl _ rfl (by simp [Value.oneCell']) (w.heap.size+1) _ j _ O1.out rfl rfl (by unfold maxLen;omega) (by omega) (by omega) ?_;intro v' w5 hown5 hgrow5 hloc5)
     have h1:Hid (w5.ownsRow (w.heap.size+1) 3 1 v' (j+1) ((evOut m ins (j+1)).map (Value.int .i64))):=by unfold Hid;rw [HDS.out];simpa using hown5
     have h2:=zH (Xf V1.out hgrow5 (by
      cases hb2:(Value.slice S2 j sc2).ownBlock with
      | none=>exact .inr (fun e=>by simp [Value.ownBlock] at e)
      | some g=>exact .inr (SP.out g hb2)))
     have h3:=zH (gbN G1.out hgrow5 fun g e=>by have:=(O1.out.lt g e).1;omega);have h4:=zH (B1.out.grown hgrow5 (fun e=>by have:=(O1.out.lt _ e.symm).1;omega))
     have h5:Hid (∀g,v'.ownBlock=some g→(Value.slice (some ⟨bb,ob,none⟩) k sc).ownBlock≠some g):=fun g e1 e2=>by
      rcases hloc5 g e1 with h6 | h6
      ·exact SP.out g h6.symm e2
      ·have:=(V1.out.lt g e2).2;omega
     clear hown5 hgrow5 hloc5 O1 V1 B1 G1 SP b2;go_wp2_with fail
     go_roundw
     case rel=>exact ⟨j+1,by omega,by go_num,h1,h2.out,h5,h4.out,h3.out⟩
     case measure=>simp [intOf];omega
    ·have hjn:j=q:=by omega
     subst hjn;have O1:=zH hown.out;have G1:=zH hG.out;clear hown hG hv hsep hB;go_wp2_with fail
     go_ret2
     exact EvJ.yes HOK.out HQ.out.symm (ZE O1.out (by omega)) G1.out
theorem Jm (m:AM) (v:Value) (A:Option Addr) (n c:Nat) (ins:List Int) (w:World) (h:AggR w (carith m) v) (wf:m.wf) (hi:Ints w A n ins) (hn:n≤1048576) (ho:m.outs.length≤1048576) :
  Calls Tryz.prog 80 #[v,.slice A n c] w (EvJ m ins w):=by
 by_cases hok:EvOk m ins
 ·have:n=60:=by rw [← hi.len,hok.len]
  subst this;exact Qt m v A c ins w h wf hi hok ho
 ·exact QV m v A n c ins w h wf hi hn hok
noncomputable def outN (k:KM) (c:AM) (ins es:List Int) (s a:Int):Nat:=if runR1 k c ins es s a=true then (if (runR0 k c ins es s a == evR c ins)=true then 0 else 2) else 1
theorem outN_lt (k:KM) (c:AM) (ins es:List Int) (s a:Int):outN k c ins es s a<3:=by
 unfold outN
 split
 ·split <;> omega
 ·omega
set_option maxHeartbeats 2000000 in
set_option maxRecDepth 100000 in
theorem Jn (k:KM) (c:AM) (ins es:List Int) (s a:Int) (wk:kwf k) (wc:amwf c) (hn:ins.length≤1048576) (he:es.length≤1048576) (w:World) (v0 v1 v2 v4:Value) (h0:AggR w (ckeys k) v0) (h1:AggR w (carith c) v1) (h2:(cints ins).rd w v2) (h4:(cints es).rd w v4) :
  Calls Tryz.prog 33 #[v0,v1,v2,.agg #[.int .i64 s,.int .i64 a],v4] w fun e w'=>e=.returned (.int .i64 (outN k c ins es s a))∧w.grownBy w' none:=by
 obtain ⟨KA,kc,rfl,_,_,_⟩:=ZG h0;obtain ⟨u1,u2,rfl,c1,c2⟩:=Zt h1;obtain ⟨A1,n1,rfl,_,_,_⟩:=ZP (s:=3) (fun _=>rfl) (by omega) c1;obtain ⟨A2,n2,rfl,_,_,_⟩:=Zx c2;obtain ⟨I,ci,rfl,_,_,hI⟩:=Zx h2;obtain ⟨R,cr,rfl,_,_,_⟩:=Zx h4;have HK:=zH h0;have HC:=zH h1;have HI:=zH h2;have HE:=zH h4;have HII:=zH hI;have WK:=zH wk;have WC:=zH wc;clear h0 h1 h2 h4 wk wc c1 c2 hI
 go_enter Tryz.func33,Tryz.ntmps33
 go_wp2_with fail;obtain ⟨wu,hwu⟩:∃x:World,((w.alloc (.cells #[.int .i64 k.p,.slice KA k.al.length kc] 34)).alloc (.cells #[.int .i64 c.p,.slice A1 c.st.length n1,.slice A2 c.outs.length n2] 38)).alloc (.cells #[.int .i64 s,.int .i64 a] 41)=x:=⟨_,rfl⟩;have GU:Hid (w.grownBy wu none):=by rw [← hwu];exact zH (gbA (gbA (gbA (gbR _ _) _) _) _)
 have B4:Hid (Blk wu (w.heap.size+1) 38 #[.int .i64 c.p,.slice A1 c.st.length n1,.slice A2 c.outs.length n2]):=by rw [← hwu];exact zH ((Blk.new' _ _ _ _ (by simp)).grow (gbA (gbR _ _) _))
 try rw [hwu]
 clear hwu;refine (Jk k c ins es s a WK.out WC.out hn he wu _ _ _ _ (HK.out.grow GU.out) (HC.out.grow GU.out) (CS.grow _ HI.out GU.out) (CS.grow _ HE.out GU.out)).mono ?_;rintro e w3 ⟨V3,F3,rfl,o3,_,g3⟩;obtain ⟨xs,hxs⟩:∃l,runR0 k c ins es s a=l:=⟨_,rfl⟩;rw [hxs] at o3;have hxl:xs.length≤1048576:=by rw [← hxs];exact runR0_len WC.out.outs
 have HXS:=zH hxs;have G3:=zH (gbT GU.out g3);have C4:=zH (B4.out.grow g3);have x0:=C4.out.cell 0;have x1:=C4.out.cell 1;have x2:=C4.out.cell 2;simp only [List.getElem?_toArray,List.getElem?_cons_succ,List.getElem?_cons_zero] at x0 x1 x2;obtain ⟨V,cV,rfl,_,_,i3⟩:=Zx ((cints xs).toRd o3);have I3:=zH i3;clear g3 hxs o3 B4 i3
 cases hb:runR1 k c ins es s a
 ·have HO:Hid (outN k c ins es s a=1):=by unfold Hid outN;rw [hb];rfl
  clear hb;go_wp2_with fail;go_ret;exact ⟨by rw [HO.out];rfl,G3.out⟩
 ·have HB:=zH hb
  clear hb;go_wp2_with fail;clear x0 x1 x2;refine (Jm c _ I ins.length ci ins w3 (HC.out.grow G3.out) WC.out.wf (HII.out.grow G3.out) (by omega) WC.out.outs).mono ?_;rintro e w5 ⟨V5,rfl,o5,g5⟩;obtain ⟨ys,hys⟩:∃l,evR c ins=l:=⟨_,rfl⟩;have hyl:ys.length≤1048576:=by rw [← hys];exact Nat.le_trans (evR_len c ins) WC.out.outs
  rw [hys] at o5;have HYS:=zH hys;obtain ⟨V',cV',rfl,_,_⟩:=ZB o5;have I5:=zH (show Ints w5 V' ys.length ys from Rd.ofOwn o5);have I35:=zH (I3.out.grow g5);have G5:=zH (gbT G3.out g5);clear o5 g5 hys;go_wp2_with fail;refine (l29Same_c V V' xs.length ys.length cV cV' xs ys w5 I35.out I5.out (by omega) (by omega)).mono ?_;rintro e w6 ⟨rfl,q,rfl⟩;have G6:=zH (gbDN G5.out q)
  cases hxy:(xs == ys)
  ·have HO:Hid (outN k c ins es s a=2):=by unfold Hid outN;rw [HB.out,HXS.out,HYS.out,if_pos rfl,hxy];rfl
   clear hxy;go_wp2_with fail;go_ret;exact ⟨by rw [HO.out];rfl,G6.out⟩
  ·have HO:Hid (outN k c ins es s a=0):=by unfold Hid outN;rw [HB.out,HXS.out,HYS.out,if_pos rfl,hxy];rfl
   clear hxy;go_wp2_with fail;go_ret;exact ⟨by rw [HO.out];rfl,G6.out⟩
set_option maxHeartbeats 2000000 in
set_option maxRecDepth 100000 in
theorem Jo (k:KM) (c:AM) (ins es:List Int) (s a:Int) (wk:kwf k) (wc:amwf c) (hn:ins.length≤1048576) (he:es.length≤1048576) (w:World) (v0 v1 v2 v4:Value) (h0:AggR w (ckeys k) v0) (h1:AggR w (carith c) v1) (h2:(cints ins).rd w v2) (h4:(cints es).rd w v4) :
  Calls Tryz.prog 34 #[v0,v1,v2,.agg #[.int .i64 s,.int .i64 a],v4] w fun e w'=>e=.returned (.int .i64 (outN k c ins es s a))∧w.grownBy w' none:=by
 obtain ⟨KA,kc,rfl,_,_,_⟩:=ZG h0;obtain ⟨u1,u2,rfl,c1,c2⟩:=Zt h1;obtain ⟨A1,n1,rfl,_,_,_⟩:=ZP (s:=3) (fun _=>rfl) (by omega) c1;obtain ⟨A2,n2,rfl,_,_,_⟩:=Zx c2;obtain ⟨I,ci,rfl,_,_,hI⟩:=Zx h2;obtain ⟨R,cr,rfl,_,_,_⟩:=Zx h4;have HK:=zH h0;have HC:=zH h1;have HI:=zH h2;have HE:=zH h4;have HII:=zH hI;have WK:=zH wk;have WC:=zH wc;clear h0 h1 h2 h4 wk wc c1 c2 hI
 go_enter Tryz.func34,Tryz.ntmps34
 go_wp2_with fail;obtain ⟨wu,hwu⟩:∃x:World,((w.alloc (.cells #[.int .i64 k.p,.slice KA k.al.length kc] 34)).alloc (.cells #[.int .i64 c.p,.slice A1 c.st.length n1,.slice A2 c.outs.length n2] 38)).alloc (.cells #[.int .i64 s,.int .i64 a] 41)=x:=⟨_,rfl⟩;have GU:Hid (w.grownBy wu none):=by rw [← hwu];exact zH (gbA (gbA (gbA (gbR _ _) _) _) _)
 have B4:Hid (Blk wu (w.heap.size+1) 38 #[.int .i64 c.p,.slice A1 c.st.length n1,.slice A2 c.outs.length n2]):=by rw [← hwu];exact zH ((Blk.new' _ _ _ _ (by simp)).grow (gbA (gbR _ _) _))
 try rw [hwu]
 clear hwu;refine (Jl k c ins es s a WK.out WC.out hn he wu _ _ _ _ (HK.out.grow GU.out) (HC.out.grow GU.out) (CS.grow _ HI.out GU.out) (CS.grow _ HE.out GU.out)).mono ?_;rintro e w3 ⟨V3,F3,rfl,o3,_,g3⟩;obtain ⟨xs,hxs⟩:∃l,runR0 k c ins es s a=l:=⟨_,rfl⟩;rw [hxs] at o3;have hxl:xs.length≤1048576:=by rw [← hxs];exact runR0_len WC.out.outs
 have HXS:=zH hxs;have G3:=zH (gbT GU.out g3);have C4:=zH (B4.out.grow g3);have x0:=C4.out.cell 0;have x1:=C4.out.cell 1;have x2:=C4.out.cell 2;simp only [List.getElem?_toArray,List.getElem?_cons_succ,List.getElem?_cons_zero] at x0 x1 x2;obtain ⟨V,cV,rfl,_,_,i3⟩:=Zx ((cints xs).toRd o3);have I3:=zH i3;clear g3 hxs o3 B4 i3
 cases hb:runR1 k c ins es s a
 ·have HO:Hid (outN k c ins es s a=1):=by unfold Hid outN;rw [hb];rfl
  clear hb;go_wp2_with fail;go_ret;exact ⟨by rw [HO.out];rfl,G3.out⟩
 ·have HB:=zH hb
  clear hb;go_wp2_with fail;clear x0 x1 x2;refine (KJ c _ I ins.length ci ins w3 (HC.out.grow G3.out) WC.out.wf (HII.out.grow G3.out) (by omega) WC.out.outs).mono ?_;rintro e w5 ⟨V5,rfl,o5,g5⟩;obtain ⟨ys,hys⟩:∃l,evR c ins=l:=⟨_,rfl⟩;have hyl:ys.length≤1048576:=by rw [← hys];exact Nat.le_trans (evR_len c ins) WC.out.outs
  rw [hys] at o5;have HYS:=zH hys;obtain ⟨V',cV',rfl,_,_⟩:=ZB o5;have I5:=zH (show Ints w5 V' ys.length ys from Rd.ofOwn o5);have I35:=zH (I3.out.grow g5);have G5:=zH (gbT G3.out g5);clear o5 g5 hys;go_wp2_with fail;refine (same_c V V' xs.length ys.length cV cV' xs ys w5 I35.out I5.out (by omega) (by omega)).mono ?_;rintro e w6 ⟨rfl,q,rfl⟩;have G6:=zH (gbDN G5.out q)
  cases hxy:(xs == ys)
  ·have HO:Hid (outN k c ins es s a=2):=by unfold Hid outN;rw [HB.out,HXS.out,HYS.out,if_pos rfl,hxy];rfl
   clear hxy;go_wp2_with fail;go_ret;exact ⟨by rw [HO.out];rfl,G6.out⟩
  ·have HO:Hid (outN k c ins es s a=0):=by unfold Hid outN;rw [HB.out,HXS.out,HYS.out,if_pos rfl,hxy];rfl
   clear hxy;go_wp2_with fail;go_ret;exact ⟨by rw [HO.out];rfl,G6.out⟩
theorem AOk.wf9 {m:AM} (h:AOk m):m.wf:=by
 obtain ⟨hp1,hp2⟩:=ZC h.fld;refine ⟨⟨by omega,by omega⟩,fun z hz => ?_,fun z hz => ?_⟩
 ·obtain ⟨j,hj⟩:=List.mem_iff_getElem?.1 hz
  have hlt:=(List.getElem?_eq_some_iff.1 hj).1;have hs:=h.steps j hlt;have he:stAt m j=z:=by unfold stAt;rw [zF,hj];rfl
  rw [he] at hs;have hl:=h.few;obtain ⟨x,y,u⟩:=z;simp only [stepB] at hs;unfold w3 i64w;simp only
  split at hs
  ·simp [inB] at hs;omega
  ·split at hs
   ·have:=ZT (p:=m.p) (a:=y) (by simp at hs;exact hs.1)
    simp at hs;omega
   ·split at hs
    ·simp [inB] at hs;omega
    ·cases hs
 ·have hs:=h.outs z hz
  have hl:=h.few;simp [inB] at hs;unfold i64w;omega
theorem kwf_of {k:KM} (h:keysB k=true):kwf k:=by
 obtain ⟨hf,_,h1,h5⟩:=Yc h;have:=ZC hf;refine ⟨?_,by omega⟩;unfold i64w;omega
end Go.Proofs.YthaadgdeadbhkaaGreat
