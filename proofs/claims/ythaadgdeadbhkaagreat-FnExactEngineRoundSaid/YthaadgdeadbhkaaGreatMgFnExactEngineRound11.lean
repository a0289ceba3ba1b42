/-
  ArithOk: reference and program.
-/
import Derived.Test.YthaadgdeadbhkaaGreatMgFnExactEngineRound10
import Derived.Test.YthaadgdeadbhkaaGreatMgFnExactEngineRound8
open Go.RowKit
set_option linter.unusedVariables false
set_option linter.unusedSimpArgs false
namespace Go.Proofs.YthaadgdeadbhkaaGreat
def inB (x lo hi:Int):Bool:=decide (lo≤x)&&decide (x≤hi)
theorem inB_iff {x lo hi:Int}:inB x lo hi=true ↔ lo≤x∧x≤hi:=by simp [inB]
theorem spec.l01In_q (x lo hi:Int) (w:World) :
    Calls Tryz.prog 94 #[.int .i64 x,.int .i64 lo,.int .i64 hi] w fun e w'=>e=.returned (.bool (inB x lo hi))∧w=w':=by
  by_cases h1:lo≤x
  all_goals by_cases h2:x≤hi
  all_goals
    have H1:=zH h1;have H2:=zH h2
    go_enter Tryz.func94,Tryz.ntmps94
    go_wp2
    go_ret;have h1':=H1.out;have h2':=H2.out;exact ⟨retB (by simp [inB,h1',h2'] <;> omega),rfl⟩
theorem impl.within_q (x lo hi:Int) (w:World) :
    Calls Tryz.prog 111 #[.int .i64 x,.int .i64 lo,.int .i64 hi] w fun e w'=>e=.returned (.bool (inB x lo hi))∧w=w':=by
  by_cases h1:lo≤x
  all_goals by_cases h2:x≤hi
  all_goals
    have H1:=zH h1;have H2:=zH h2
    go_enter Tryz.func111,Tryz.ntmps111
    go_wp2
    go_ret;have h1':=H1.out;have h2':=H2.out;exact ⟨retB (by simp [inB,h1',h2'] <;> omega),rfl⟩
def stepB (p:Int) (k:Int) (s:Stp):Bool :=
  if s.1=1 then inB s.2.1 0 59&&s.2.2 == 0
  else if s.1=2 then elemB p s.2.1&&s.2.2 == 0
  else if s.1=3∨s.1=4 then inB s.2.1 0 (k - 1)&&inB s.2.2 0 (k - 1)
  else false
def stAt (m:AM) (j:Nat):Stp:=m.st.getD j (0,0,0)
structure AOk (m:AM):Prop where
  fld:fieldB m.p=true
  few:m.st.length≤60
  steps:∀j,j<m.st.length→stepB m.p j (stAt m j)=true
  outs:∀z∈m.outs,inB z 0 (m.st.length - 1)=true
open Classical in
noncomputable def arithB (m:AM):Bool:=decide (AOk m)
theorem XP {m:AM} (h:AOk m):arithB m=true:=by simp [arithB,h]
theorem Yj {m:AM} (h:¬AOk m):arithB m=false:=by simp [arithB,h]
theorem arithB_is {m:AM} (h:arithB m=true):AOk m:=by simpa [arithB] using h
set_option maxHeartbeats 1000000 in
theorem specl27Step_c (p:Int) (x y z:Int) (k:Nat) (w:World) (hp:p≤9223372036854775807) (hk:k≤9223372036854775807) :
    Calls Tryz.prog 140 #[.int .i64 p,.agg #[.int .i64 x,.int .i64 y,.int .i64 z],.int .i64 k] w fun e w'=>e=.returned (.bool (stepB p k (x,y,z)))∧w.grownBy w' none:=by
  by_cases h1:x=1
  · subst h1
    have E:Hid (stepB p k (1,y,z)=(inB y 0 59&&z == 0)):=rfl
    cases hin:inB y 0 59 with
    | false =>
      rw [hin] at E;have HI:=zH hin;clear hin
      go_enter Tryz.func140,Tryz.ntmps140
      go_wp2_with fail;refine (spec.l01In_q _ _ _ _).mono ?_;rintro e w1 ⟨rfl,rfl⟩;rw [HI.out];go_wp2_with fail;go_ret;exact ⟨retB E.out.symm,gbA (gbR _ _) _⟩
    | true =>
      rw [hin] at E;have HI:=zH hin;clear hin
      go_enter Tryz.func140,Tryz.ntmps140
      go_wp2_with fail;refine (spec.l01In_q _ _ _ _).mono ?_;rintro e w1 ⟨rfl,rfl⟩;rw [HI.out];go_wp2_with fail;go_ret;exact ⟨retB (by rw [E.out];simp),gbA (gbR _ _) _⟩
  · have d1:(x == 1)=false:=by simpa using h1
    by_cases h2:x=2
    · subst h2
      have E:Hid (stepB p k (2,y,z)=(elemB p y&&z == 0)):=rfl
      cases hin:elemB p y with
      | false =>
        rw [hin] at E;have HI:=zH hin;clear hin
        go_enter Tryz.func140,Tryz.ntmps140
        go_wp2_with fail;refine (ZD p y _ hp).mono ?_;rintro e w1 ⟨rfl,rfl⟩;rw [HI.out];go_wp2_with fail;go_ret;exact ⟨retB E.out.symm,gbA (gbR _ _) _⟩
      | true =>
        rw [hin] at E;have HI:=zH hin;clear hin
        go_enter Tryz.func140,Tryz.ntmps140
        go_wp2_with fail;refine (ZD p y _ hp).mono ?_;rintro e w1 ⟨rfl,rfl⟩;rw [HI.out];go_wp2_with fail;go_ret;exact ⟨retB (by rw [E.out];simp),gbA (gbR _ _) _⟩
    · have d2:(x == 2)=false:=by simpa using h2
      by_cases h3:x=3∨x=4
      · have E:Hid (stepB p k (x,y,z)=(inB y 0 (k - 1)&&inB z 0 (k - 1))):=by simp [Hid,stepB,h1,h2,h3]
        have HR:=zH h3
        have E2:Hid (stepB p k (x,y,z)=(decide (0≤y)&&decide (y<(k:Int))&&decide (0≤z)&&decide (z<(k:Int)))):=by
          unfold Hid;rw [E.out,inB,inB,Bool.eq_iff_iff];simp;omega
        clear E HR h1 h2
        cases a1:decide (0≤y)
        all_goals cases a2:decide (y<(k:Int))
        all_goals cases a3:decide (0≤z)
        all_goals cases a4:decide (z<(k:Int))
        all_goals
          rw [a1,a2,a3,a4] at E2
          rcases h3 with h3 | h3
          all_goals
            subst h3
            go_enter Tryz.func140,Tryz.ntmps140
            go_wp2
            go_ret;exact ⟨retB E2.out.symm,gbA (gbR _ _) _⟩
      · have E:Hid (stepB p k (x,y,z)=false):=by simp [Hid,stepB,h1,h2,h3]
        have d3:(x == 3)=false:=by simp;omega
        have d4:(x == 4)=false:=by simp;omega
        clear h1 h2 h3
        go_enter Tryz.func140,Tryz.ntmps140
        go_wp2_with fail;go_ret;exact ⟨retB E.out.symm,gbA (gbR _ _) _⟩
set_option maxRecDepth 100000 in
set_option maxHeartbeats 2000000 in
theorem We (m:AM) (v:Value) (w:World) (h:AggR w (carith m) v) (wf:m.wf) :
    Calls Tryz.prog 84 #[v] w fun e w'=>e=.returned (.bool (arithB m))∧w.grownBy w' none:=by
  obtain ⟨u1,u2,rfl,h1,h2⟩:=ZA h;obtain ⟨A,c,rfl,hc,hm,hF⟩:=ZX (s:=3) (fun _=>rfl) (by omega) h1;obtain ⟨B,d,rfl,hd,hm',hI⟩:=ZF h2;have hp:=wf.1.2;clear h h1 h2;unfold maxLen at hm hm';obtain ⟨n,hn⟩:∃n,m.st.length=n:=⟨_,rfl⟩;obtain ⟨q,hq⟩:∃q,m.outs.length=q:=⟨_,rfl⟩;rw [hn] at hF hc ⊢;rw [hq] at hI hd ⊢;have HN:=zH hn;have HQ:=zH hq;have HF:=zH hF;have HO:=zH hI;have A1:=zH (Blk.new w 38 #[.int .i64 m.p,.slice A n c,.slice B q d]);have G1:=zH (gbA (gbR w none) (.cells #[.int .i64 m.p,.slice A n c,.slice B q d] 38));clear hF hI wf hn hq
  go_enter Tryz.func84,Tryz.ntmps84
  go_wp2_with fail
  go_loopw [3] (fun i wr=>∃k:Nat,k≤n∧i=.int .i64 k∧Hid (∀j,j<k→stepB m.p j (stAt m j)=true)∧Hid (Blk wr w.heap.size 38 #[.int .i64 m.p,.slice A n c,.slice B q d])∧Hid (w.grownBy wr none)) (fun i _=>n - (intOf i).toNat)
  case atStart=>exact ⟨0,Nat.zero_le _,rfl,fun j hj=>by omega,A1.out,G1.out⟩
  case round =>
    clear A1 G1;obtain ⟨k,hk,rfl,hall,hB,hG⟩:=hrel;have c0:=hB.out.cell 0;have c1:=hB.out.cell 1;have c2:=hB.out.cell 2;simp at c0 c1 c2
    by_cases hlt:k<n
    · obtain ⟨b,o,x,y,z,rfl,hb,hx,q0,q1,q2⟩:=YM (FL.grow HF.out hG.out) hlt
      have i1:(k:Int)<(n:Int):=by omega
      have HX:Hid (stAt m k=(x,y,z)):=by simp [Hid,stAt,zF,hx]
      clear hx;generalize hs:stepB m.p k (x,y,z)=s at *;have HS:=zH hs;clear hs;go_wp2_with fail;refine Zi [isV (.pointer (some ⟨w.heap.size,0,none⟩)),isV (.int .i64 m.p),isV (.pointer (some ⟨w.heap.size,1,none⟩)),isV (.slice (some ⟨b,o,none⟩) n c),isV (.int .i64 k),isV (.pointer (some ⟨b,o+k*3,none⟩)),isV (.agg #[.int .i64 x,.int .i64 y,.int .i64 z]),isV (.int .i64 k),isV (.bool s),isV (.bool (!s))] (by kernel_rfl) (by kernel_rfl) (by kernel_rfl) (by simp [ZB,Zb]) ?_ ?_
      · simp only [hops,and_true]
        refine ⟨?_, ?_, ?_, ?_, ?_, ?_, ?_, ?_, ?_, ?_⟩
        all_goals
          intro f w1 hG hd;have k0:=gbk (gbT (gbD (gbR _ _)) hG) (c0);have k1:=gbk (gbT (gbD (gbR _ _)) hG) (c1);have k2:=gbk (gbT (gbD (gbR _ _)) hG) (q0);have k3:=gbk (gbT (gbD (gbR _ _)) hG) (q1);have k4:=gbk (gbT (gbD (gbR _ _)) hG) (q2);simp [deps,tAt,isV] at hd
          first | simp [puts,dsts,Act.put,hd] | simp [puts,dsts,Act.put]
          clear hd
          go_wp2_with ((go_at_call 140;refine (specl27Step_c m.p x y z k _ hp (by omega)).mono ?_;rintro e w2 ⟨rfl,hw⟩;rw [HS.out]))
        all_goals exact ⟨_,rfl,by first | with_reducible exact gbR _ _ | exact hw,by first | (simp [tAt,isV];done) | (simp [tAt,isV];assumption)⟩
      intro f w5 hG hd;simp [knows,tAt,isV] at hd;simp only [puts,dsts,Act.put,hd,zB,zC,zA,zD,zE];clear hd;have g5:=gbT (gbD (gbR _ none)) hG;clear hG;have B5:=zH (hB.out.grow g5);have G5:=zH (gbT hG.out g5);clear hB hG g5
      cases s with
      | false =>
        go_wp2_with fail;go_ret;exact ⟨retB (Yj fun h=>by have:=h.steps k (by rw [HN.out];exact hlt);rw [HX.out,HS.out] at this;cases this).symm,G5.out⟩
      | true =>
        go_wp2_with fail
        go_roundw
        case rel=>exact ⟨k+1,by omega,by go_num,fun j hj=>by
          by_cases e:j=k
          · subst e;rw [HX.out];exact HS.out
          · exact hall.out j (by omega),B5.out,G5.out⟩
        case measure=>simp [intOf];omega
    · have hkn:k=n:=by omega
      subst hkn;go_wp2_with fail
      go_loopw [4] (fun i wo=>∃j:Nat,j≤q∧i=.int .i64 j∧Hid (∀l,l<j→inB (m.outs.getD l 0) 0 (k - 1)=true)∧Hid (Blk wo w.heap.size 38 #[.int .i64 m.p,.slice A k c,.slice B q d])∧Hid (w.grownBy wo none)) (fun i _=>q - (intOf i).toNat)
      case atStart=>exact ⟨0,Nat.zero_le _,rfl,fun j hj=>by omega,hB.out,hG.out⟩
      case round =>
        clear hB hG c0 c1 c2;obtain ⟨wo,rfl⟩:∃wo:World,wo=wr:=⟨_,rfl⟩;obtain ⟨j,hj,rfl,hal2,hB,hG⟩:=hrel;have c0:=hB.out.cell 0;have c1:=hB.out.cell 1;have c2:=hB.out.cell 2;simp at c0 c1 c2
        by_cases hlt2:j<q
        · obtain ⟨b,o,rfl,hb,q0⟩:=(Ints.grow HO.out hG.out).cell hlt2
          have i2:(j:Int)<(q:Int):=by omega
          generalize hz:m.outs.getD j 0=z at *;have HZ:=zH hz;clear hz;generalize hs:inB z 0 ((k:Int) - 1)=s at *;have HS:=zH hs;clear hs;go_wp2_with fail;refine Zi [isV (.pointer (some ⟨w.heap.size,2,none⟩)),isV (.slice (some ⟨b,o,none⟩) q d),isV (.int .i64 j),isV (.pointer (some ⟨b,o+j,none⟩)),isV (.int .i64 z),isV (.pointer (some ⟨w.heap.size,1,none⟩)),isV (.slice A k c),isV (.int .i64 k),isV (.int .i64 ((k:Int) - 1)),isV (.bool s),isV (.bool (!s))] (by kernel_rfl) (by kernel_rfl) (by kernel_rfl) (by simp [ZB,Zb]) ?_ ?_
          · simp only [hops,and_true]
            refine ⟨?_, ?_, ?_, ?_, ?_, ?_, ?_, ?_, ?_, ?_, ?_⟩
            all_goals
              intro f w1 hG hd;have k0:=gbk (gbT (gbD (gbR _ _)) hG) (c1);have k1:=gbk (gbT (gbD (gbR _ _)) hG) (c2);have k2:=gbk (gbT (gbD (gbR _ _)) hG) (q0);simp [deps,tAt,isV] at hd
              first | simp [puts,dsts,Act.put,hd] | simp [puts,dsts,Act.put]
              clear hd
              go_wp2_with ((go_at_call 94;refine (spec.l01In_q z 0 ((k:Int) - 1) _).mono ?_;rintro e w2 ⟨rfl,rfl⟩;rw [HS.out]))
            all_goals exact ⟨_,rfl,by first | with_reducible exact gbR _ _ | exact hw,by first | (simp [tAt,isV];done) | (simp [tAt,isV];assumption)⟩
          intro f w5 hG hd;simp [knows,tAt,isV] at hd;simp only [puts,dsts,Act.put,hd,zB,zC,zA,zD,zE];clear hd;have g5:=gbT (gbD (gbR _ none)) hG;clear hG;have B5:=zH (hB.out.grow g5);have G5:=zH (gbT hG.out g5);clear hB hG g5
          cases s with
          | false =>
            go_wp2_with fail;go_ret
            exact ⟨retB (Yj fun h=>by
              have h1:=h.outs (m.outs.getD j 0) (by rw [getI _ _ (by rw [HQ.out];exact hlt2)];exact List.getElem_mem _)
              rw [HZ.out,HN.out,HS.out] at h1;cases h1).symm,G5.out⟩
          | true =>
            go_wp2_with fail
            go_roundw
            case rel=>exact ⟨j+1,by omega,by go_num,fun l hl=>by
              by_cases e:l=j
              · subst e;rw [HZ.out];exact HS.out
              · exact hal2.out l (by omega),B5.out,G5.out⟩
            case measure=>simp [intOf];omega
        · have hjq:j=q:=by omega
          subst hjq
          cases hf:fieldB m.p with
          | false =>
            have HFB:=zH hf;clear hf;go_wp2_with fail;refine (YT m.p _ hp).mono ?_;rintro e w1 ⟨rfl,rfl⟩;rw [HFB.out];go_wp2_with fail;go_ret;exact ⟨retB (Yj fun h=>by have:=h.fld;rw [HFB.out] at this;cases this).symm,hG.out⟩
          | true =>
            have HFB:=zH hf;clear hf;go_wp2_with fail;refine (YT m.p _ hp).mono ?_;rintro e w1 ⟨rfl,rfl⟩;rw [HFB.out];go_wp2_with fail;go_ret;refine ⟨retB ?_,hG.out⟩
            by_cases h60:k≤60
            · rw [XP ⟨HFB.out,by rw [HN.out];exact h60,fun j hj=>hall.out j (by rw [← HN.out];exact hj),fun z hz=>by
                obtain ⟨l,hl,rfl⟩:=List.getElem_of_mem hz;have h1:=hal2.out l (by rw [← HQ.out];exact hl);rw [getI _ _ hl] at h1
                rw [HN.out];exact h1⟩]
              simp;omega
            · rw [Yj fun h=>by have:=h.few;rw [HN.out] at this;exact h60 this]
              simp;omega
theorem YV (p a:Int) (w:World) (hp:p≤9223372036854775807) :
    Calls Tryz.prog 134 #[.int .i64 p,.int .i64 a] w fun e w'=>e=.returned (.bool (elemB p a))∧w=w':=by
  have E:Hid (elemB p a=(fieldB p&&inB a 0 (p - 1))):=by simp [Hid,elemB,inB,Bool.and_assoc]
  cases hf:fieldB p with
  | false =>
    rw [hf] at E;have HF:=zH hf;clear hf
    go_enter Tryz.func134,Tryz.ntmps134
    go_wp2_with fail;refine (Ya p _ hp).mono ?_;rintro e w1 ⟨rfl,rfl⟩;rw [HF.out];go_wp2_with fail;go_ret;exact ⟨retB E.out.symm,rfl⟩
  | true =>
    obtain ⟨h2,h3⟩:=ZG hf;rw [hf] at E;have HF:=zH hf;clear hf
    go_enter Tryz.func134,Tryz.ntmps134
    go_wp2_with fail;refine (Ya p _ hp).mono ?_;rintro e w1 ⟨rfl,rfl⟩;rw [HF.out];go_wp2_with fail;refine (impl.within_q _ _ _ _).mono ?_;rintro e w1 ⟨rfl,rfl⟩;go_wp2_with fail;go_ret;exact ⟨retB (by rw [E.out];simp),rfl⟩
set_option maxRecDepth 100000 in
set_option maxHeartbeats 4000000 in
theorem YW (m:AM) (v:Value) (w:World) (h:AggR w (carith m) v) (wf:m.wf) :
    Calls Tryz.prog 85 #[v] w fun e w'=>e=.returned (.bool (arithB m))∧w.grownBy w' none:=by
  obtain ⟨u1,u2,rfl,h1,h2⟩:=ZA h;obtain ⟨A,c,rfl,hc,hm,hF⟩:=ZX (s:=3) (fun _=>rfl) (by omega) h1;obtain ⟨B,d,rfl,hd,hm',hI⟩:=ZF h2;have hp:=wf.1.2;clear h h1 h2;unfold maxLen at hm hm';obtain ⟨n,hn⟩:∃n,m.st.length=n:=⟨_,rfl⟩;obtain ⟨q,hq⟩:∃q,m.outs.length=q:=⟨_,rfl⟩;rw [hn] at hF hc ⊢;rw [hq] at hI hd ⊢;have HN:=zH hn;have HQ:=zH hq;have HF:=zH hF;have HO:=zH hI;have A1:=zH (Blk.new w 38 #[.int .i64 m.p,.slice A n c,.slice B q d]);have G1:=zH (gbA (gbR w none) (.cells #[.int .i64 m.p,.slice A n c,.slice B q d] 38));clear hF hI wf hn hq
  cases hf:fieldB m.p with
  | false =>
    have HFB:=zH hf;clear hf
    go_enter Tryz.func85,Tryz.ntmps85
    go_wp2_with fail;refine (Ya m.p _ hp).mono ?_;rintro e w1 ⟨rfl,rfl⟩;rw [HFB.out];go_wp2_with fail;go_ret;exact ⟨retB (Yj fun h=>by have:=h.fld;rw [HFB.out] at this;cases this).symm,G1.out⟩
  | true =>
    have HFB:=zH hf;obtain ⟨p2,p101⟩:=ZG hf;clear hf
    by_cases h60:60<n
    · have d60:decide (60<n)=true:=by simpa using h60
      have d60':decide ((60:Int)<(n:Int))=true:=by simp;omega
      go_enter Tryz.func85,Tryz.ntmps85
      go_wp2_with fail;refine (Ya m.p _ hp).mono ?_;rintro e w1 ⟨rfl,rfl⟩;rw [HFB.out];go_wp2_with fail;go_ret;exact ⟨retB (Yj fun h=>by have:=h.few;rw [HN.out] at this;omega).symm,G1.out⟩
    · have d60':decide ((60:Int)<(n:Int))=false:=by simp;omega
      go_enter Tryz.func85,Tryz.ntmps85
      go_wp2_with fail;refine (Ya m.p _ hp).mono ?_;rintro e w1 ⟨rfl,rfl⟩;rw [HFB.out];go_wp2_with fail
      go_loopw [21] (fun i wr=>∃k:Nat,k≤n∧i=.int .i64 k∧Hid (∀j,j<k→stepB m.p j (stAt m j)=true)∧Hid (Blk wr w.heap.size 38 #[.int .i64 m.p,.slice A n c,.slice B q d])∧Hid (w.grownBy wr none)) (fun i _=>n - (intOf i).toNat)
      case atStart=>exact ⟨0,Nat.zero_le _,rfl,fun j hj=>by omega,A1.out,G1.out⟩
      case round =>
        clear A1 G1 d60';obtain ⟨k,hk,rfl,hall,hB,hG⟩:=hrel;have c0:=hB.out.cell 0;have c1:=hB.out.cell 1;have c2:=hB.out.cell 2;simp at c0 c1 c2
        by_cases hlt:k<n
        · obtain ⟨b,o,x,y,z,rfl,hb,hx,q0,q1,q2⟩:=YM (FL.grow HF.out hG.out) hlt
          have i1:(k:Int)<(n:Int):=by omega
          have HX:Hid (stAt m k=(x,y,z)):=by simp [Hid,stAt,zF,hx]
          clear hx;have hbw:w.heap.size<wr.heap.size:=hB.out.lt;have kk0:=fun o=>kA c0 o
          by_cases h1:x=1
          · subst h1
            have E:Hid (stepB m.p k (1,y,z)=(inB y 0 59&&z == 0)):=rfl
            cases e1:inB y 0 59
            all_goals cases e2:z == 0
            all_goals
              rw [e1,e2] at E;have E1:=zH e1;have E2:=zH e1;clear e1
              go_wp2_with (first | (go_at_call 111;refine (impl.within_q _ _ _ _).mono ?_;rintro e w1 ⟨rfl,rfl⟩;first | rw [E1.out] | rw [E2.out]) | (go_at_call 134;refine (YV _ _ _ hp).mono ?_;rintro e w1 ⟨rfl,rfl⟩;first | rw [E1.out] | rw [E2.out]))
              first
                | (go_roundw
                   case rel=>exact ⟨k+1,by omega,by go_num,fun j hj=>by
                     by_cases e:j=k
                     · subst e;rw [HX.out];exact E.out
                     · exact hall.out j (by omega),hB.out.grow (gbA (gbR _ _) _),gbA hG.out _⟩
                   case measure=>simp [intOf];omega)
                | (go_ret
                   exact ⟨retB (Yj fun h=>by have:=h.steps k (by rw [HN.out];exact hlt);rw [HX.out,E.out] at this;cases this).symm,gbA hG.out _⟩)
          · have d1:(x == 1)=false:=by simpa using h1
            by_cases h2:x=2
            · subst h2
              have E:Hid (stepB m.p k (2,y,z)=(elemB m.p y&&z == 0)):=rfl
              cases e1:elemB m.p y
              all_goals cases e2:z == 0
              all_goals
                rw [e1,e2] at E;have E1:=zH e1;have E2:=zH e1;clear e1
                go_wp2_with (first | (go_at_call 111;refine (impl.within_q _ _ _ _).mono ?_;rintro e w1 ⟨rfl,rfl⟩;first | rw [E1.out] | rw [E2.out]) | (go_at_call 134;refine (YV _ _ _ hp).mono ?_;rintro e w1 ⟨rfl,rfl⟩;first | rw [E1.out] | rw [E2.out]))
                first
                  | (go_roundw
                     case rel=>exact ⟨k+1,by omega,by go_num,fun j hj=>by
                       by_cases e:j=k
                       · subst e;rw [HX.out];exact E.out
                       · exact hall.out j (by omega),hB.out.grow (gbA (gbR _ _) _),gbA hG.out _⟩
                     case measure=>simp [intOf];omega)
                  | (go_ret
                     exact ⟨retB (Yj fun h=>by have:=h.steps k (by rw [HN.out];exact hlt);rw [HX.out,E.out] at this;cases this).symm,gbA hG.out _⟩)
            · have d2:(x == 2)=false:=by simpa using h2
              by_cases h3:x=3∨x=4
              · have E:Hid (stepB m.p k (x,y,z)=(inB y 0 (k - 1)&&inB z 0 (k - 1))):=by simp [Hid,stepB,h1,h2,h3]
                clear h1 h2
                cases e1:inB y 0 ((k:Int) - 1)
                all_goals cases e2:inB z 0 ((k:Int) - 1)
                all_goals
                  rw [e1,e2] at E;have E1:=zH e1;have E2:=zH e2;clear e1 e2
                  rcases h3 with h3 | h3
                  all_goals
                    subst h3
                    go_wp2_with (first | (go_at_call 111;refine (impl.within_q _ _ _ _).mono ?_;rintro e w1 ⟨rfl,rfl⟩;first | rw [E1.out] | rw [E2.out]) | (go_at_call 134;refine (YV _ _ _ hp).mono ?_;rintro e w1 ⟨rfl,rfl⟩;first | rw [E1.out] | rw [E2.out]))
                    first
                      | (go_roundw
                         case rel=>exact ⟨k+1,by omega,by go_num,fun j hj=>by
                           by_cases e:j=k
                           · subst e;rw [HX.out];exact E.out
                           · exact hall.out j (by omega),hB.out.grow (gbA (gbR _ _) _),gbA hG.out _⟩
                         case measure=>simp [intOf];omega)
                      | (go_ret
                         exact ⟨retB (Yj fun h=>by have:=h.steps k (by rw [HN.out];exact hlt);rw [HX.out,E.out] at this;cases this).symm,gbA hG.out _⟩)
              · have E:Hid (stepB m.p k (x,y,z)=false):=by simp [Hid,stepB,h1,h2,h3]
                have E1:=E;have E2:=E;have d3:(x == 3)=false:=by simp;omega
                have d4:(x == 4)=false:=by simp;omega
                clear h1 h2 h3
                go_wp2_with (first | (go_at_call 111;refine (impl.within_q _ _ _ _).mono ?_;rintro e w1 ⟨rfl,rfl⟩;first | rw [E1.out] | rw [E2.out]) | (go_at_call 134;refine (YV _ _ _ hp).mono ?_;rintro e w1 ⟨rfl,rfl⟩;first | rw [E1.out] | rw [E2.out]))
                first
                  | (go_roundw
                     case rel=>exact ⟨k+1,by omega,by go_num,fun j hj=>by
                       by_cases e:j=k
                       · subst e;rw [HX.out];exact E.out
                       · exact hall.out j (by omega),hB.out.grow (gbA (gbR _ _) _),gbA hG.out _⟩
                     case measure=>simp [intOf];omega)
                  | (go_ret
                     exact ⟨retB (Yj fun h=>by have:=h.steps k (by rw [HN.out];exact hlt);rw [HX.out,E.out] at this;cases this).symm,gbA hG.out _⟩)
        · have hkn:k=n:=by omega
          subst hkn;go_wp2_with fail
          go_loopw [71] (fun i wo=>∃j:Nat,j≤q∧i=.int .i64 j∧Hid (∀l,l<j→inB (m.outs.getD l 0) 0 (k - 1)=true)∧Hid (Blk wo w.heap.size 38 #[.int .i64 m.p,.slice A k c,.slice B q d])∧Hid (w.grownBy wo none)) (fun i _=>q - (intOf i).toNat)
          case atStart=>exact ⟨0,Nat.zero_le _,rfl,fun j hj=>by omega,hB.out,hG.out⟩
          case round =>
            clear hB hG c0 c1 c2;obtain ⟨wo,rfl⟩:∃wo:World,wo=wr:=⟨_,rfl⟩;obtain ⟨j,hj,rfl,hal2,hB,hG⟩:=hrel;have c1:=hB.out.cell 1;simp at c1
            by_cases hlt2:j<q
            · obtain ⟨b,o,rfl,hb,q0⟩:=(Ints.grow HO.out hG.out).cell hlt2
              have i2:(j:Int)<(q:Int):=by omega
              generalize hz:m.outs.getD j 0=z at *;have HZ:=zH hz;clear hz
              cases hs:inB z 0 ((k:Int) - 1)
              all_goals
                have HS:=zH hs;clear hs
                go_wp2_with (go_at_call 111;refine (impl.within_q _ _ _ _).mono ?_;rintro e w1 ⟨rfl,rfl⟩;rw [HS.out])
                first
                  | (go_roundw
                     case rel=>exact ⟨j+1,by omega,by go_num,fun l hl=>by
                       by_cases e:l=j
                       · subst e;rw [HZ.out];exact HS.out
                       · exact hal2.out l (by omega),hB.out,hG.out⟩
                     case measure=>simp [intOf];omega)
                  | (go_ret
                     exact ⟨retB (Yj fun h=>by
                       have h1:=h.outs (m.outs.getD j 0) (by rw [getI _ _ (by rw [HQ.out];exact hlt2)];exact List.getElem_mem _)
                       rw [HZ.out,HN.out,HS.out] at h1;cases h1).symm,hG.out⟩)
            · have hjq:j=q:=by omega
              subst hjq;go_wp2_with fail;go_ret;refine ⟨retB ?_,hG.out⟩
              rw [XP ⟨HFB.out,by rw [HN.out];omega,fun j hj=>hall.out j (by rw [← HN.out];exact hj),fun z hz=>by
                obtain ⟨l,hl,rfl⟩:=List.getElem_of_mem hz;have h1:=hal2.out l (by rw [← HQ.out];exact hl);rw [getI _ _ hl] at h1
                rw [HN.out];exact h1⟩]
end Go.Proofs.YthaadgdeadbhkaaGreat
