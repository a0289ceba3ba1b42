/-
  FnOtherTapes: the walk.
-/
import Derived.Test.YtapljpcpmdlppaaMgFnOtherTapes44
namespace Go.Proofs.Ytapljpcpmdlppaa
open Go.RowKit
set_option linter.unusedVariables false
set_option linter.unusedSimpArgs false
def T5 (lo g4 b o d : Nat) (p q0 q1 : Int) : List Fact :=
  [onT 27 (isV (.pointer (some ⟨g4,0,none⟩))),onT 28 (isV (.int .i64 p)),onT 29 (isV (.slice (some ⟨b,o,none⟩) 12 d)),onT 30 (isV (.pointer (some ⟨b,o,none⟩))),onT 31 (isV (.int .i64 q0)),onT 32 (isV (.int .i64 (q0 % 5))),onT 33 (isV (.int .i64 (1 + q0 % 5))),
   onT 34 (isV (.slice (some ⟨b,o,none⟩) 12 d)),onT 35 (isV (.pointer (some ⟨b,o + 1,none⟩))),onT 36 (isV (.int .i64 q1)),onT 37 (isV (.agg #[.int .i64 q1,.int .i64 0])),
   onT 38 (keyT p),onT 26 (keyT p),onT 39 (keyW p),onT 40 (fun v _ => isT2 v),onT 41 (isV (.bool true)),onT 8 (boxA lo 65),onT 9 (boxA lo 75),
   ⟨[8],fun l w => boxKK p lo (l.getD 0 undef) w⟩,noF,onT 10 (isV (.bool true))]
theorem T5_st {lo g4 b o d : Nat} {p q0 q1 : Int} : stablesF (T5 lo g4 b o d p q0 q1):=by
  unfold T5
  refine stF_cons (stableF_on (isV_st _)) (stF_cons (stableF_on (isV_st _)) (stF_cons (stableF_on (isV_st _)) (stF_cons (stableF_on (isV_st _)) (stF_cons (stableF_on (isV_st _)) (stF_cons (stableF_on (isV_st _)) (stF_cons (stableF_on (isV_st _)) (stF_cons (stableF_on (isV_st _)) (stF_cons (stableF_on (isV_st _)) (stF_cons (stableF_on (isV_st _)) (stF_cons (stableF_on (isV_st _)) (stF_cons (stableF_on keyT_st) (stF_cons (stableF_on keyT_st) (stF_cons (stableF_on keyW_st) (stF_cons (stableF_on (fun _ _ _ h _ => h)) (stF_cons (stableF_on (isV_st _)) (stF_cons (stableF_on boxA_st) (stF_cons (stableF_on boxA_st) (stF_cons ?_ (stF_cons stableF_no (stF_cons (stableF_on (isV_st _)) stF_nil))))))))))))))))))))
  exact fun l w w' h hg => boxKK_st _ _ _ h hg
theorem T5_keep {lo g4 b o d : Nat} {p q0 q1 : Int} {f : Tmp → Value} {w w' : World} {j : Nat} {S : Nat → Prop} (k : Chg S w w') (hS : ∀ g,S g → g < w.heap.size → ∃ T us,Blk w g T us ∧ T ≠ 3)
    (hK : ∀ v,boxA lo 65 v w → boxA lo 65 v w') (hT : ∀ v,boxA lo 75 v w → boxA lo 75 v w') (hKK : j ≠ 18 → ∀ v,boxKK p lo v w → boxKK p lo v w') : keeps f w w' j (T5 lo g4 b o d p q0 q1) 0:=by
  have kt : ∀ v,keyT p v w → keyT p v w':=fun v ⟨A,c,al,s,t,h1,h2⟩ => ⟨A,c,al,s,t,h1,h2.typ k hS⟩
  simp only [T5,keeps,and_true]
  refine ⟨fun _ h => h,fun _ h => h,fun _ h => h,fun _ h => h,fun _ h => h,fun _ h => h,fun _ h => h,fun _ h => h,fun _ h => h,fun _ h => h,fun _ h => h,fun _ h => kt _ h,fun _ h => kt _ h,fun _ h => ?_,fun _ h => h,fun _ h => h,fun _ h => hK _ h,fun _ h => hT _ h,fun e h => hKK (fun e' => e (by omega)) _ h,fun _ h => h,fun _ h => h⟩
  obtain ⟨A,c,al,h1,h2⟩:=h
  exact ⟨A,c,al,h1,h2.typ k hS⟩
def runT (n : Nat) (xs : List Int) (v : Value) (w : World) : Prop:=∃ V c,v = .tuple #[.slice V n c,.bool true] ∧ Ints w V n xs
def emS (v : Value) (w : World) : Prop:=∃ A c,v = .slice A 0 c
theorem emS_st : stable emS:=fun _ _ _ h _ => h
def rowR (n : Nat) (xs : List Int) (v : Value) (w : World) : Prop:=∃ V c,v = .slice V n c ∧ Ints w V n xs
theorem rowR_st {n : Nat} {xs : List Int} : stable (rowR n xs):=fun v w w' ⟨V,c,h1,h2⟩ hg => ⟨V,c,h1,h2.grow hg⟩
theorem runT_st {n : Nat} {xs : List Int} : stable (runT n xs):=fun v w w' ⟨V,c,h1,h2⟩ hg => ⟨V,c,h1,h2.grow hg⟩
set_option maxHeartbeats 4000000 in
set_option maxRecDepth 100000 in
theorem FnOtherTapes.walk (w : World) (A : Option Addr) (n c : Nat) (zs : List Int) (hz : IntsK .u8 w A n zs) (hm : n ≤ maxLen) :
    Calls Try.prog 16 #[.slice A n c] w fun e w' => e = .returned (.bool true) ∧ w.grownBy w' none:=by
  unfold maxLen at hm
  by_cases hbig : 1048576 < n
  · have hd : decide (1048576 < n) = true:=by simp; omega
    go_enter Try.func16,Try.ntmps16
    go_wp2_with fail
    refine (big_c _ A n c (by omega)).mono ?_
    rintro e w1 ⟨rfl,rfl⟩
    go_wp2_with fail
    go_ret
    exact ⟨rfl,gbR _ _⟩
  · have hd : decide (1048576 < n) = false:=by simp; omega
    have H:=Lib.hid (bytesIn hz (by omega))
    clear hz
    go_enter Try.func16,Try.ntmps16
    go_wp2_with fail
    refine (big_c _ A n c (by omega)).mono ?_
    rintro e w1 ⟨rfl,rfl⟩
    rw [hd]
    clear hd hbig hm
    go_wp2_with fail
    refine (DrawComputation_c _ A n c zs H.out).mono ?_
    rintro e w1 ⟨KA,A1,A2,I,kc,n1,s1,n2,s2,ci,k,m,ins,P,s,a,rfl,hf,hp,hst,hou,hs,ha,hk,hc,hi,hci,hg⟩
    obtain ⟨mp,mst,mou⟩:=m
    have hmp : mp = (P : Int):=hf.pp.symm.trans hf.pn
    subst hmp
    have hou : mou.length ≤ 3:=hou
    have HF:=Lib.hid hf
    have HK:=Lib.hid hk
    have HC:=Lib.hid hc
    have HI:=Lib.hid hi
    have G1:=Lib.hid hg
    have WF:=Lib.hid (AOk.wf9 hf.ok)
    clear hf hp hst hk hc hi hg
    obtain ⟨wu,hwu⟩ : ∃ x : World,((w1.alloc (.cells #[.int .i64 k.p,.slice KA k.al.length kc] 65)).alloc (.cells #[.int .i64 P,.slice A1 n1 s1,.slice A2 n2 s2] 30)).alloc (.cells #[.int .i64 s,.int .i64 a] 75) = x:=⟨_,rfl⟩
    have GU : Hid (w1.grownBy wu none):=by rw [← hwu]; exact Lib.hid (gbA (gbA (gbA (gbR _ _) _) _) _)
    have B3 : Hid (Blk wu w1.heap.size 65 #[.int .i64 k.p,.slice KA k.al.length kc]):=by rw [← hwu]; exact Lib.hid (((Blk.new w1 _ _).grow (gbA (gbR _ _) _)).grow (gbA (gbR _ _) _))
    have B4 : Hid (Blk wu (w1.heap.size + 1) 30 #[.int .i64 P,.slice A1 n1 s1,.slice A2 n2 s2]):=by rw [← hwu]; exact Lib.hid ((Blk.new' _ _ _ _ (by simp)).grow (gbA (gbR _ _) _))
    have B6 : Hid (Blk wu (w1.heap.size + 1 + 1) 75 #[.int .i64 s,.int .i64 a]):=by rw [← hwu]; exact Lib.hid (Blk.new' _ _ _ _ (by simp))
    go_wp2_with fail
    clear hwu
    refine (DrawPlaces_c _ A n c zs (H.out.grow (gbT G1.out GU.out))).mono ?_
    rintro e w4 ⟨v,qs,rfl,hown,hq,hgq⟩
    obtain ⟨B,d,rfl,_,_⟩:=own_form hown
    obtain ⟨b,o,rfl,hb,hcq⟩:=(show Ints w4 B 12 qs from Rd.ofOwn hown).at_ (by omega)
    have q0r:=hq.at_ 0 (by omega)
    have q1r:=hq.at_ 1 (by omega)
    have q2r:=hq.at_ 2 (by omega)
    have c0:=hcq 0 (by omega)
    have c1:=hcq 1 (by omega)
    have c2:=hcq 2 (by omega)
    rw [Nat.add_zero] at c0
    obtain ⟨q0,hq0⟩:=Int.eq_ofNat_of_zero_le q0r.1
    obtain ⟨q1,hq1⟩:=Int.eq_ofNat_of_zero_le q1r.1
    obtain ⟨q2,hq2⟩:=Int.eq_ofNat_of_zero_le q2r.1
    rw [hq0] at c0 q0r
    rw [hq1] at c1 q1r
    rw [hq2] at c2 q2r
    have C0:=Lib.hid c0
    have C1:=Lib.hid c1
    have C2:=Lib.hid c2
    have E3:=Lib.hid (B3.out.grow hgq)
    have E4:=Lib.hid (B4.out.grow hgq)
    have E6:=Lib.hid (B6.out.grow hgq)
    have G4:=Lib.hid (gbT GU.out hgq)
    have x0:=E4.out.cell 0
    simp only [List.getElem?_toArray,List.getElem?_cons_succ,List.getElem?_cons_zero] at x0
    have X0:=Lib.hid x0
    clear hown hq hcq hgq hq0 hq1 hq2 c0 c1 c2 B3 B4 B6 x0
    go_wp2_with fail
    refine region_reg6 (T5 w4.heap.size (w1.heap.size + 1) b o d P q0 q1) [] (by kernel_rfl) (by kernel_rfl) (by kernel_rfl) T5_st ?_ ?_
    · simp only [hops6,and_true]
      refine ⟨?_, ?_, ?_, ?_, ?_, ?_, ?_, ?_, ?_, ?_, ?_, ?_, ?_, ?_, ?_, ?_, ?_, ?_, ?_, ?_, ?_⟩
      rotate_left 11
      · intro f w9 hG pre old hd
        have hg4 : w4.grownBy w9 none:=gbChg (gbD (gbR w4 none)) hG (fun y hy => by obtain ⟨s,hs⟩:=hy; simp at hs)
        simp [depsF,bindE,List.filter_cons,bd_data,bd_chain,bd_guard,bd_phase,bd_text,bd_gc,T5,fAt,onT_at,isV] at hd
        obtain ⟨e28,e33,e37⟩:=hd
        have hq5 : (1 + (q0 : Int) % 5) = ((1 + q0 % 5 : Nat) : Int):=by omega
        rw [hq5] at e33
        simp [puts,dsts,Act.put,e28,e33,e37]
        have HFL:=Lib.hid (show fieldB (P : Int) = true from HF.out.ok.fld)
        clear hq5
        go_wp2_with fail
        refine (specKeysNew_yes P q1 0 (1 + q0 % 5) w9 HFL.out (by omega) (by omega) (by omega) (by omega)).mono ?_
        rintro e wz ⟨A9,c9,t9,rfl,o9,g9⟩
        have hKR : keyR P (tapeL q1 0 P (1 + q0 % 5)) A9 c9 wz:=⟨keys_tape HFL.out (by omega) (by omega),by rw [tapeL_len]; exact own_base o9 (Nat.zero_le _)⟩
        have HKR:=Lib.hid hKR
        have G9:=Lib.hid g9
        clear o9 g9 hKR
        go_wp2_with fail
        exact ⟨_,rfl,⟨A9,c9,_,_,_,by rw [tapeL_len]; rfl,HKR.out⟩,Or.inl G9.out⟩
      · intro f w9 hG pre old hd
        simp [depsF,bindE,List.filter_cons,bd_data,bd_chain,bd_guard,bd_phase,bd_text,bd_gc,T5,fAt,onT_at,isV] at hd
        obtain ⟨A9,c9,al,s9,t9,e20,h20⟩:=hd
        have h20:=Lib.hid h20
        simp [puts,dsts,Act.put,e20]
        go_wp2_with fail
        exact ⟨_,rfl,⟨A9,c9,al,s9,t9,rfl,h20.out⟩,Or.inl (gbR _ _)⟩
      · intro f w9 hG pre old hd
        simp [depsF,bindE,List.filter_cons,bd_data,bd_chain,bd_guard,bd_phase,bd_text,bd_gc,T5,fAt,onT_at,isV] at hd
        obtain ⟨A9,c9,al,s9,t9,e12,h20⟩:=hd
        have h20:=Lib.hid h20
        simp [puts,dsts,Act.put,e12]
        go_wp2_with fail
        exact ⟨_,rfl,⟨A9,c9,al,rfl,h20.out⟩,Or.inl (gbR _ _)⟩
      · intro f w9 hG pre old hd
        simp [depsF,bindE,List.filter_cons,bd_data,bd_chain,bd_guard,bd_phase,bd_text,bd_gc,T5,fAt,onT_at,isV] at hd
        obtain ⟨A9,c9,al,s9,t9,e12,h20⟩:=hd
        clear h20
        simp [puts,dsts,Act.put,e12]
        go_wp2_with fail
        exact ⟨_,rfl,⟨s9,t9,rfl⟩,Or.inl (gbR _ _)⟩
      · intro f w9 hG pre old hd
        simp [depsF,bindE,List.filter_cons,bd_data,bd_chain,bd_guard,bd_phase,bd_text,bd_gc,T5,fAt,onT_at,isV] at hd
        obtain ⟨A9,c9,al,s9,t9,e12,h20⟩:=hd
        clear h20
        simp [puts,dsts,Act.put,e12]
        go_wp2_with fail
        exact ⟨_,rfl,by simp [T5,fAt,onT_at,upd_some,isV],Or.inl (gbR _ _)⟩
      · intro f w9 hG pre old hd
        have hz4:=hG.size
        simp at hz4
        clear hd
        simp [puts,dsts,Act.put]
        go_wp2_with fail
        exact ⟨_,rfl,⟨_,_,_,rfl,hz4,Blk.new _ _ _⟩,Or.inl (gbA (gbR _ _) _)⟩
      · intro f w9 hG pre old hd
        have hz4:=hG.size
        simp at hz4
        clear hd
        simp [puts,dsts,Act.put]
        go_wp2_with fail
        exact ⟨_,rfl,⟨_,_,_,rfl,hz4,Blk.new _ _ _⟩,Or.inl (gbA (gbR _ _) _)⟩
      · intro f w9 hG pre old hd
        simp [depsF,bindE,List.filter_cons,bd_data,bd_chain,bd_guard,bd_phase,bd_text,bd_gc,T5,fAt,onT_at,isV] at hd
        obtain ⟨⟨g9,u0,u1,e7,hg9,R4⟩,⟨A9,c9,al,e21,hkr⟩,-⟩:=hd
        have f0:=R4.frozen 0
        have f1:=R4.frozen 1
        have b0:=R4.cell 0
        have b1:=R4.cell 1
        simp at b0 b1
        have CH:=chg_setCells g9 [.int .i64 P,.slice A9 al.length c9] 0 w9
        have RS:=blk_setCells R4 [.int .i64 P,.slice A9 al.length c9] rfl
        have hkr':=hkr.typ CH (fun y hy _ => by subst hy; exact ⟨_,_,R4,by decide⟩)
        have hK:=T5_keep (lo:=w4.heap.size) (g4:=w1.heap.size + 1) (b:=b) (o:=o) (d:=d) (p:=P) (q0:=q0) (q1:=q1) (f:=f) (j:=18) CH (fun y hy _ => by subst hy; exact ⟨_,_,R4,by decide⟩) (fun v h => boxA_set h R4 RS CH) (fun v h => boxA_set h R4 RS CH) (fun e => absurd rfl e)
        have KK : boxKK P w4.heap.size (.pointer (some ⟨g9,0,none⟩)) (setCells w9 g9 0 [.int .i64 P,.slice A9 al.length c9]):=⟨g9,A9,c9,al,rfl,hg9,RS,hkr'⟩
        have CM:=CH.mono (T:=fun b => w4.heap.size ≤ b) (fun y hy => by rw [hy]; exact hg9)
        simp only [setCells,Nat.zero_add,Nat.reduceAdd] at hK KK CM
        have HKP:=Lib.hid hK
        have HKK:=Lib.hid KK
        have HCM:=Lib.hid CM
        clear CH RS hkr' hK KK CM hkr R4
        simp [puts,dsts,Act.put,e7,e21]
        go_wp2_with fail
        exact ⟨rfl,⟨.bool false,by show boxKK P _ (f 8) _; rw [e7]; exact HKK.out⟩,Or.inr ⟨by simpa using HCM.out,HKP.out⟩⟩
      · intro f w9 hG pre old hd
        simp [depsF,bindE,List.filter_cons,bd_data,bd_chain,bd_guard,bd_phase,bd_text,bd_gc,T5,fAt,onT_at,isV] at hd
        obtain ⟨⟨g9,u0,u1,e8,hg9,R4⟩,⟨s9,t9,e22⟩,-⟩:=hd
        have f0:=R4.frozen 0
        have f1:=R4.frozen 1
        have b0:=R4.cell 0
        have b1:=R4.cell 1
        simp at b0 b1
        have CH:=chg_setCells g9 [.int .i64 s9,.int .i64 t9] 0 w9
        have RS:=blk_setCells R4 [.int .i64 s9,.int .i64 t9] rfl
        have hK:=T5_keep (lo:=w4.heap.size) (g4:=w1.heap.size + 1) (b:=b) (o:=o) (d:=d) (p:=P) (q0:=q0) (q1:=q1) (f:=f) (j:=19) CH (fun y hy _ => by subst hy; exact ⟨_,_,R4,by decide⟩) (fun v h => boxA_set h R4 RS CH) (fun v h => boxA_set h R4 RS CH) (fun _ v ⟨g',A',c',al,q1,q2,q3,q4⟩ => ⟨g',A',c',al,q1,q2,q3.chg CH (blk_ne q3 R4 (by decide)),q4.typ CH (fun y hy _ => by subst hy; exact ⟨_,_,R4,by decide⟩)⟩)
        have CM:=CH.mono (T:=fun b => w4.heap.size ≤ b) (fun y hy => by rw [hy]; exact hg9)
        simp only [setCells,Nat.zero_add,Nat.reduceAdd] at hK CM
        have HKP:=Lib.hid hK
        have HCM:=Lib.hid CM
        clear CH RS hK CM R4
        simp [puts,dsts,Act.put,e8,e22]
        go_wp2_with fail
        exact ⟨rfl,⟨.bool false,trivial⟩,Or.inr ⟨by simpa using HCM.out,HKP.out⟩⟩
      · intro f w9 hG pre old hd
        simp [depsF,bindE,List.filter_cons,bd_data,bd_chain,bd_guard,bd_phase,bd_text,bd_gc,T5,fAt,onT_at,isV] at hd
        obtain ⟨e23,-⟩:=hd
        simp [puts,dsts,Act.put,e23]
        go_wp2_with fail
        exact ⟨_,rfl,by simp [T5,fAt,onT_at,upd_some,isV],Or.inl (gbR _ _)⟩
      all_goals
        intro f w9 hG pre old hd
        have hg4 : w4.grownBy w9 none:=gbChg (gbD (gbR w4 none)) hG (fun y hy => by obtain ⟨s,hs⟩:=hy; simp at hs)
        have k0:=gbk hg4 X0.out
        have k1:=gbk hg4 C0.out
        have k2:=gbk hg4 C1.out
        clear hg4
        (try simp [depsF,bindE,List.filter_cons,bd_data,bd_chain,bd_guard,bd_phase,bd_text,bd_gc,T5,fAt,onT_at,isV] at hd)
        first | simp [puts,dsts,Act.put,hd] | simp [puts,dsts,Act.put]
        clear hd
        go_wp2_with fail
        exact ⟨_,rfl,by simp [T5,fAt,onT_at,upd_some,isV],Or.inl (gbR _ _)⟩
    · intro f w5 hG hd
      have hg5 : w4.grownBy w5 none:=gbChg (gbD (gbR w4 none)) hG (fun y hy => by obtain ⟨s,hs⟩:=hy; simp at hs)
      simp [knowsF,T5,onT_at,isV,noF_at] at hd
      obtain ⟨z0,z1,z2,z3,z4,z5,z6,z7,z8,z9,z10,z11,z12,z13,z14,z15,z16,z17,hKK,e10⟩:=hd
      have hKK : boxKK P w4.heap.size (f 8) w5:=hKK
      obtain ⟨g8,A9,c9,al,e8,hg8,B8,hKR⟩:=hKK
      simp only [puts,dsts,Act.put,e8,e10,List.filterMap_cons,List.filterMap_nil,List.setIfInBounds_toArray,List.set_cons_zero,List.set_cons_succ]
      have HB8:=Lib.hid B8
      have KR:=Lib.hid hKR
      have F3:=Lib.hid (E3.out.grow hg5)
      have F4:=Lib.hid (E4.out.grow hg5)
      have F6:=Lib.hid (E6.out.grow hg5)
      have Q2:=Lib.hid (gbk hg5 C2.out)
      have G5:=Lib.hid (gbT G4.out hg5)
      clear z0 z1 z2 z3 z4 z5 z6 z7 z8 z9 z10 z11 z12 z13 z14 z15 z16 z17 B8 hKR e8 e10 hg5 hG E3 E4 E6 C0 C1 C2 X0 G4
      have k0:=F3.out.cell 0
      have k1:=F3.out.cell 1
      have x0:=F4.out.cell 0
      have x1:=F4.out.cell 1
      have x2:=F4.out.cell 2
      have y0:=F6.out.cell 0
      have y1:=F6.out.cell 1
      simp only [List.getElem?_toArray,List.getElem?_cons_succ,List.getElem?_cons_zero] at k0 k1 x0 x1 x2 y0 y1
      go_wp2_with fail
      clear k0 k1 x0 x1 x2 y0 y1
      have hev : EvOk ⟨(P : Int),mst,mou⟩ ins:=⟨HF.out.ok,HF.out.len,HF.out.el⟩
      obtain ⟨xs,hxs⟩ : ∃ l,evR ⟨(P : Int),mst,mou⟩ ins = l:=⟨_,rfl⟩
      have hxl : xs.length ≤ 3:=by rw [← hxs]; have:=evR_len ⟨(P : Int),mst,mou⟩ ins; exact Nat.le_trans this hou
      have HXS:=Lib.hid hxs
      have hel:=elems_nil (HF.out.fld)
      obtain ⟨hr1,hr2⟩:=run_right (s:=s) HF.out hel (fun i _ => by simp [errAt])
      have HR1:=Lib.hid hr1
      have HR2:=Lib.hid hr2
      have hgl : w5.grownBy (w5.alloc (.cells #[] 3)) none:=gbA (gbR _ _) _
      obtain ⟨w6,hw6⟩ : ∃ x : World,w5.alloc (.cells #[] 3) = x:=⟨_,rfl⟩
      rw [hw6] at hgl
      rw [hw6]
      have G6:=Lib.hid (gbT G5.out hgl)
      have F4':=Lib.hid (F4.out.grow hgl)
      have B8':=Lib.hid (HB8.out.grow hgl)
      have KR':=Lib.hid (KR.out.grow hgl)
      have Q2':=Lib.hid (gbk hgl Q2.out)
      clear hr1 hr2 hxs hev hw6 hgl F3 F4 F6 HB8 KR Q2 G5
      refine (implEngineRun_yes k ⟨(P : Int),mst,mou⟩ P s a I (some ⟨w5.heap.size,0,none⟩) ci 0 0 ins [] _ _ w6 (HK.out.grow G6.out) (HC.out.grow G6.out) (HI.out.grow G6.out) Ints.none' (kwf_of HF.out.kb) (amwf_of HF.out.ok hou) HF.out hel hs (by omega) (by omega) (by omega)).mono ?_
      rintro e w7 ⟨V5,rfl,o5,g5⟩
      rw [HR1.out]
      rw [HR2.out,HXS.out] at o5
      obtain ⟨V',cV',rfl,_,_⟩:=own_form o5
      have I5:=Lib.hid (show Ints w7 V' xs.length xs from Rd.ofOwn o5)
      have G7:=Lib.hid (gbT G6.out g5)
      have X4:=Lib.hid (F4'.out.grow g5)
      have X8:=Lib.hid (B8'.out.grow g5)
      have KX:=Lib.hid (KR'.out.grow g5)
      have Q7:=Lib.hid (gbk g5 Q2'.out)
      clear o5 g5 F4' B8' KR' Q2' hel
      go_wp2_with fail
      have m0:=X4.out.cell 0
      have m1:=X4.out.cell 1
      have m2:=X4.out.cell 2
      have m3:=X8.out.cell 0
      have m4:=X8.out.cell 1
      simp only [List.getElem?_toArray,List.getElem?_cons_succ,List.getElem?_cons_zero] at m0 m1 m2 m3 m4
      have M0:=Lib.hid m0
      have M1:=Lib.hid m1
      have M2:=Lib.hid m2
      have M3:=Lib.hid m3
      have M4:=Lib.hid m4
      clear m0 m1 m2 m3 m4
      have FT2:=Lib.hid (show Fit ⟨(P : Int),al⟩ ⟨(P : Int),mst,mou⟩ P ins from ⟨KX.out.1,HF.out.ok,rfl,rfl,HF.out.len,HF.out.el⟩)
      have hel2:=elems_nil (FT2.out.fld)
      obtain ⟨hr1,hr2⟩:=run_right (s:=q2) FT2.out hel2 (fun i _ => by simp [errAt])
      have HS1:=Lib.hid hr1
      have HS2:=Lib.hid hr2
      have HEL:=Lib.hid hel2
      have hq2l : q2 < 4294967296:=by omega
      clear hr1 hr2 hel2
      refine region_chain [.rd (.agg #[.int .i64 P,.slice A9 al.length c9]),.rd (.agg #[.int .i64 P,.slice A1 n1 s1,.slice A2 n2 s2]),.rd (.slice I 60 ci),.rd (.slice (some ⟨b,o,none⟩) 12 d),.rd (.pointer (some ⟨b,o + 2,none⟩)),.rd (.int .i64 q2),.rd (.agg #[.int .i64 q2,.int .i64 0]),.fl (emS),.fl (runT xs.length xs),.fl (runT xs.length xs),.fl (rowR xs.length xs),.rd (.bool true),.ch,.ch] (fun _ => False)
        [⟨[],fun _ w' => w7.drew.grownBy w' none⟩,
         ⟨[13],fun l w' => rowR xs.length xs (l.getD 0 undef) w' ∧ w7.grownBy w' none⟩,
         ⟨[13,14],fun l w' => (rowR xs.length xs (l.getD 0 undef) w' ∧ l.getD 1 undef = .bool true) ∧ w7.grownBy w' none⟩]
        (by kernel_rfl) (by kernel_rfl) (by kernel_rfl) 2 (by kernel_rfl) ?_ (gbR _ _) rfl ?_ ?_
      · have hst : stablesF [⟨[],fun _ w' => w7.drew.grownBy w' none⟩,⟨[13],fun l w' => rowR xs.length xs (l.getD 0 undef) w' ∧ w7.grownBy w' none⟩,⟨[13,14],fun l w' => (rowR xs.length xs (l.getD 0 undef) w' ∧ l.getD 1 undef = .bool true) ∧ w7.grownBy w' none⟩]:=by
          refine stF_cons (fun l w1 w2 h hg => gbT h hg) ?_
          refine stF_cons (chain_st fun l w1 w2 ⟨h1,h2⟩ hg => ⟨rowR_st _ _ _ h1 hg,gbT h2 hg⟩) ?_
          exact stF_cons (chain_st fun l w1 w2 ⟨⟨h1,h1'⟩,h2⟩ hg => ⟨⟨rowR_st _ _ _ h1 hg,h1'⟩,gbT h2 hg⟩) stF_nil
        simp only [flOk,true_and,and_true]
        exact ⟨⟨emS_st,hst⟩,⟨runT_st,hst⟩,⟨runT_st,hst⟩,⟨rowR_st,hst⟩⟩
      · simp only [hopsK,hopK,Kd.next,and_true]
        refine ⟨?_, ?_, ?_, ?_, ?_, ?_, ?_, ?_, ?_, ?_, ?_, ?_, ?_, ?_⟩
        · intro f w4 hG hd
          have hg4:=gbT (gbD (gbR w7 none)) (chgF hG)
          have k3:=gbk hg4 (M3.out)
          have k4:=gbk hg4 (M4.out)
          (try simp [depsC,dstAt,kAt,bindE,List.filter_cons,bd_data,bd_chain,bd_guard,bd_phase,bd_text,bd_gc] at hd)
          (first | simp [puts,dsts,Act.put,hd] | simp [puts,dsts,Act.put])
          clear hd
          go_wp2_with fail
          exact ⟨rfl,rfl⟩
        · intro f w4 hG hd
          have hg4:=gbT (gbD (gbR w7 none)) (chgF hG)
          have k0:=gbk hg4 (M0.out)
          have k1:=gbk hg4 (M1.out)
          have k2:=gbk hg4 (M2.out)
          (try simp [depsC,dstAt,kAt,bindE,List.filter_cons,bd_data,bd_chain,bd_guard,bd_phase,bd_text,bd_gc] at hd)
          (first | simp [puts,dsts,Act.put,hd] | simp [puts,dsts,Act.put])
          clear hd
          go_wp2_with fail
          exact ⟨rfl,rfl⟩
        · intro f w4 hG hd
          have hg4:=gbT (gbD (gbR w7 none)) (chgF hG)
          (try simp [depsC,dstAt,kAt,bindE,List.filter_cons,bd_data,bd_chain,bd_guard,bd_phase,bd_text,bd_gc] at hd)
          (first | simp [puts,dsts,Act.put,hd] | simp [puts,dsts,Act.put])
          clear hd
          go_wp2_with fail
          exact ⟨rfl,rfl⟩
        · intro f w4 hG hd
          have hg4:=gbT (gbD (gbR w7 none)) (chgF hG)
          (try simp [depsC,dstAt,kAt,bindE,List.filter_cons,bd_data,bd_chain,bd_guard,bd_phase,bd_text,bd_gc] at hd)
          (first | simp [puts,dsts,Act.put,hd] | simp [puts,dsts,Act.put])
          clear hd
          go_wp2_with fail
          exact ⟨rfl,rfl⟩
        · intro f w4 hG hd
          have hg4:=gbT (gbD (gbR w7 none)) (chgF hG)
          (try simp [depsC,dstAt,kAt,bindE,List.filter_cons,bd_data,bd_chain,bd_guard,bd_phase,bd_text,bd_gc] at hd)
          (first | simp [puts,dsts,Act.put,hd] | simp [puts,dsts,Act.put])
          clear hd
          go_wp2_with fail
          exact ⟨rfl,rfl⟩
        · intro f w4 hG hd
          have hg4:=gbT (gbD (gbR w7 none)) (chgF hG)
          have k5:=gbk hg4 (Q7.out)
          (try simp [depsC,dstAt,kAt,bindE,List.filter_cons,bd_data,bd_chain,bd_guard,bd_phase,bd_text,bd_gc] at hd)
          (first | simp [puts,dsts,Act.put,hd] | simp [puts,dsts,Act.put])
          clear hd
          go_wp2_with fail
          exact ⟨rfl,rfl⟩
        · intro f w4 hG hd
          have hg4:=gbT (gbD (gbR w7 none)) (chgF hG)
          (try simp [depsC,dstAt,kAt,bindE,List.filter_cons,bd_data,bd_chain,bd_guard,bd_phase,bd_text,bd_gc] at hd)
          (first | simp [puts,dsts,Act.put,hd] | simp [puts,dsts,Act.put])
          clear hd
          go_wp2_with fail
          exact ⟨rfl,rfl⟩
        · intro f w4 hG hd
          have hg4:=gbT (gbD (gbR w7 none)) (chgF hG)
          have hz4:=hg4.size
          clear hd
          simp [puts,dsts,Act.put]
          go_wp2_with fail
          exact ⟨_,rfl,⟨_,_,rfl⟩,gbA (gbR _ _) _⟩
        · intro f w4 hG hd
          have hg4:=gbT (gbD (gbR w7 none)) (chgF hG)
          have hz4:=hg4.size
          (try simp [depsC,dstAt,kAt,bindE,List.filter_cons,bd_data,bd_chain,bd_guard,bd_phase,bd_text,bd_gc] at hd)
          obtain ⟨e52,e53,e54,e58,AE,cE,e59⟩:=hd
          simp [puts,dsts,Act.put,e52,e53,e54,e58,e59]
          clear e52 e53 e54 e58 e59
          go_wp2_with fail
          refine (implEngineRun_yes ⟨(P : Int),al⟩ ⟨(P : Int),mst,mou⟩ P q2 0 I AE ci 0 cE ins [] _ _ w4 (ckeys_mk (m:=⟨(P : Int),al⟩) (CS.toRd _ (cints_own (KX.out.grow hg4).2))) (HC.out.grow (gbT G7.out hg4)) (HI.out.grow (gbT G7.out hg4)) Ints.none' (kwf_of FT2.out.kb) (amwf_of FT2.out.ok hou) FT2.out HEL.out hq2l (by omega) (by omega) (by omega)).mono ?_
          rintro e w6 ⟨V6,rfl,o6,g6⟩
          rw [HS1.out]
          rw [HS2.out,HXS.out] at o6
          obtain ⟨V9,cV9,rfl,_,_⟩:=own_form o6
          have I9:=Lib.hid (show Ints w6 V9 xs.length xs from Rd.ofOwn o6)
          have G6':=Lib.hid g6
          clear o6 g6
          go_wp2_with fail
          exact ⟨_,rfl,⟨V9,cV9,rfl,I9.out⟩,G6'.out⟩
        · intro f w4 hG hd
          have hg4:=gbT (gbD (gbR w7 none)) (chgF hG)
          have hz4:=hg4.size
          (try simp [depsC,dstAt,kAt,bindE,List.filter_cons,bd_data,bd_chain,bd_guard,bd_phase,bd_text,bd_gc] at hd)
          obtain ⟨V9,cV9,e60,h60⟩:=hd
          simp [puts,dsts,Act.put,e60]
          go_wp2_with fail
          exact ⟨_,rfl,⟨V9,cV9,rfl,h60⟩,gbR _ _⟩
        · intro f w4 hG hd
          have hg4:=gbT (gbD (gbR w7 none)) (chgF hG)
          have hz4:=hg4.size
          (try simp [depsC,dstAt,kAt,bindE,List.filter_cons,bd_data,bd_chain,bd_guard,bd_phase,bd_text,bd_gc] at hd)
          obtain ⟨V9,cV9,e60,h60⟩:=hd
          simp [puts,dsts,Act.put,e60]
          go_wp2_with fail
          exact ⟨_,rfl,⟨V9,cV9,rfl,h60⟩,gbR _ _⟩
        · intro f w4 hG hd
          have hg4:=gbT (gbD (gbR w7 none)) (chgF hG)
          (try simp [depsC,dstAt,kAt,bindE,List.filter_cons,bd_data,bd_chain,bd_guard,bd_phase,bd_text,bd_gc] at hd)
          obtain ⟨V9,cV9,e60,h60⟩:=hd
          simp [puts,dsts,Act.put,e60]
          go_wp2_with fail
          exact ⟨rfl,rfl⟩
        · intro f w4 hG hI hd
          have hg4:=gbT (gbD (gbR w7 none)) (chgF hG)
          have hz4:=hg4.size
          (try simp [depsC,dstAt,kAt,bindE,List.filter_cons,bd_data,bd_chain,bd_guard,bd_phase,bd_text,bd_gc] at hd)
          have h61 : rowR xs.length xs (f 61) w4:=by first | exact hd | exact hd.1 | exact hd.2 | exact hd.2.1
          obtain ⟨V9,cV9,e61,h9⟩:=h61
          have h9:=Lib.hid h9
          clear hd hI
          simp [puts,dsts,Act.put,e61]
          go_wp2_with fail
          exact ⟨_,rfl,⟨⟨V9,cV9,rfl,h9.out⟩,hg4⟩,Chg.refl _ _,by simp [keepsC,dstAt]⟩
        · intro f w4 hG hI hd
          have hg4:=gbT (gbD (gbR w7 none)) (chgF hG)
          have hz4:=hg4.size
          have hI : rowR xs.length xs (f 13) w4 ∧ w7.grownBy w4 none:=hI
          obtain ⟨h13,hgg⟩:=hI
          have H13:=Lib.hid h13
          (try simp [depsC,dstAt,kAt,bindE,List.filter_cons,bd_data,bd_chain,bd_guard,bd_phase,bd_text,bd_gc] at hd)
          have e62 : f 62 = .bool true:=by first | exact hd | exact hd.1 | exact hd.2 | exact hd.2.1
          clear hd h13
          simp [puts,dsts,Act.put,e62]
          go_wp2_with fail
          exact ⟨.bool true,rfl,⟨H13.out,rfl⟩,hgg⟩
      intro f w9 hI hd
      simp only [puts,dsts,Act.put,List.filterMap_cons,List.filterMap_nil,List.setIfInBounds_toArray,List.set_cons_zero,List.set_cons_succ]
      obtain ⟨⟨h13,e14⟩,hg9⟩:=hI
      obtain ⟨V9,cV9,e13,i9⟩:=h13
      have e13 : f 13 = .slice V9 xs.length cV9:=e13
      have e14 : f 14 = .bool true:=e14
      rw [e13,e14]
      have I9:=Lib.hid i9
      have I59:=Lib.hid (I5.out.grow hg9)
      have G9:=Lib.hid (gbT G1.out (gbT G7.out hg9))
      clear hd e13 e14 i9 hg9
      go_wp2_with fail
      refine (sameInts_c V' V9 xs.length xs.length cV' cV9 xs xs w9 I59.out I9.out (by omega) (by omega)).mono ?_
      rintro e w8 ⟨rfl,q,rfl⟩
      have hxx : (xs == xs) = true:=by simp
      rw [hxx]
      have G8:=Lib.hid (gbDN G9.out q)
      clear hxx
      go_wp2_with fail
      go_ret
      exact ⟨rfl,G8.out⟩
end Go.Proofs.Ytapljpcpmdlppaa
