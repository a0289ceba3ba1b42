/-
 AuthScale,AuthConst: reference and program.
-/
import Derived.Test.YthaadgdeadbhkaaGreatMgFnExactEngineRound15
open Go.RowKit
set_option linter.unusedVariables false
set_option linter.unusedSimpArgs false
namespace Go.Proofs.YthaadgdeadbhkaaGreat
attribute [local simp] depsC dstAt kAt bindE List.filter_cons Zy Zp Zq Zr Zz Yu puts dsts Act.put
def ZM (k:KM) (a:AuM) (x:Int):AuM:=if formB k a&&elemB k.p x then ⟨cstS k.p a.sh x,addS k.p a.mc (sclS k.p k.al x)⟩ else noA
theorem emod_elems {p:Int} (hf:fieldB p=true) {zs:List Int} (h:∀z∈zs,∃y,z=y % p):elemsB p zs=true:=by
 obtain ⟨p2,_⟩:=ZG hf;refine Wl hf fun z hz => ?_;obtain ⟨y,rfl⟩:=h z hz;exact ⟨Int.emod_nonneg _ (by omega),Int.emod_lt_of_pos _ (by omega)⟩
theorem WI {p k:Int} {xs:List Int} (h:elemsB p xs=true):elemsB p (sclS p xs k)=true:=by
 refine emod_elems (ZY h).1 fun z hz => ?_;obtain ⟨x,_,rfl⟩:=List.mem_map.1 hz;exact ⟨_,rfl⟩
theorem VT {p:Int} {xs ys:List Int} (hf:fieldB p=true):elemsB p (addS p xs ys)=true:=by
 refine emod_elems hf fun z hz => ?_;unfold addS at hz;obtain ⟨i,hi,rfl⟩:=List.mem_iff_getElem.1 hz;rw [List.getElem_zipWith];exact ⟨_,rfl⟩
theorem cstS_elems {p k:Int} {xs:List Int} (h:elemsB p xs=true):elemsB p (cstS p xs k)=true:=by
 obtain ⟨hf,p2,_,hz⟩:=ZY h;refine Wl hf fun z hz' => ?_
 rcases List.mem_or_eq_of_mem_set hz' with h1 | h1
 ·exact hz z h1
 ·subst h1
  exact ⟨Int.emod_nonneg _ (by omega),Int.emod_lt_of_pos _ (by omega)⟩
set_option maxHeartbeats 2000000 in
set_option maxRecDepth 100000 in
theorem XE (k:KM) (a:AuM) (x:Int) (kv av:Value) (w0:World) (h:AggR w0 (ckeys k) kv) (ha:AggR w0 (cauth a) av) (wk:kwf k) (wa:awf a) :
  Calls Tryz.prog 154 #[kv,av,.int .i64 x] w0 fun e w'=>∃v,e=.returned v∧autF w0.heap.size (Ze k a x) v w'∧w0.grownBy w' none:=by
 obtain ⟨A,c,rfl,hc,hm,hI⟩:=ZK h;obtain ⟨Ba,da,Ca,fa,rfl,_,_,_,_,hSa,hMa⟩:=ZC ha;have hp:=wk.1;obtain ⟨wp1,wp2⟩:=hp;obtain ⟨w1,hw1⟩:∃x:World,((w0.alloc (.cells #[.int .i64 k.p,.slice A k.al.length c] 34)).alloc (.cells #[.slice Ba a.sh.length da,.slice Ca a.mc.length fa] 80)).alloc (.cells #[.slice none 0 0,.slice none 0 0] 80)=x:=⟨_,rfl⟩;have G1:Hid (w0.grownBy w1 none):=by rw [← hw1];exact gbA (gbA (gbA (gbR _ _) _) _) _
 have z1:Hid (w1.heap.size=w0.heap.size+3):=by rw [← hw1];exact zH (by simp)
 have D0:Hid (Blk w1 w0.heap.size 34 #[.int .i64 k.p,.slice A k.al.length c]):=by rw [← hw1];exact ((Blk.new w0 _ _).grow (gbA (gbR _ _) _)).grow (gbA (gbR _ _) _)
 have D1:Hid (Blk w1 (w0.heap.size+1) 80 #[.slice Ba a.sh.length da,.slice Ca a.mc.length fa]):=by rw [← hw1];exact (Blk.new' _ _ _ _ (by simp)).grow (gbA (gbR _ _) _)
 have D3:Hid (Blk w1 (w0.heap.size+1+1) 80 #[.slice none 0 0,.slice none 0 0]):=by rw [← hw1];exact Blk.new' _ _ _ _ (by simp)
 have HK:=zH (AggR.grow h G1.out);have HAa:=zH (AggR.grow ha G1.out);have IK:=zH (hI.grow G1.out);have ISa:=zH (hSa.grow G1.out);have IMa:=zH (hMa.grow G1.out);have WK:=zH wk;have WA:=zH wa;clear h ha hI hSa hMa wk wa;have HFO:Hid (Ze k a x=if formB k a&&elemB k.p x then ⟨sclS k.p a.sh x,sclS k.p a.mc x⟩ else noA):=rfl
 go_enter Tryz.func154,Tryz.ntmps154
 have k0:=D0.out.cell 0;have k1:=D0.out.cell 1;have a0:=D1.out.cell 0;have a1:=D1.out.cell 1;simp at k0 k1 a0 a1;go_wp2_with fail;clear k0 k1 a0 a1 hw1;refine (Zx k a _ _ _ HK.out HAa.out WK.out WA.out).mono ?_;rintro e wz ⟨rfl,gz⟩
 cases hfa:formB k a
 ·rw [hfa] at HFO
  have RS:=zH (Zh (D3.out.grow gz) [.slice none 0 0,.slice none 0 0] rfl);have CH:=zH (Zc (w0.heap.size+1+1) [.slice none 0 0,.slice none 0 0] 0 wz);have r0:=(D3.out.grow gz).cell 0;have r1:=(D3.out.grow gz).cell 1;have s0:=(D3.out.grow gz).frozen 0;have s1:=(D3.out.grow gz).frozen 1;simp at r0 r1;have GG:=zH (gbT G1.out gz);clear gz;go_wp2_with fail;refine Yo Tryz.results154 (by rfl) stAuth (cs:=#[.slice none 0 0,.slice none 0 0]) RS.out (by rfl) (by rfl) ?_;exact ⟨_,rfl,by rw [HFO.out];exact ⟨_,Xe _,by simp⟩,Zv GG.out CH.out (by omega)⟩
 have k0:=(D0.out.grow gz).cell 0;simp at k0;have GZ1:=zH gz;clear gz;go_wp2_with fail;refine (ZD k.p x _ (by omega)).mono ?_;rintro e w2 ⟨rfl,rfl⟩;have gz:=GZ1.out
 cases hx:elemB k.p x
 ·rw [hfa,hx] at HFO
  clear k0 GZ1;have RS:=zH (Zh (D3.out.grow gz) [.slice none 0 0,.slice none 0 0] rfl);have CH:=zH (Zc (w0.heap.size+1+1) [.slice none 0 0,.slice none 0 0] 0 wz);have r0:=(D3.out.grow gz).cell 0;have r1:=(D3.out.grow gz).cell 1;have s0:=(D3.out.grow gz).frozen 0;have s1:=(D3.out.grow gz).frozen 1;simp at r0 r1;have GG:=zH (gbT G1.out gz);clear gz;go_wp2_with fail;refine Yo Tryz.results154 (by rfl) stAuth (cs:=#[.slice none 0 0,.slice none 0 0]) RS.out (by rfl) (by rfl) ?_;exact ⟨_,rfl,by rw [HFO.out];exact ⟨_,Xe _,by simp⟩,Zv GG.out CH.out (by omega)⟩
 rw [hfa,hx,Bool.and_self,if_pos rfl] at HFO;clear k0 GZ1;obtain ⟨_,la1,la2,ea1,ea2,ek,ln1,ln5⟩:=ZN hfa;have D0':=zH (D0.out.grow gz);have D1':=zH (D1.out.grow gz);have D3':=zH (D3.out.grow gz);have GW:=zH (gbT G1.out gz);have IK':=zH (IK.out.grow gz);have ISa':=zH (ISa.out.grow gz);have IMa':=zH (IMa.out.grow gz);have LK1:Hid (k.al.length=a.mc.length):=zH (by omega);have LN0:Hid (1≤a.sh.length):=zH (by omega);have LN1:Hid (a.sh.length≤1048576):=zH (by omega);have LN2:Hid (a.mc.length≤1048576):=zH (by omega);have LN3:Hid (k.al.length≤1048576):=zH (by omega);have EA1:=zH ea1;have EA2:=zH ea2;have EK:=zH ek;have EX:=zH hx;have zz:=gz.size;clear la1 la2 ln1 ln5 hfa hx gz D0 D1 D3 G1 ISa IMa IK HK HAa WK WA ea1 ea2 ek;go_wp2_with fail;obtain ⟨lo,hlo⟩:∃lo,w0.heap.size+3=lo:=⟨_,rfl⟩;obtain ⟨gR,hgR'⟩:∃g,w0.heap.size+1+1=g:=⟨_,rfl⟩;have hgR:gR<lo:=by omega
 have hwR:w0.heap.size≤gR:=by omega
 have hlz:lo≤wz.heap.size:=by have:=z1.out;omega
 rw [hgR'] at D3' ⊢
 refine Zg [.rd (.pointer (some ⟨w0.heap.size,0,none⟩)),.rd (.int .i64 k.p),.rd (.pointer (some ⟨w0.heap.size+1,0,none⟩)),.rd (.slice Ba a.sh.length da),.rd (.int .i64 x),.ch,.rd (.pointer (some ⟨w0.heap.size,0,none⟩)),.rd (.int .i64 k.p),.rd (.pointer (some ⟨w0.heap.size+1,1,none⟩)),.rd (.slice Ca a.mc.length fa),.rd (.int .i64 x),.ch,.ch,.ch] (fun _=>False)
  [⟨[],fun _ w'=>wz.drew.grownBy w' none⟩,
   ⟨[24],fun l w'=>row1 lo a.sh.length (sclS k.p a.sh x) (l.getD 0 undef) w'∧wz.drew.grownBy w' none⟩,
   ⟨[24,30],fun l w'=>row2 lo a.sh.length a.mc.length (sclS k.p a.sh x) (sclS k.p a.mc x) (l.getD 0 undef) (l.getD 1 undef) w'∧wz.drew.grownBy w' none⟩,
   ⟨[31],fun l w'=>autF lo ⟨(sclS k.p a.sh x),(sclS k.p a.mc x)⟩ (l.getD 0 undef) w'∧wz.drew.grownBy w' none⟩,
   ⟨[],fun _ w'=>(∃A9 n9 c9 B9 k9 d9,autF lo ⟨(sclS k.p a.sh x),(sclS k.p a.mc x)⟩ (.agg #[.slice A9 n9 c9,.slice B9 k9 d9]) w'∧Blk w' gR 80 #[.slice A9 n9 c9,.slice B9 k9 d9])∧wz.heap.size≤w'.heap.size∧w0.grownBy w' none⟩]
  (by kernel_rfl) (by kernel_rfl) (by kernel_rfl) 4 (by kernel_rfl) (by simp only [flOk,and_true]) (gbR _ _) rfl ?_ ?_
 ·simp only [hopsK,hopK,Kd.next,and_true]
  refine ⟨?_, ?_, ?_, ?_, ?_, ?_, ?_, ?_, ?_, ?_, ?_, ?_, ?_, ?_⟩;rotate_left 5
  ·intro f w4 hG hI hd
   have hI:wz.drew.grownBy w4 none:=hI;have hg4:=gbT (gbD (gbR wz none)) hI;have hz4:=hg4.size
   (try simp at hd)
   (first | simp [hd] | simp)
   clear hd;go_wp2_with fail;refine (Xc k.p x Ba a.sh.length da a.sh w4 EA1.out EX.out (ISa'.out.grow hg4) LN1.out).mono ?_;rintro e w6 ⟨v6,rfl,o6,g6⟩;have O6:=zH (ZQ o6 (show lo≤w4.heap.size by omega));have G6:=zH (gbT hI g6);have Q6:=zH g6;clear o6 g6;go_wp2_with fail;exact ⟨_,rfl,⟨row1.of O6.out,G6.out⟩,⟨Chg.of Q6.out (by simp),by simp [keepsC]⟩⟩
  rotate_left 5
  ·intro f w4 hG hI hd
   obtain ⟨h1,hI⟩:=hI;have H1:Hid (row1 lo a.sh.length (sclS k.p a.sh x) (f 24) w4):=zH h1;have hg4:=gbT (gbD (gbR wz none)) hI;have hz4:=hg4.size;clear h1
   (try simp at hd)
   (first | simp [hd] | simp)
   clear hd;go_wp2_with fail;refine (Xc k.p x Ca a.mc.length fa a.mc w4 EA2.out EX.out (IMa'.out.grow hg4) LN2.out).mono ?_;rintro e w6 ⟨v6,rfl,o6,g6⟩;have R6:=zH (row2.of H1.out g6 (show lo≤w4.heap.size by omega) o6);have G6:=zH (gbT hI g6);have Q6:=zH g6;clear o6 g6;go_wp2_with fail;exact ⟨_,rfl,⟨R6.out,G6.out⟩,⟨Chg.of Q6.out (by simp),by simp [keepsC]⟩⟩
  ·intro f w4 hG hI hd
   obtain ⟨h1,hI⟩:=hI;have h1:row2 lo a.sh.length a.mc.length (sclS k.p a.sh x) (sclS k.p a.mc x) (f 24) (f 30) w4:=h1;have HA:=h1.agg;obtain ⟨A1,c1,e1⟩:=h1.f1;obtain ⟨A2,c2,e2⟩:=h1.f2;rw [e1,e2] at HA;have HA:=zH HA;clear h1 hd;simp [puts,dsts,Act.put,e1,e2];go_wp2_with fail;exact ⟨_,rfl,⟨HA.out,hI⟩,⟨Chg.refl _ _,by simp [keepsC]⟩⟩
  ·intro f w4 hG hI hd
   obtain ⟨h1,hI⟩:=hI;have h1:autF lo ⟨(sclS k.p a.sh x),(sclS k.p a.mc x)⟩ (f 31) w4:=h1;obtain ⟨A9,n9,c9,B9,k9,d9,e9⟩:=h1.form;rw [e9] at h1;have hg4:=gbT (gbD (gbR wz none)) hI;have R4:=(D3'.out).grow hg4;have f0:=R4.frozen 0;have f1:=R4.frozen 1;have b0:=R4.cell 0;have b1:=R4.cell 1;simp at b0 b1;have RS:=zH (Zh R4 [.slice A9 n9 c9,.slice B9 k9 d9] rfl);have CH:=Zc gR [.slice A9 n9 c9,.slice B9 k9 d9] 0 w4;have AS:=zH (h1.chg CH hgR);have GS:=zH (Zv (gbT GW.out hg4) CH hwR);have ZS:=zH (Nat.le_trans hg4.size CH.size);clear R4 h1 hI CH
   (try simp at hd)
   simp [puts,dsts,Act.put,e9];go_wp2_with fail;exact ⟨rfl,.bool false,⟨A9,n9,c9,B9,k9,d9,AS.out,RS.out⟩,ZS.out,GS.out⟩
  all_goals
   intro f w4 hG hd;have hg4:=gbT (gbD (gbR wz none)) (chgF hG);have k0:=(D0'.out.grow hg4).cell 0;have k1:=(D1'.out.grow hg4).cell 0;have k2:=(D1'.out.grow hg4).cell 1;simp at k0 k1 k2
   (try simp at hd)
   (first | simp [hd] | simp)
   clear hd;go_wp2_with fail;exact ⟨rfl,rfl⟩
 intro f w9 hI hd;obtain ⟨⟨A9,n9,c9,B9,k9,d9,hAU,hBR⟩,_,hGZ⟩:=hI;simp only [puts,dsts,Act.put,zB,zC,zA,zD,zE];clear hd;go_wp2_with fail;refine Yo Tryz.results154 (by rfl) stAuth (cs:=#[.slice A9 n9 c9,.slice B9 k9 d9]) hBR (by rfl) (by rfl) ?_;exact ⟨_,rfl,by rw [HFO.out];exact autF.lo hAU (by omega),hGZ⟩
set_option maxHeartbeats 2000000 in
set_option maxRecDepth 100000 in
theorem XF (k:KM) (a:AuM) (x:Int) (kv av:Value) (w0:World) (h:AggR w0 (ckeys k) kv) (ha:AggR w0 (cauth a) av) (wk:kwf k) (wa:awf a) :
  Calls Tryz.prog 137 #[kv,av,.int .i64 x] w0 fun e w'=>∃v,e=.returned v∧autF w0.heap.size (Ze k a x) v w'∧w0.grownBy w' none:=by
 obtain ⟨A,c,rfl,hc,hm,hI⟩:=ZK h;obtain ⟨Ba,da,Ca,fa,rfl,_,_,_,_,hSa,hMa⟩:=ZC ha;have hp:=wk.1;obtain ⟨wp1,wp2⟩:=hp;obtain ⟨w1,hw1⟩:∃x:World,((w0.alloc (.cells #[.int .i64 k.p,.slice A k.al.length c] 34)).alloc (.cells #[.slice Ba a.sh.length da,.slice Ca a.mc.length fa] 80)).alloc (.cells #[.slice none 0 0,.slice none 0 0] 80)=x:=⟨_,rfl⟩;have G1:Hid (w0.grownBy w1 none):=by rw [← hw1];exact gbA (gbA (gbA (gbR _ _) _) _) _
 have z1:Hid (w1.heap.size=w0.heap.size+3):=by rw [← hw1];exact zH (by simp)
 have D0:Hid (Blk w1 w0.heap.size 34 #[.int .i64 k.p,.slice A k.al.length c]):=by rw [← hw1];exact ((Blk.new w0 _ _).grow (gbA (gbR _ _) _)).grow (gbA (gbR _ _) _)
 have D1:Hid (Blk w1 (w0.heap.size+1) 80 #[.slice Ba a.sh.length da,.slice Ca a.mc.length fa]):=by rw [← hw1];exact (Blk.new' _ _ _ _ (by simp)).grow (gbA (gbR _ _) _)
 have D3:Hid (Blk w1 (w0.heap.size+1+1) 80 #[.slice none 0 0,.slice none 0 0]):=by rw [← hw1];exact Blk.new' _ _ _ _ (by simp)
 have HK:=zH (AggR.grow h G1.out);have HAa:=zH (AggR.grow ha G1.out);have IK:=zH (hI.grow G1.out);have ISa:=zH (hSa.grow G1.out);have IMa:=zH (hMa.grow G1.out);have WK:=zH wk;have WA:=zH wa;clear h ha hI hSa hMa wk wa;have HFO:Hid (Ze k a x=if formB k a&&elemB k.p x then ⟨sclS k.p a.sh x,sclS k.p a.mc x⟩ else noA):=rfl
 go_enter Tryz.func137,Tryz.ntmps137
 have k0:=D0.out.cell 0;have k1:=D0.out.cell 1;have a0:=D1.out.cell 0;have a1:=D1.out.cell 1;simp at k0 k1 a0 a1;go_wp2_with fail;clear k0 k1 a0 a1 hw1;have HL1:=zH (Vg HAa.out);have HKL:=zH (AggR.grow HK.out (gbA (gbR w1 none) (.cells #[.slice Ba a.sh.length da,.slice Ca a.mc.length fa] 80)))
 have HAL:Hid (([a].all (formA k)&&keysB k)=formB k a):=by
  unfold Hid formB;simp only [List.all_cons,List.all_nil,Bool.and_true];rw [Bool.and_comm]
 refine (Yz k [a] _ _ 1 1 _ HKL.out HL1.out WK.out (by intro x hx;have h:x=a:=(by simpa using hx);exact h ▸ WA.out) (by omega)).mono ?_;rintro e wz ⟨rfl,g2⟩;have gz:=gbT (gbA (gbR w1 none) (.cells #[.slice Ba a.sh.length da,.slice Ca a.mc.length fa] 80)) g2;clear g2 HL1 HKL;rw [HAL.out]
 cases hfa:formB k a
 ·rw [hfa] at HFO
  have RS:=zH (Zh (D3.out.grow gz) [.slice none 0 0,.slice none 0 0] rfl);have CH:=zH (Zc (w0.heap.size+1+1) [.slice none 0 0,.slice none 0 0] 0 wz);have r0:=(D3.out.grow gz).cell 0;have r1:=(D3.out.grow gz).cell 1;have s0:=(D3.out.grow gz).frozen 0;have s1:=(D3.out.grow gz).frozen 1;simp at r0 r1;have GG:=zH (gbT G1.out gz);clear gz;go_wp2_with fail;refine Yo Tryz.results137 (by rfl) stAuth (cs:=#[.slice none 0 0,.slice none 0 0]) RS.out (by rfl) (by rfl) ?_;exact ⟨_,rfl,by rw [HFO.out];exact ⟨_,Xe _,by simp⟩,Zv GG.out CH.out (by omega)⟩
 have k0:=(D0.out.grow gz).cell 0;simp at k0;have GZ1:=zH gz;clear gz;go_wp2_with fail;refine (YA k.p x _ (by omega) (by omega)).mono ?_;rintro e w2 ⟨rfl,rfl⟩;have gz:=GZ1.out
 cases hx:elemB k.p x
 ·rw [hfa,hx] at HFO
  clear k0 GZ1;have RS:=zH (Zh (D3.out.grow gz) [.slice none 0 0,.slice none 0 0] rfl);have CH:=zH (Zc (w0.heap.size+1+1) [.slice none 0 0,.slice none 0 0] 0 wz);have r0:=(D3.out.grow gz).cell 0;have r1:=(D3.out.grow gz).cell 1;have s0:=(D3.out.grow gz).frozen 0;have s1:=(D3.out.grow gz).frozen 1;simp at r0 r1;have GG:=zH (gbT G1.out gz);clear gz;go_wp2_with fail;refine Yo Tryz.results137 (by rfl) stAuth (cs:=#[.slice none 0 0,.slice none 0 0]) RS.out (by rfl) (by rfl) ?_;exact ⟨_,rfl,by rw [HFO.out];exact ⟨_,Xe _,by simp⟩,Zv GG.out CH.out (by omega)⟩
 rw [hfa,hx,Bool.and_self,if_pos rfl] at HFO;clear k0 GZ1;obtain ⟨_,la1,la2,ea1,ea2,ek,ln1,ln5⟩:=ZN hfa;have D0':=zH (D0.out.grow gz);have D1':=zH (D1.out.grow gz);have D3':=zH (D3.out.grow gz);have GW:=zH (gbT G1.out gz);have IK':=zH (IK.out.grow gz);have ISa':=zH (ISa.out.grow gz);have IMa':=zH (IMa.out.grow gz);have LK1:Hid (k.al.length=a.mc.length):=zH (by omega);have LN0:Hid (1≤a.sh.length):=zH (by omega);have LN1:Hid (a.sh.length≤1048576):=zH (by omega);have LN2:Hid (a.mc.length≤1048576):=zH (by omega);have LN3:Hid (k.al.length≤1048576):=zH (by omega);have EA1:=zH ea1;have EA2:=zH ea2;have EK:=zH ek;have EX:=zH hx;have zz:=gz.size;clear la1 la2 ln1 ln5 hfa hx gz D0 D1 D3 G1 ISa IMa IK HK HAa WK WA ea1 ea2 ek;go_wp2_with fail;obtain ⟨lo,hlo⟩:∃lo,w0.heap.size+3=lo:=⟨_,rfl⟩;obtain ⟨gR,hgR'⟩:∃g,w0.heap.size+1+1=g:=⟨_,rfl⟩;have hgR:gR<lo:=by omega
 have hwR:w0.heap.size≤gR:=by omega
 have hlz:lo≤wz.heap.size:=by have:=z1.out;omega
 rw [hgR'] at D3' ⊢
 refine Zg [.rd (.pointer (some ⟨w0.heap.size,0,none⟩)),.rd (.int .i64 k.p),.rd (.pointer (some ⟨w0.heap.size+1,0,none⟩)),.rd (.slice Ba a.sh.length da),.rd (.int .i64 x),.ch,.rd (.pointer (some ⟨w0.heap.size,0,none⟩)),.rd (.int .i64 k.p),.rd (.pointer (some ⟨w0.heap.size+1,1,none⟩)),.rd (.slice Ca a.mc.length fa),.rd (.int .i64 x),.ch,.ch,.ch] (fun _=>False)
  [⟨[],fun _ w'=>wz.drew.grownBy w' none⟩,
   ⟨[25],fun l w'=>row1 lo a.sh.length (sclS k.p a.sh x) (l.getD 0 undef) w'∧wz.drew.grownBy w' none⟩,
   ⟨[25,31],fun l w'=>row2 lo a.sh.length a.mc.length (sclS k.p a.sh x) (sclS k.p a.mc x) (l.getD 0 undef) (l.getD 1 undef) w'∧wz.drew.grownBy w' none⟩,
   ⟨[32],fun l w'=>autF lo ⟨(sclS k.p a.sh x),(sclS k.p a.mc x)⟩ (l.getD 0 undef) w'∧wz.drew.grownBy w' none⟩,
   ⟨[],fun _ w'=>(∃A9 n9 c9 B9 k9 d9,autF lo ⟨(sclS k.p a.sh x),(sclS k.p a.mc x)⟩ (.agg #[.slice A9 n9 c9,.slice B9 k9 d9]) w'∧Blk w' gR 80 #[.slice A9 n9 c9,.slice B9 k9 d9])∧wz.heap.size≤w'.heap.size∧w0.grownBy w' none⟩]
  (by kernel_rfl) (by kernel_rfl) (by kernel_rfl) 4 (by kernel_rfl) (by simp only [flOk,and_true]) (gbR _ _) rfl ?_ ?_
 ·simp only [hopsK,hopK,Kd.next,and_true]
  refine ⟨?_, ?_, ?_, ?_, ?_, ?_, ?_, ?_, ?_, ?_, ?_, ?_, ?_, ?_⟩;rotate_left 5
  ·intro f w4 hG hI hd
   have hI:wz.drew.grownBy w4 none:=hI;have hg4:=gbT (gbD (gbR wz none)) hI;have hz4:=hg4.size
   (try simp at hd)
   (first | simp [hd] | simp)
   clear hd;go_wp2_with fail;refine (Xd k.p x Ba a.sh.length da a.sh w4 EA1.out EX.out (ISa'.out.grow hg4) LN1.out).mono ?_;rintro e w6 ⟨v6,rfl,o6,g6⟩;have O6:=zH (ZQ o6 (show lo≤w4.heap.size by omega));have G6:=zH (gbT hI g6);have Q6:=zH g6;clear o6 g6;go_wp2_with fail;exact ⟨_,rfl,⟨row1.of O6.out,G6.out⟩,⟨Chg.of Q6.out (by simp),by simp [keepsC]⟩⟩
  rotate_left 5
  ·intro f w4 hG hI hd
   obtain ⟨h1,hI⟩:=hI;have H1:Hid (row1 lo a.sh.length (sclS k.p a.sh x) (f 25) w4):=zH h1;have hg4:=gbT (gbD (gbR wz none)) hI;have hz4:=hg4.size;clear h1
   (try simp at hd)
   (first | simp [hd] | simp)
   clear hd;go_wp2_with fail;refine (Xd k.p x Ca a.mc.length fa a.mc w4 EA2.out EX.out (IMa'.out.grow hg4) LN2.out).mono ?_;rintro e w6 ⟨v6,rfl,o6,g6⟩;have R6:=zH (row2.of H1.out g6 (show lo≤w4.heap.size by omega) o6);have G6:=zH (gbT hI g6);have Q6:=zH g6;clear o6 g6;go_wp2_with fail;exact ⟨_,rfl,⟨R6.out,G6.out⟩,⟨Chg.of Q6.out (by simp),by simp [keepsC]⟩⟩
  ·intro f w4 hG hI hd
   obtain ⟨h1,hI⟩:=hI;have h1:row2 lo a.sh.length a.mc.length (sclS k.p a.sh x) (sclS k.p a.mc x) (f 25) (f 31) w4:=h1;have HA:=h1.agg;obtain ⟨A1,c1,e1⟩:=h1.f1;obtain ⟨A2,c2,e2⟩:=h1.f2;rw [e1,e2] at HA;have HA:=zH HA;clear h1 hd;simp [puts,dsts,Act.put,e1,e2];go_wp2_with fail;exact ⟨_,rfl,⟨HA.out,hI⟩,⟨Chg.refl _ _,by simp [keepsC]⟩⟩
  ·intro f w4 hG hI hd
   obtain ⟨h1,hI⟩:=hI;have h1:autF lo ⟨(sclS k.p a.sh x),(sclS k.p a.mc x)⟩ (f 32) w4:=h1;obtain ⟨A9,n9,c9,B9,k9,d9,e9⟩:=h1.form;rw [e9] at h1;have hg4:=gbT (gbD (gbR wz none)) hI;have R4:=(D3'.out).grow hg4;have f0:=R4.frozen 0;have f1:=R4.frozen 1;have b0:=R4.cell 0;have b1:=R4.cell 1;simp at b0 b1;have RS:=zH (Zh R4 [.slice A9 n9 c9,.slice B9 k9 d9] rfl);have CH:=Zc gR [.slice A9 n9 c9,.slice B9 k9 d9] 0 w4;have AS:=zH (h1.chg CH hgR);have GS:=zH (Zv (gbT GW.out hg4) CH hwR);have ZS:=zH (Nat.le_trans hg4.size CH.size);clear R4 h1 hI CH
   (try simp at hd)
   simp [puts,dsts,Act.put,e9];go_wp2_with fail;exact ⟨rfl,.bool false,⟨A9,n9,c9,B9,k9,d9,AS.out,RS.out⟩,ZS.out,GS.out⟩
  all_goals
   intro f w4 hG hd;have hg4:=gbT (gbD (gbR wz none)) (chgF hG);have k0:=(D0'.out.grow hg4).cell 0;have k1:=(D1'.out.grow hg4).cell 0;have k2:=(D1'.out.grow hg4).cell 1;simp at k0 k1 k2
   (try simp at hd)
   (first | simp [hd] | simp)
   clear hd;go_wp2_with fail;exact ⟨rfl,rfl⟩
 intro f w9 hI hd;obtain ⟨⟨A9,n9,c9,B9,k9,d9,hAU,hBR⟩,_,hGZ⟩:=hI;simp only [puts,dsts,Act.put,zB,zC,zA,zD,zE];clear hd;go_wp2_with fail;refine Yo Tryz.results137 (by rfl) stAuth (cs:=#[.slice A9 n9 c9,.slice B9 k9 d9]) hBR (by rfl) (by rfl) ?_;exact ⟨_,rfl,by rw [HFO.out];exact autF.lo hAU (by omega),hGZ⟩
set_option maxHeartbeats 2000000 in
set_option maxRecDepth 100000 in
theorem Qb (k:KM) (a:AuM) (x:Int) (kv av:Value) (w0:World) (h:AggR w0 (ckeys k) kv) (ha:AggR w0 (cauth a) av) (wk:kwf k) (wa:awf a) :
  Calls Tryz.prog 90 #[kv,av,.int .i64 x] w0 fun e w'=>∃v,e=.returned v∧autF w0.heap.size (ZM k a x) v w'∧w0.grownBy w' none:=by
 obtain ⟨A,c,rfl,hc,hm,hI⟩:=ZK h;obtain ⟨Ba,da,Ca,fa,rfl,_,_,_,_,hSa,hMa⟩:=ZC ha;have hp:=wk.1;obtain ⟨wp1,wp2⟩:=hp;obtain ⟨w1,hw1⟩:∃x:World,((w0.alloc (.cells #[.int .i64 k.p,.slice A k.al.length c] 34)).alloc (.cells #[.slice Ba a.sh.length da,.slice Ca a.mc.length fa] 80)).alloc (.cells #[.slice none 0 0,.slice none 0 0] 80)=x:=⟨_,rfl⟩;have G1:Hid (w0.grownBy w1 none):=by rw [← hw1];exact gbA (gbA (gbA (gbR _ _) _) _) _
 have z1:Hid (w1.heap.size=w0.heap.size+3):=by rw [← hw1];exact zH (by simp)
 have D0:Hid (Blk w1 w0.heap.size 34 #[.int .i64 k.p,.slice A k.al.length c]):=by rw [← hw1];exact ((Blk.new w0 _ _).grow (gbA (gbR _ _) _)).grow (gbA (gbR _ _) _)
 have D1:Hid (Blk w1 (w0.heap.size+1) 80 #[.slice Ba a.sh.length da,.slice Ca a.mc.length fa]):=by rw [← hw1];exact (Blk.new' _ _ _ _ (by simp)).grow (gbA (gbR _ _) _)
 have D3:Hid (Blk w1 (w0.heap.size+1+1) 80 #[.slice none 0 0,.slice none 0 0]):=by rw [← hw1];exact Blk.new' _ _ _ _ (by simp)
 have HK:=zH (AggR.grow h G1.out);have HAa:=zH (AggR.grow ha G1.out);have IK:=zH (hI.grow G1.out);have ISa:=zH (hSa.grow G1.out);have IMa:=zH (hMa.grow G1.out);have WK:=zH wk;have WA:=zH wa;clear h ha hI hSa hMa wk wa;have HFO:Hid (ZM k a x=if formB k a&&elemB k.p x then ⟨cstS k.p a.sh x,addS k.p a.mc (sclS k.p k.al x)⟩ else noA):=rfl
 go_enter Tryz.func90,Tryz.ntmps90
 have k0:=D0.out.cell 0;have k1:=D0.out.cell 1;have a0:=D1.out.cell 0;have a1:=D1.out.cell 1;simp at k0 k1 a0 a1;go_wp2_with fail;clear k0 k1 a0 a1 hw1;refine (Zx k a _ _ _ HK.out HAa.out WK.out WA.out).mono ?_;rintro e wz ⟨rfl,gz⟩
 cases hfa:formB k a
 ·rw [hfa] at HFO
  have RS:=zH (Zh (D3.out.grow gz) [.slice none 0 0,.slice none 0 0] rfl);have CH:=zH (Zc (w0.heap.size+1+1) [.slice none 0 0,.slice none 0 0] 0 wz);have r0:=(D3.out.grow gz).cell 0;have r1:=(D3.out.grow gz).cell 1;have s0:=(D3.out.grow gz).frozen 0;have s1:=(D3.out.grow gz).frozen 1;simp at r0 r1;have GG:=zH (gbT G1.out gz);clear gz;go_wp2_with fail;refine Yo Tryz.results90 (by rfl) stAuth (cs:=#[.slice none 0 0,.slice none 0 0]) RS.out (by rfl) (by rfl) ?_;exact ⟨_,rfl,by rw [HFO.out];exact ⟨_,Xe _,by simp⟩,Zv GG.out CH.out (by omega)⟩
 have k0:=(D0.out.grow gz).cell 0;simp at k0;have GZ1:=zH gz;clear gz;go_wp2_with fail;refine (ZD k.p x _ (by omega)).mono ?_;rintro e w2 ⟨rfl,rfl⟩;have gz:=GZ1.out
 cases hx:elemB k.p x
 ·rw [hfa,hx] at HFO
  clear k0 GZ1;have RS:=zH (Zh (D3.out.grow gz) [.slice none 0 0,.slice none 0 0] rfl);have CH:=zH (Zc (w0.heap.size+1+1) [.slice none 0 0,.slice none 0 0] 0 wz);have r0:=(D3.out.grow gz).cell 0;have r1:=(D3.out.grow gz).cell 1;have s0:=(D3.out.grow gz).frozen 0;have s1:=(D3.out.grow gz).frozen 1;simp at r0 r1;have GG:=zH (gbT G1.out gz);clear gz;go_wp2_with fail;refine Yo Tryz.results90 (by rfl) stAuth (cs:=#[.slice none 0 0,.slice none 0 0]) RS.out (by rfl) (by rfl) ?_;exact ⟨_,rfl,by rw [HFO.out];exact ⟨_,Xe _,by simp⟩,Zv GG.out CH.out (by omega)⟩
 rw [hfa,hx,Bool.and_self,if_pos rfl] at HFO;clear k0 GZ1;obtain ⟨_,la1,la2,ea1,ea2,ek,ln1,ln5⟩:=ZN hfa;have D0':=zH (D0.out.grow gz);have D1':=zH (D1.out.grow gz);have D3':=zH (D3.out.grow gz);have GW:=zH (gbT G1.out gz);have IK':=zH (IK.out.grow gz);have ISa':=zH (ISa.out.grow gz);have IMa':=zH (IMa.out.grow gz);have LK1:Hid (k.al.length=a.mc.length):=zH (by omega);have LN0:Hid (1≤a.sh.length):=zH (by omega);have LN1:Hid (a.sh.length≤1048576):=zH (by omega);have LN2:Hid (a.mc.length≤1048576):=zH (by omega);have LN3:Hid (k.al.length≤1048576):=zH (by omega);have EA1:=zH ea1;have EA2:=zH ea2;have EK:=zH ek;have EX:=zH hx;have zz:=gz.size;clear la1 la2 ln1 ln5 hfa hx gz D0 D1 D3 G1 ISa IMa IK HK HAa WK WA ea1 ea2 ek;go_wp2_with fail;obtain ⟨lo,hlo⟩:∃lo,w0.heap.size+3=lo:=⟨_,rfl⟩;obtain ⟨gR,hgR'⟩:∃g,w0.heap.size+1+1=g:=⟨_,rfl⟩;have hgR:gR<lo:=by omega
 have hwR:w0.heap.size≤gR:=by omega
 have hlz:lo≤wz.heap.size:=by have:=z1.out;omega
 rw [hgR'] at D3' ⊢;have ESC:=zH (WI (k:=x) EK.out)
 refine Zg [.rd (.pointer (some ⟨w0.heap.size,0,none⟩)),.rd (.int .i64 k.p),.rd (.pointer (some ⟨w0.heap.size+1,0,none⟩)),.rd (.slice Ba a.sh.length da),.rd (.int .i64 x),.ch,.rd (.pointer (some ⟨w0.heap.size,0,none⟩)),.rd (.int .i64 k.p),.rd (.pointer (some ⟨w0.heap.size+1,1,none⟩)),.rd (.slice Ca a.mc.length fa),.rd (.pointer (some ⟨w0.heap.size,0,none⟩)),.rd (.int .i64 k.p),.rd (.pointer (some ⟨w0.heap.size,1,none⟩)),.rd (.slice A k.al.length c),.rd (.int .i64 x),.ch,.ch,.ch,.ch] (fun _=>False)
  [⟨[],fun _ w'=>wz.drew.grownBy w' none⟩,
   ⟨[24],fun l w'=>row1 lo a.sh.length (cstS k.p a.sh x) (l.getD 0 undef) w'∧wz.drew.grownBy w' none⟩,
   ⟨[24,34],fun l w'=>row1 lo a.sh.length (cstS k.p a.sh x) (l.getD 0 undef) w'∧row1 lo k.al.length (sclS k.p k.al x) (l.getD 1 undef) w'∧wz.drew.grownBy w' none⟩,
   ⟨[24,35],fun l w'=>row2 lo a.sh.length a.mc.length (cstS k.p a.sh x) (addS k.p a.mc (sclS k.p k.al x)) (l.getD 0 undef) (l.getD 1 undef) w'∧wz.drew.grownBy w' none⟩,
   ⟨[36],fun l w'=>autF lo ⟨(cstS k.p a.sh x),(addS k.p a.mc (sclS k.p k.al x))⟩ (l.getD 0 undef) w'∧wz.drew.grownBy w' none⟩,
   ⟨[],fun _ w'=>(∃A9 n9 c9 B9 k9 d9,autF lo ⟨(cstS k.p a.sh x),(addS k.p a.mc (sclS k.p k.al x))⟩ (.agg #[.slice A9 n9 c9,.slice B9 k9 d9]) w'∧Blk w' gR 80 #[.slice A9 n9 c9,.slice B9 k9 d9])∧wz.heap.size≤w'.heap.size∧w0.grownBy w' none⟩]
  (by kernel_rfl) (by kernel_rfl) (by kernel_rfl) 5 (by kernel_rfl) (by simp only [flOk,and_true]) (gbR _ _) rfl ?_ ?_
 ·simp only [hopsK,hopK,Kd.next,and_true]
  refine ⟨?_, ?_, ?_, ?_, ?_, ?_, ?_, ?_, ?_, ?_, ?_, ?_, ?_, ?_, ?_, ?_, ?_, ?_, ?_⟩;rotate_left 5
  ·intro f w4 hG hI hd
   have hI:wz.drew.grownBy w4 none:=hI;have hg4:=gbT (gbD (gbR wz none)) hI;have hz4:=hg4.size
   (try simp at hd)
   (first | simp [hd] | simp)
   clear hd;go_wp2_with fail;refine (VR k.p x Ba a.sh.length da a.sh w4 EA1.out EX.out (ISa'.out.grow hg4) LN0.out LN1.out).mono ?_;rintro e w6 ⟨v6,rfl,o6,g6⟩;have O6:=zH (ZQ o6 (show lo≤w4.heap.size by omega));have G6:=zH (gbT hI g6);have Q6:=zH g6;clear o6 g6;go_wp2_with fail;exact ⟨_,rfl,⟨row1.of O6.out,G6.out⟩,⟨Chg.of Q6.out (by simp),by simp [keepsC]⟩⟩
  rotate_left 9
  ·intro f w4 hG hI hd
   obtain ⟨h1,hI⟩:=hI;have H1:Hid (row1 lo a.sh.length (cstS k.p a.sh x) (f 24) w4):=zH h1;have hg4:=gbT (gbD (gbR wz none)) hI;have hz4:=hg4.size;clear h1
   (try simp at hd)
   (first | simp [hd] | simp)
   clear hd;go_wp2_with fail;refine (Xc k.p x A k.al.length c k.al w4 EK.out EX.out (IK'.out.grow hg4) LN3.out).mono ?_;rintro e w6 ⟨v6,rfl,o6,g6⟩;have O6:=zH (ZQ o6 (show lo≤w4.heap.size by omega));have R6:=zH (H1.out.grow g6);have G6:=zH (gbT hI g6);have Q6:=zH g6;clear o6 g6;go_wp2_with fail;exact ⟨_,rfl,⟨R6.out,row1.of O6.out,G6.out⟩,⟨Chg.of Q6.out (by simp),by simp [keepsC]⟩⟩
  ·intro f w4 hG hI hd
   obtain ⟨h1,h2,hI⟩:=hI;have H1:Hid (row1 lo a.sh.length (cstS k.p a.sh x) (f 24) w4):=zH h1;have h2:row1 lo k.al.length (sclS k.p k.al x) (f 34) w4:=h2;obtain ⟨A2,c2,e2,o2⟩:=h2;rw [e2] at o2;have I2:=zH (show Ints w4 A2 k.al.length (sclS k.p k.al x) from Rd.ofOwn o2);have hg4:=gbT (gbD (gbR wz none)) hI;have hz4:=hg4.size;clear h1 o2
   (try simp at hd)
   simp [puts,dsts,Act.put,hd,e2];clear hd e2;go_wp2_with fail;refine (XC k.p Ca A2 a.mc.length k.al.length fa c2 a.mc (sclS k.p k.al x) w4 LK1.out EA2.out ESC.out (IMa'.out.grow hg4) I2.out LN2.out).mono ?_;rintro e w6 ⟨v6,rfl,o6,g6⟩;have R6:=zH (row2.of H1.out g6 (show lo≤w4.heap.size by omega) o6);have G6:=zH (gbT hI g6);have Q6:=zH g6;clear o6 g6;go_wp2_with fail;exact ⟨_,rfl,⟨R6.out,G6.out⟩,⟨Chg.of Q6.out (by simp),by simp [keepsC]⟩⟩
  ·intro f w4 hG hI hd
   obtain ⟨h1,hI⟩:=hI;have h1:row2 lo a.sh.length a.mc.length (cstS k.p a.sh x) (addS k.p a.mc (sclS k.p k.al x)) (f 24) (f 35) w4:=h1;have HA:=h1.agg;obtain ⟨A1,c1,e1⟩:=h1.f1;obtain ⟨A2,c2,e2⟩:=h1.f2;rw [e1,e2] at HA;have HA:=zH HA;clear h1 hd;simp [puts,dsts,Act.put,e1,e2];go_wp2_with fail;exact ⟨_,rfl,⟨HA.out,hI⟩,⟨Chg.refl _ _,by simp [keepsC]⟩⟩
  ·intro f w4 hG hI hd
   obtain ⟨h1,hI⟩:=hI;have h1:autF lo ⟨(cstS k.p a.sh x),(addS k.p a.mc (sclS k.p k.al x))⟩ (f 36) w4:=h1;obtain ⟨A9,n9,c9,B9,k9,d9,e9⟩:=h1.form;rw [e9] at h1;have hg4:=gbT (gbD (gbR wz none)) hI;have R4:=(D3'.out).grow hg4;have f0:=R4.frozen 0;have f1:=R4.frozen 1;have b0:=R4.cell 0;have b1:=R4.cell 1;simp at b0 b1;have RS:=zH (Zh R4 [.slice A9 n9 c9,.slice B9 k9 d9] rfl);have CH:=Zc gR [.slice A9 n9 c9,.slice B9 k9 d9] 0 w4;have AS:=zH (h1.chg CH hgR);have GS:=zH (Zv (gbT GW.out hg4) CH hwR);have ZS:=zH (Nat.le_trans hg4.size CH.size);clear R4 h1 hI CH
   (try simp at hd)
   simp [puts,dsts,Act.put,e9];go_wp2_with fail;exact ⟨rfl,.bool false,⟨A9,n9,c9,B9,k9,d9,AS.out,RS.out⟩,ZS.out,GS.out⟩
  all_goals
   intro f w4 hG hd;have hg4:=gbT (gbD (gbR wz none)) (chgF hG);have k0:=(D0'.out.grow hg4).cell 0;have k3:=(D0'.out.grow hg4).cell 1;have k1:=(D1'.out.grow hg4).cell 0;have k2:=(D1'.out.grow hg4).cell 1;simp at k0 k1 k2 k3
   (try simp at hd)
   (first | simp [hd] | simp)
   clear hd;go_wp2_with fail;exact ⟨rfl,rfl⟩
 intro f w9 hI hd;obtain ⟨⟨A9,n9,c9,B9,k9,d9,hAU,hBR⟩,_,hGZ⟩:=hI;simp only [puts,dsts,Act.put,zB,zC,zA,zD,zE];clear hd;go_wp2_with fail;refine Yo Tryz.results90 (by rfl) stAuth (cs:=#[.slice A9 n9 c9,.slice B9 k9 d9]) hBR (by rfl) (by rfl) ?_;exact ⟨_,rfl,by rw [HFO.out];exact autF.lo hAU (by omega),hGZ⟩
set_option maxHeartbeats 2000000 in
set_option maxRecDepth 100000 in
theorem Qc (k:KM) (a:AuM) (x:Int) (kv av:Value) (w0:World) (h:AggR w0 (ckeys k) kv) (ha:AggR w0 (cauth a) av) (wk:kwf k) (wa:awf a) :
  Calls Tryz.prog 116 #[kv,av,.int .i64 x] w0 fun e w'=>∃v,e=.returned v∧autF w0.heap.size (ZM k a x) v w'∧w0.grownBy w' none:=by
 obtain ⟨A,c,rfl,hc,hm,hI⟩:=ZK h;obtain ⟨Ba,da,Ca,fa,rfl,_,_,_,_,hSa,hMa⟩:=ZC ha;have hp:=wk.1;obtain ⟨wp1,wp2⟩:=hp;obtain ⟨w1,hw1⟩:∃x:World,((w0.alloc (.cells #[.int .i64 k.p,.slice A k.al.length c] 34)).alloc (.cells #[.slice Ba a.sh.length da,.slice Ca a.mc.length fa] 80)).alloc (.cells #[.slice none 0 0,.slice none 0 0] 80)=x:=⟨_,rfl⟩;have G1:Hid (w0.grownBy w1 none):=by rw [← hw1];exact gbA (gbA (gbA (gbR _ _) _) _) _
 have z1:Hid (w1.heap.size=w0.heap.size+3):=by rw [← hw1];exact zH (by simp)
 have D0:Hid (Blk w1 w0.heap.size 34 #[.int .i64 k.p,.slice A k.al.length c]):=by rw [← hw1];exact ((Blk.new w0 _ _).grow (gbA (gbR _ _) _)).grow (gbA (gbR _ _) _)
 have D1:Hid (Blk w1 (w0.heap.size+1) 80 #[.slice Ba a.sh.length da,.slice Ca a.mc.length fa]):=by rw [← hw1];exact (Blk.new' _ _ _ _ (by simp)).grow (gbA (gbR _ _) _)
 have D3:Hid (Blk w1 (w0.heap.size+1+1) 80 #[.slice none 0 0,.slice none 0 0]):=by rw [← hw1];exact Blk.new' _ _ _ _ (by simp)
 have HK:=zH (AggR.grow h G1.out);have HAa:=zH (AggR.grow ha G1.out);have IK:=zH (hI.grow G1.out);have ISa:=zH (hSa.grow G1.out);have IMa:=zH (hMa.grow G1.out);have WK:=zH wk;have WA:=zH wa;clear h ha hI hSa hMa wk wa;have HFO:Hid (ZM k a x=if formB k a&&elemB k.p x then ⟨cstS k.p a.sh x,addS k.p a.mc (sclS k.p k.al x)⟩ else noA):=rfl
 go_enter Tryz.func116,Tryz.ntmps116
 have k0:=D0.out.cell 0;have k1:=D0.out.cell 1;have a0:=D1.out.cell 0;have a1:=D1.out.cell 1;simp at k0 k1 a0 a1;go_wp2_with fail;clear k0 k1 a0 a1 hw1;have HL1:=zH (Vg HAa.out);have HKL:=zH (AggR.grow HK.out (gbA (gbR w1 none) (.cells #[.slice Ba a.sh.length da,.slice Ca a.mc.length fa] 80)))
 have HAL:Hid (([a].all (formA k)&&keysB k)=formB k a):=by
  unfold Hid formB;simp only [List.all_cons,List.all_nil,Bool.and_true];rw [Bool.and_comm]
 refine (Yz k [a] _ _ 1 1 _ HKL.out HL1.out WK.out (by intro x hx;have h:x=a:=(by simpa using hx);exact h ▸ WA.out) (by omega)).mono ?_;rintro e wz ⟨rfl,g2⟩;have gz:=gbT (gbA (gbR w1 none) (.cells #[.slice Ba a.sh.length da,.slice Ca a.mc.length fa] 80)) g2;clear g2 HL1 HKL;rw [HAL.out]
 cases hfa:formB k a
 ·rw [hfa] at HFO
  have RS:=zH (Zh (D3.out.grow gz) [.slice none 0 0,.slice none 0 0] rfl);have CH:=zH (Zc (w0.heap.size+1+1) [.slice none 0 0,.slice none 0 0] 0 wz);have r0:=(D3.out.grow gz).cell 0;have r1:=(D3.out.grow gz).cell 1;have s0:=(D3.out.grow gz).frozen 0;have s1:=(D3.out.grow gz).frozen 1;simp at r0 r1;have GG:=zH (gbT G1.out gz);clear gz;go_wp2_with fail;refine Yo Tryz.results116 (by rfl) stAuth (cs:=#[.slice none 0 0,.slice none 0 0]) RS.out (by rfl) (by rfl) ?_;exact ⟨_,rfl,by rw [HFO.out];exact ⟨_,Xe _,by simp⟩,Zv GG.out CH.out (by omega)⟩
 have k0:=(D0.out.grow gz).cell 0;simp at k0;have GZ1:=zH gz;clear gz;go_wp2_with fail;refine (YA k.p x _ (by omega) (by omega)).mono ?_;rintro e w2 ⟨rfl,rfl⟩;have gz:=GZ1.out
 cases hx:elemB k.p x
 ·rw [hfa,hx] at HFO
  clear k0 GZ1;have RS:=zH (Zh (D3.out.grow gz) [.slice none 0 0,.slice none 0 0] rfl);have CH:=zH (Zc (w0.heap.size+1+1) [.slice none 0 0,.slice none 0 0] 0 wz);have r0:=(D3.out.grow gz).cell 0;have r1:=(D3.out.grow gz).cell 1;have s0:=(D3.out.grow gz).frozen 0;have s1:=(D3.out.grow gz).frozen 1;simp at r0 r1;have GG:=zH (gbT G1.out gz);clear gz;go_wp2_with fail;refine Yo Tryz.results116 (by rfl) stAuth (cs:=#[.slice none 0 0,.slice none 0 0]) RS.out (by rfl) (by rfl) ?_;exact ⟨_,rfl,by rw [HFO.out];exact ⟨_,Xe _,by simp⟩,Zv GG.out CH.out (by omega)⟩
 rw [hfa,hx,Bool.and_self,if_pos rfl] at HFO;clear k0 GZ1;obtain ⟨_,la1,la2,ea1,ea2,ek,ln1,ln5⟩:=ZN hfa;have D0':=zH (D0.out.grow gz);have D1':=zH (D1.out.grow gz);have D3':=zH (D3.out.grow gz);have GW:=zH (gbT G1.out gz);have IK':=zH (IK.out.grow gz);have ISa':=zH (ISa.out.grow gz);have IMa':=zH (IMa.out.grow gz);have LK1:Hid (k.al.length=a.mc.length):=zH (by omega);have LN0:Hid (1≤a.sh.length):=zH (by omega);have LN1:Hid (a.sh.length≤1048576):=zH (by omega);have LN2:Hid (a.mc.length≤1048576):=zH (by omega);have LN3:Hid (k.al.length≤1048576):=zH (by omega);have EA1:=zH ea1;have EA2:=zH ea2;have EK:=zH ek;have EX:=zH hx;have zz:=gz.size;clear la1 la2 ln1 ln5 hfa hx gz D0 D1 D3 G1 ISa IMa IK HK HAa WK WA ea1 ea2 ek;go_wp2_with fail;obtain ⟨lo,hlo⟩:∃lo,w0.heap.size+3=lo:=⟨_,rfl⟩;obtain ⟨gR,hgR'⟩:∃g,w0.heap.size+1+1=g:=⟨_,rfl⟩;have hgR:gR<lo:=by omega
 have hwR:w0.heap.size≤gR:=by omega
 have hlz:lo≤wz.heap.size:=by have:=z1.out;omega
 rw [hgR'] at D3' ⊢;have ESC:=zH (WI (k:=x) EK.out)
 refine Zg [.rd (.pointer (some ⟨w0.heap.size,0,none⟩)),.rd (.int .i64 k.p),.rd (.pointer (some ⟨w0.heap.size+1,0,none⟩)),.rd (.slice Ba a.sh.length da),.rd (.int .i64 x),.ch,.rd (.pointer (some ⟨w0.heap.size,0,none⟩)),.rd (.int .i64 k.p),.rd (.pointer (some ⟨w0.heap.size+1,1,none⟩)),.rd (.slice Ca a.mc.length fa),.rd (.pointer (some ⟨w0.heap.size,0,none⟩)),.rd (.int .i64 k.p),.rd (.pointer (some ⟨w0.heap.size,1,none⟩)),.rd (.slice A k.al.length c),.rd (.int .i64 x),.ch,.ch,.ch,.ch] (fun _=>False)
  [⟨[],fun _ w'=>wz.drew.grownBy w' none⟩,
   ⟨[25],fun l w'=>row1 lo a.sh.length (cstS k.p a.sh x) (l.getD 0 undef) w'∧wz.drew.grownBy w' none⟩,
   ⟨[25,35],fun l w'=>row1 lo a.sh.length (cstS k.p a.sh x) (l.getD 0 undef) w'∧row1 lo k.al.length (sclS k.p k.al x) (l.getD 1 undef) w'∧wz.drew.grownBy w' none⟩,
   ⟨[25,36],fun l w'=>row2 lo a.sh.length a.mc.length (cstS k.p a.sh x) (addS k.p a.mc (sclS k.p k.al x)) (l.getD 0 undef) (l.getD 1 undef) w'∧wz.drew.grownBy w' none⟩,
   ⟨[37],fun l w'=>autF lo ⟨(cstS k.p a.sh x),(addS k.p a.mc (sclS k.p k.al x))⟩ (l.getD 0 undef) w'∧wz.drew.grownBy w' none⟩,
   ⟨[],fun _ w'=>(∃A9 n9 c9 B9 k9 d9,autF lo ⟨(cstS k.p a.sh x),(addS k.p a.mc (sclS k.p k.al x))⟩ (.agg #[.slice A9 n9 c9,.slice B9 k9 d9]) w'∧Blk w' gR 80 #[.slice A9 n9 c9,.slice B9 k9 d9])∧wz.heap.size≤w'.heap.size∧w0.grownBy w' none⟩]
  (by kernel_rfl) (by kernel_rfl) (by kernel_rfl) 5 (by kernel_rfl) (by simp only [flOk,and_true]) (gbR _ _) rfl ?_ ?_
 ·simp only [hopsK,hopK,Kd.next,and_true]
  refine ⟨?_, ?_, ?_, ?_, ?_, ?_, ?_, ?_, ?_, ?_, ?_, ?_, ?_, ?_, ?_, ?_, ?_, ?_, ?_⟩;rotate_left 5
  ·intro f w4 hG hI hd
   have hI:wz.drew.grownBy w4 none:=hI;have hg4:=gbT (gbD (gbR wz none)) hI;have hz4:=hg4.size
   (try simp at hd)
   (first | simp [hd] | simp)
   clear hd;go_wp2_with fail;refine (VS k.p x Ba a.sh.length da a.sh w4 EA1.out EX.out (ISa'.out.grow hg4) LN0.out LN1.out).mono ?_;rintro e w6 ⟨v6,rfl,o6,g6⟩;have O6:=zH (ZQ o6 (show lo≤w4.heap.size by omega));have G6:=zH (gbT hI g6);have Q6:=zH g6;clear o6 g6;go_wp2_with fail;exact ⟨_,rfl,⟨row1.of O6.out,G6.out⟩,⟨Chg.of Q6.out (by simp),by simp [keepsC]⟩⟩
  rotate_left 9
  ·intro f w4 hG hI hd
   obtain ⟨h1,hI⟩:=hI;have H1:Hid (row1 lo a.sh.length (cstS k.p a.sh x) (f 25) w4):=zH h1;have hg4:=gbT (gbD (gbR wz none)) hI;have hz4:=hg4.size;clear h1
   (try simp at hd)
   (first | simp [hd] | simp)
   clear hd;go_wp2_with fail;refine (Xd k.p x A k.al.length c k.al w4 EK.out EX.out (IK'.out.grow hg4) LN3.out).mono ?_;rintro e w6 ⟨v6,rfl,o6,g6⟩;have O6:=zH (ZQ o6 (show lo≤w4.heap.size by omega));have R6:=zH (H1.out.grow g6);have G6:=zH (gbT hI g6);have Q6:=zH g6;clear o6 g6;go_wp2_with fail;exact ⟨_,rfl,⟨R6.out,row1.of O6.out,G6.out⟩,⟨Chg.of Q6.out (by simp),by simp [keepsC]⟩⟩
  ·intro f w4 hG hI hd
   obtain ⟨h1,h2,hI⟩:=hI;have H1:Hid (row1 lo a.sh.length (cstS k.p a.sh x) (f 25) w4):=zH h1;have h2:row1 lo k.al.length (sclS k.p k.al x) (f 35) w4:=h2;obtain ⟨A2,c2,e2,o2⟩:=h2;rw [e2] at o2;have I2:=zH (show Ints w4 A2 k.al.length (sclS k.p k.al x) from Rd.ofOwn o2);have hg4:=gbT (gbD (gbR wz none)) hI;have hz4:=hg4.size;clear h1 o2
   (try simp at hd)
   simp [puts,dsts,Act.put,hd,e2];clear hd e2;go_wp2_with fail;refine (XD k.p Ca A2 a.mc.length k.al.length fa c2 a.mc (sclS k.p k.al x) w4 LK1.out EA2.out ESC.out (IMa'.out.grow hg4) I2.out LN2.out).mono ?_;rintro e w6 ⟨v6,rfl,o6,g6⟩;have R6:=zH (row2.of H1.out g6 (show lo≤w4.heap.size by omega) o6);have G6:=zH (gbT hI g6);have Q6:=zH g6;clear o6 g6;go_wp2_with fail;exact ⟨_,rfl,⟨R6.out,G6.out⟩,⟨Chg.of Q6.out (by simp),by simp [keepsC]⟩⟩
  ·intro f w4 hG hI hd
   obtain ⟨h1,hI⟩:=hI;have h1:row2 lo a.sh.length a.mc.length (cstS k.p a.sh x) (addS k.p a.mc (sclS k.p k.al x)) (f 25) (f 36) w4:=h1;have HA:=h1.agg;obtain ⟨A1,c1,e1⟩:=h1.f1;obtain ⟨A2,c2,e2⟩:=h1.f2;rw [e1,e2] at HA;have HA:=zH HA;clear h1 hd;simp [puts,dsts,Act.put,e1,e2];go_wp2_with fail;exact ⟨_,rfl,⟨HA.out,hI⟩,⟨Chg.refl _ _,by simp [keepsC]⟩⟩
  ·intro f w4 hG hI hd
   obtain ⟨h1,hI⟩:=hI;have h1:autF lo ⟨(cstS k.p a.sh x),(addS k.p a.mc (sclS k.p k.al x))⟩ (f 37) w4:=h1;obtain ⟨A9,n9,c9,B9,k9,d9,e9⟩:=h1.form;rw [e9] at h1;have hg4:=gbT (gbD (gbR wz none)) hI;have R4:=(D3'.out).grow hg4;have f0:=R4.frozen 0;have f1:=R4.frozen 1;have b0:=R4.cell 0;have b1:=R4.cell 1;simp at b0 b1;have RS:=zH (Zh R4 [.slice A9 n9 c9,.slice B9 k9 d9] rfl);have CH:=Zc gR [.slice A9 n9 c9,.slice B9 k9 d9] 0 w4;have AS:=zH (h1.chg CH hgR);have GS:=zH (Zv (gbT GW.out hg4) CH hwR);have ZS:=zH (Nat.le_trans hg4.size CH.size);clear R4 h1 hI CH
   (try simp at hd)
   simp [puts,dsts,Act.put,e9];go_wp2_with fail;exact ⟨rfl,.bool false,⟨A9,n9,c9,B9,k9,d9,AS.out,RS.out⟩,ZS.out,GS.out⟩
  all_goals
   intro f w4 hG hd;have hg4:=gbT (gbD (gbR wz none)) (chgF hG);have k0:=(D0'.out.grow hg4).cell 0;have k3:=(D0'.out.grow hg4).cell 1;have k1:=(D1'.out.grow hg4).cell 0;have k2:=(D1'.out.grow hg4).cell 1;simp at k0 k1 k2 k3
   (try simp at hd)
   (first | simp [hd] | simp)
   clear hd;go_wp2_with fail;exact ⟨rfl,rfl⟩
 intro f w9 hI hd;obtain ⟨⟨A9,n9,c9,B9,k9,d9,hAU,hBR⟩,_,hGZ⟩:=hI;simp only [puts,dsts,Act.put,zB,zC,zA,zD,zE];clear hd;go_wp2_with fail;refine Yo Tryz.results116 (by rfl) stAuth (cs:=#[.slice A9 n9 c9,.slice B9 k9 d9]) hBR (by rfl) (by rfl) ?_;exact ⟨_,rfl,by rw [HFO.out];exact autF.lo hAU (by omega),hGZ⟩
end Go.Proofs.YthaadgdeadbhkaaGreat
