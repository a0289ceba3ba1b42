/-
 FnEngine: the walk.
-/
import Derived.Test.YtapljpcpmdlppaaMgFnCheated41
import Derived.Test.YtapljpcpmdlppaaMgFnCheated42
import Derived.Test.YtapljpcpmdlppaaMgFnCheated13
import Derived.Test.YtapljpcpmdlppaaMgFnCheated14
namespace Go.Proofs.Ytapljpcpmdlppaa
open Go.RowKit
set_option linter.unusedVariables false
set_option linter.unusedSimpArgs false
theorem newB_yes2 {k : KM} {c : AM} {P s a : Nat} {ins : List Int} (hf : Fit k c P ins) (hs : s < 4294967296) (ha : a ≤ 900000) : newB k c ins s a = true:=by
 unfold newB
 rw [hf.kb,arithB_yes hf.ok,hf.el,hf.len,hf.pp]
 have:=tape_yes hs (show a ≤ 1000000 by omega)
 simp [this]
 omega
theorem AOk.wf9 {m : AM} (h : AOk m) : m.wf:=by
 obtain ⟨hp1,hp2⟩:=field_range h.fld
 refine ⟨⟨by omega,by omega⟩,fun z hz => ?_,fun z hz => ?_⟩
 ·obtain ⟨j,hj⟩:=List.mem_iff_getElem?.1 hz
  have hlt:=(List.getElem?_eq_some_iff.1 hj).1
  have hs:=h.steps j hlt
  have he : stAt m j = z:=by unfold stAt; rw [List.getD_eq_getElem?_getD,hj]; rfl
  rw [he] at hs
  have hl:=h.few
  obtain ⟨x,y,u⟩:=z
  simp only [stepB] at hs
  unfold w3 i64w
  simp only
  split at hs
  ·simp [inB] at hs; omega
  ·split at hs
   ·have:=elemB_is (p:=m.p) (a:=y) (by simp at hs; exact hs.1)
    simp at hs
    omega
   ·split at hs
    ·simp [inB] at hs; omega
    ·cases hs
 ·have hs:=h.outs z hz
  have hl:=h.few
  simp [inB] at hs
  unfold i64w
  omega
theorem amwf_of {m : AM} (h : AOk m) (ho : m.outs.length ≤ 3) : amwf m:=⟨AOk.wf9 h,by have:=h.few; omega,by omega⟩
theorem kwf_of {k : KM} (h : keysB k = true) : kwf k:=by
 obtain ⟨hf,_,h1,h5⟩:=keys_is h
 have:=field_range hf
 refine ⟨?_,by omega⟩
 unfold i64w
 omega
theorem elems_nil {p : Int} (h : fieldB p = true) : elemsB p [] = true:=elemsB_mk h (by simp)
set_option maxHeartbeats 4000000 in
set_option maxRecDepth 100000 in
theorem FnEngine.walk (w : World) (A : Option Addr) (n c : Nat) (zs : List Int) (hz : IntsK .u8 w A n zs) (hm : n ≤ maxLen) :
  Calls Try.prog 17 #[.slice A n c] w fun e w' => e = .returned (.bool true) ∧ w.grownBy w' none:=by
 unfold maxLen at hm
 by_cases hbig : 1048576 < n
 ·have hd : decide (1048576 < n) = true:=by simp; omega
  go_enter Try.func17,Try.ntmps17
  go_wp2_with fail
  refine (big_c _ A n c (by omega)).mono ?_
  rintro e w1 ⟨rfl,rfl⟩
  go_wp2_with fail
  go_ret
  exact ⟨rfl,gbR _ _⟩
 ·have hd : decide (1048576 < n) = false:=by simp; omega
  have H:=Lib.hid (bytesIn hz (by omega))
  clear hz
  go_enter Try.func17,Try.ntmps17
  go_wp2_with fail
  refine (big_c _ A n c (by omega)).mono ?_
  rintro e w1 ⟨rfl,rfl⟩
  rw [hd]
  clear hd hbig hm
  go_wp2_with fail
  refine (DrawComputation_c _ A n c zs H.out).mono ?_
  rintro e w1 ⟨KA,A1,A2,I,kc,n1,s1,n2,s2,ci,k,m,ins,P,s,a,rfl,hf,hp,hst,hou,hs,ha,hk,hc,hi,hci,hg⟩
  have HF:=Lib.hid hf
  have HK:=Lib.hid hk
  have HC:=Lib.hid hc
  have HI:=Lib.hid hi
  have G1:=Lib.hid hg
  have WF:=Lib.hid (AOk.wf9 hf.ok)
  clear hf hp hst hk hc hi hg
  obtain ⟨wu,hwu⟩ : ∃ x : World,((w1.alloc (.cells #[.int .i64 k.p,.slice KA k.al.length kc] 65)).alloc (.cells #[.int .i64 m.p,.slice A1 n1 s1,.slice A2 n2 s2] 30)).alloc (.cells #[.int .i64 s,.int .i64 a] 75) = x:=⟨_,rfl⟩
  have GU : Hid (w1.grownBy wu none):=by rw [← hwu]; exact Lib.hid (gbA (gbA (gbA (gbR _ _) _) _) _)
  have B3 : Hid (Blk wu w1.heap.size 65 #[.int .i64 k.p,.slice KA k.al.length kc]):=by rw [← hwu]; exact Lib.hid (((Blk.new w1 _ _).grow (gbA (gbR _ _) _)).grow (gbA (gbR _ _) _))
  have B4 : Hid (Blk wu (w1.heap.size + 1) 30 #[.int .i64 m.p,.slice A1 n1 s1,.slice A2 n2 s2]):=by rw [← hwu]; exact Lib.hid ((Blk.new' _ _ _ _ (by simp)).grow (gbA (gbR _ _) _))
  have B6 : Hid (Blk wu (w1.heap.size + 1 + 1) 75 #[.int .i64 s,.int .i64 a]):=by rw [← hwu]; exact Lib.hid (Blk.new' _ _ _ _ (by simp))
  have k0:=B3.out.cell 0
  have k1:=B3.out.cell 1
  have x0:=B4.out.cell 0
  have x1:=B4.out.cell 1
  have x2:=B4.out.cell 2
  have y0:=B6.out.cell 0
  have y1:=B6.out.cell 1
  simp only [List.getElem?_toArray,List.getElem?_cons_succ,List.getElem?_cons_zero] at k0 k1 x0 x1 x2 y0 y1
  go_wp2_with fail
  clear hwu k0 k1 x0 x1 x2 y0 y1
  refine (specEvalArith_c m _ I 60 ci ins wu (HC.out.grow GU.out) WF.out (HI.out.grow GU.out) (by omega) (by omega)).mono ?_
  rintro e w3 ⟨V3,rfl,o3,g3⟩
  have hev : EvOk m ins:=⟨HF.out.ok,HF.out.len,HF.out.el⟩
  rw [evB_yes hev]
  obtain ⟨xs,hxs⟩ : ∃ l,evR m ins = l:=⟨_,rfl⟩
  have hxl : xs.length ≤ 3:=by rw [← hxs]; have:=evR_len m ins; omega
  have HXS:=Lib.hid hxs
  rw [hxs] at o3
  obtain ⟨V,cV,rfl,_,_⟩:=own_form o3
  have I3:=Lib.hid (show Ints w3 V xs.length xs from Rd.ofOwn o3)
  have G3:=Lib.hid (gbT GU.out g3)
  have C3:=Lib.hid (B3.out.grow g3)
  have C4:=Lib.hid (B4.out.grow g3)
  have C6:=Lib.hid (B6.out.grow g3)
  have k0:=C3.out.cell 0
  have k1:=C3.out.cell 1
  have x0:=C4.out.cell 0
  have x1:=C4.out.cell 1
  have x2:=C4.out.cell 2
  have y0:=C6.out.cell 0
  have y1:=C6.out.cell 1
  simp only [List.getElem?_toArray,List.getElem?_cons_succ,List.getElem?_cons_zero] at k0 k1 x0 x1 x2 y0 y1
  have k0':=fun o => kA k0 o
  have k1':=fun o => kA k1 o
  have x0':=fun o => kA x0 o
  have x1':=fun o => kA x1 o
  have x2':=fun o => kA x2 o
  have y0':=fun o => kA y0 o
  have y1':=fun o => kA y1 o
  clear o3 g3 hxs hev B3 B4 B6
  go_wp2_with fail
  clear k0 k1 x0 x1 x2 y0 y1 k0' k1' x0' x1' x2' y0' y1'
  have hel:=elems_nil (HF.out.fld)
  obtain ⟨hr1,hr2⟩:=run_right (s:=s) HF.out hel (fun i _ => by simp [errAt])
  have HR1:=Lib.hid hr1
  have HR2:=Lib.hid hr2
  clear hr1 hr2
  have hgl3 : w3.grownBy (w3.alloc (.cells #[] 3)) none:=gbA (gbR _ _) _
  obtain ⟨w4,hw4⟩ : ∃ x : World,w3.alloc (.cells #[] 3) = x:=⟨_,rfl⟩
  rw [hw4] at hgl3
  rw [hw4]
  have G4:=Lib.hid (gbT G3.out hgl3)
  have D3:=Lib.hid (C3.out.grow hgl3)
  have D4:=Lib.hid (C4.out.grow hgl3)
  have D6:=Lib.hid (C6.out.grow hgl3)
  have I4:=Lib.hid (I3.out.grow hgl3)
  clear hw4 hgl3 C3 C4 C6 I3
  refine (implEngineRun_yes k m P s a I (some ⟨w3.heap.size,0,none⟩) ci 0 0 ins [] _ _ w4 (HK.out.grow G4.out) (HC.out.grow G4.out) (HI.out.grow G4.out) Ints.none' (kwf_of HF.out.kb) (amwf_of HF.out.ok hou) HF.out hel hs (by omega) (by omega) (by omega)).mono ?_
  rintro e w5 ⟨V5,rfl,o5,g5⟩
  rw [HR1.out]
  rw [HR2.out,HXS.out] at o5
  obtain ⟨V',cV',rfl,_,_⟩:=own_form o5
  have I5:=Lib.hid (show Ints w5 V' xs.length xs from Rd.ofOwn o5)
  have I45:=Lib.hid (I4.out.grow g5)
  have G5:=Lib.hid (gbT G4.out g5)
  have E3:=Lib.hid (D3.out.grow g5)
  have E4:=Lib.hid (D4.out.grow g5)
  have E6:=Lib.hid (D6.out.grow g5)
  have k0:=E3.out.cell 0
  have k1:=E3.out.cell 1
  have x0:=E4.out.cell 0
  have x1:=E4.out.cell 1
  have x2:=E4.out.cell 2
  have y0:=E6.out.cell 0
  have y1:=E6.out.cell 1
  simp only [List.getElem?_toArray,List.getElem?_cons_succ,List.getElem?_cons_zero] at k0 k1 x0 x1 x2 y0 y1
  clear o5 g5 D3 D4 D6 I4 hel
  go_wp2_with fail
  clear k0 k1 x0 x1 x2 y0 y1
  refine (implEngineNew_yes k m P s a I ci ins _ _ w5 (HK.out.grow G5.out) (HC.out.grow G5.out) (HI.out.grow G5.out) (kwf_of HF.out.kb) (amwf_of HF.out.ok hou) HF.out.pn (newB_yes2 HF.out hs (by omega))).mono ?_
  rintro e w6 ⟨v6,rfl,o6,g6⟩
  obtain ⟨e0,he0⟩ : ∃ x,engNew k m P s ins = x:=⟨_,rfl⟩
  have hat : At (PF k) k m 0 e0:=by rw [← he0]; exact engAt_zero (s1:=s) (s2:=s) (es:=[]) HF.out PF.pc fun i a h => Good.form h
  have OKB:=Lib.hid (hat.okB HF.out (fun i a h => h) (by have:=rounds_bd m; omega))
  have HRD:=Lib.hid hat.rd
  have WE:=Lib.hid (show ewf e0 by rw [← he0]; exact ewf_new HF.out (kwf_of HF.out.kb) (amwf_of HF.out.ok hou))
  rw [he0] at o6
  obtain ⟨QA,QB,QC,QD,QE,qa,qb,qc,qd,qe,rfl⟩:=o6.eng
  obtain ⟨F6,o6,_⟩:=o6
  have AG:=Lib.hid o6.rd
  have I6:=Lib.hid (I5.out.grow g6)
  have I46:=Lib.hid (I45.out.grow g6)
  have G6:=Lib.hid (gbT G5.out g6)
  clear o6 g6 hat he0 E3 E4 E6 I5 I45
  obtain ⟨w7,hw7⟩ : ∃ x : World,w6.alloc (.cells #[.int .i64 e0.k.p,.slice QA e0.k.al.length qa,.int .i64 e0.c.p,.slice QB e0.c.st.length qb,.slice QC e0.c.outs.length qc,.slice QD e0.vs.length qd,.slice QE e0.op.length qe,.int .i64 e0.rd,.bool e0.bad] 68) = x:=⟨_,rfl⟩
  have B11 : Hid (Blk w7 w6.heap.size 68 #[.int .i64 e0.k.p,.slice QA e0.k.al.length qa,.int .i64 e0.c.p,.slice QB e0.c.st.length qb,.slice QC e0.c.outs.length qc,.slice QD e0.vs.length qd,.slice QE e0.op.length qe,.int .i64 e0.rd,.bool e0.bad]):=by rw [← hw7]; exact Lib.hid (Blk.new _ _ _)
  have hg7 : w6.grownBy w7 none:=by rw [← hw7]; exact gbA (gbR _ _) _
  have I7:=Lib.hid (I6.out.grow hg7)
  have I47:=Lib.hid (I46.out.grow hg7)
  have AG7:=Lib.hid (AG.out.grow hg7)
  have G7:=Lib.hid (gbT G6.out hg7)
  clear hg7
  go_wp2_with fail
  try rw [hw7]
  clear hw7
  refine (sameInts_c V V' xs.length xs.length cV cV' xs xs w7 I47.out I7.out (by omega) (by omega)).mono ?_
  rintro e w8 ⟨rfl,q,rfl⟩
  have hxx : (xs == xs) = true:=by simp
  rw [hxx]
  have hg8:=gbDN (gbR w7 none) q
  have B8:=B11.out.grow hg8
  have AG8:=Lib.hid (AG7.out.grow hg8)
  have G8:=Lib.hid (gbT G7.out hg8)
  obtain ⟨w8,hw8⟩ : ∃ x,w7.drewN q = x:=⟨_,rfl⟩
  rw [hw8] at B8 AG8 G8 ⊢
  have z0:=B8.cell 0
  have z1:=B8.cell 1
  have z2:=B8.cell 2
  have z3:=B8.cell 3
  have z4:=B8.cell 4
  have z5:=B8.cell 5
  have z6:=B8.cell 6
  have z7:=B8.cell 7
  have z8:=B8.cell 8
  simp only [List.getElem?_toArray,List.getElem?_cons_succ,List.getElem?_cons_zero] at z0 z1 z2 z3 z4 z5 z6 z7 z8
  have B8:=Lib.hid B8
  clear hg8 hw8 hxx
  go_wp2_with fail
  clear z0 z1 z2 z3 z4 z5 z6 z7 z8
  refine (implEngineOk_c e0 _ w8 AG8.out WE.out).mono ?_
  rintro e w9 ⟨rfl,g9⟩
  rw [OKB.out]
  have z7:=(B8.out.grow g9).cell 7
  simp only [List.getElem?_toArray,List.getElem?_cons_succ,List.getElem?_cons_zero] at z7
  rw [HRD.out] at z7
  have G9:=Lib.hid (gbT G1.out (gbT G8.out g9))
  clear g9
  go_wp2_with fail
  go_ret
  exact ⟨rfl,G9.out⟩
end Go.Proofs.Ytapljpcpmdlppaa
/-
 OutcomeOf of the program.
-/
namespace Go.Proofs.Ytapljpcpmdlppaa
open Go.RowKit
set_option linter.unusedVariables false
set_option linter.unusedSimpArgs false
theorem engRound_c (e : EM) (ts : List TrM) (es : List Int) : (engRound e ts es).c = e.c:=by
 unfold engRound
 split
 ·exact (roundTo_fix e ts es (mulsOf e) (mulsOf e).length).2.1
 ·rfl
theorem engAt_c (k : KM) (c : AM) (P s1 s2 : Nat) (ins es : List Int) : ∀ r,(engAt k c P s1 s2 ins es r).c = c
 | 0 => rfl
 | r + 1 => by rw [engAt,engRound_c]; exact engAt_c k c P s1 s2 ins es r
theorem outR_len (e : EM) : (outR e).length ≤ e.c.outs.length:=by
 unfold outR
 split
 ·rw [List.length_map]; exact Nat.le_refl _
 ·simp
theorem run_len (k : KM) (m : AM) (P s : Nat) (ins es : List Int) : (outR (runAt k m P s ins es)).length ≤ m.outs.length:=by
 have:=outR_len (runAt k m P s ins es)
 rw [show (runAt k m P s ins es).c = m from engAt_c ..] at this
 exact this
open Classical in
noncomputable def ocN (k : KM) (m : AM) (P s : Nat) (ins es : List Int) : Nat:=if outB (runAt k m P s ins es) = true then (if outR (runAt k m P s ins es) = evR m ins then 0 else 2) else 1
theorem ocN_lt (k : KM) (m : AM) (P s : Nat) (ins es : List Int) : ocN k m P s ins es < 3:=by
 unfold ocN
 split
 ·split <;> omega
 ·omega
set_option maxHeartbeats 2000000 in
set_option maxRecDepth 100000 in
theorem implOutcomeOf_yes (k : KM) (m : AM) (P s a : Nat) (I R : Option Addr) (ci nr cr : Nat) (ins es : List Int) (kv cv : Value) (w0 : World) (h : AggR w0 (ckeys k) kv) (hc : AggR w0 (carith m) cv) (hi : Ints w0 I 60 ins) (he : Ints w0 R nr es) (wk : kwf k) (wc : amwf m) (hf : Fit k m P ins) (hes : elemsB k.p es = true) (hs : s < 4294967296) (ha : a ≤ 900000) (hnr : nr ≤ 1048576) (hcr : nr ≤ cr) :
  Calls Try.prog 79 #[kv,cv,.slice I 60 ci,.agg #[.int .i64 s,.int .i64 a],.slice R nr cr] w0 fun e w' => e = .returned (.int .i64 (ocN k m P s ins es)) ∧ w0.grownBy w' none:=by
 obtain ⟨KA,kc,rfl,_,_,_⟩:=ckeys_sl h
 obtain ⟨u1,u2,rfl,c1,c2⟩:=carith_open hc
 obtain ⟨A1,n1,rfl,_,_,_⟩:=plst_rd (s:=3) (fun _ => rfl) (by omega) c1
 obtain ⟨A2,n2,rfl,_,_,_⟩:=cints_rd c2
 have HK:=Lib.hid h
 have HC:=Lib.hid hc
 have HI:=Lib.hid hi
 have HE:=Lib.hid he
 have WK:=Lib.hid wk
 have WC:=Lib.hid wc
 have HF:=Lib.hid hf
 have HS:=Lib.hid hes
 have hev : EvOk m ins:=⟨hf.ok,hf.len,hf.el⟩
 have HEV:=Lib.hid hev
 clear h hc hi he wk wc hf hes c1 c2 hev
 go_enter Try.func79,Try.ntmps79
 go_wp2_with fail
 obtain ⟨wu,hwu⟩ : ∃ x : World,((w0.alloc (.cells #[.int .i64 k.p,.slice KA k.al.length kc] 65)).alloc (.cells #[.int .i64 m.p,.slice A1 m.st.length n1,.slice A2 m.outs.length n2] 30)).alloc (.cells #[.int .i64 s,.int .i64 a] 75) = x:=⟨_,rfl⟩
 have GU : Hid (w0.grownBy wu none):=by rw [← hwu]; exact Lib.hid (gbA (gbA (gbA (gbR _ _) _) _) _)
 have B4 : Hid (Blk wu (w0.heap.size + 1) 30 #[.int .i64 m.p,.slice A1 m.st.length n1,.slice A2 m.outs.length n2]):=by rw [← hwu]; exact Lib.hid ((Blk.new' _ _ _ _ (by simp)).grow (gbA (gbR _ _) _))
 try rw [hwu]
 clear hwu
 refine (implEngineRun_yes k m P s a I R ci nr cr ins es _ _ wu (HK.out.grow GU.out) (HC.out.grow GU.out) (HI.out.grow GU.out) (HE.out.grow GU.out) WK.out WC.out HF.out HS.out hs ha hnr hcr).mono ?_
 rintro e w3 ⟨V3,rfl,o3,g3⟩
 obtain ⟨xs,hxs⟩ : ∃ l,outR (runAt k m P s ins es) = l:=⟨_,rfl⟩
 rw [hxs] at o3
 have hxl : xs.length ≤ 1048576:=by rw [← hxs]; exact Nat.le_trans (run_len ..) WC.out.outs
 have HXS:=Lib.hid hxs
 have G3:=Lib.hid (gbT GU.out g3)
 have C4:=Lib.hid (B4.out.grow g3)
 have x0:=C4.out.cell 0
 have x1:=C4.out.cell 1
 have x2:=C4.out.cell 2
 simp only [List.getElem?_toArray,List.getElem?_cons_succ,List.getElem?_cons_zero] at x0 x1 x2
 obtain ⟨V,cV,rfl,_,hxm⟩:=own_form o3
 have I3:=Lib.hid (show Ints w3 V xs.length xs from Rd.ofOwn o3)
 clear g3 hxs o3 B4
 cases hb : outB (runAt k m P s ins es)
 ·have HO : Hid (ocN k m P s ins es = 1):=by unfold Hid ocN; rw [hb]; rfl
  clear hb
  go_wp2_with fail
  go_ret
  exact ⟨by rw [HO.out]; rfl,G3.out⟩
 ·have HB:=Lib.hid hb
  clear hb
  go_wp2_with fail
  clear x0 x1 x2
  refine (implEvalArith_c m _ I 60 ci ins w3 (HC.out.grow G3.out) WC.out.wf (HI.out.grow G3.out) (by omega) WC.out.outs).mono ?_
  rintro e w5 ⟨V5,rfl,o5,g5⟩
  obtain ⟨ys,hys⟩ : ∃ l,evR m ins = l:=⟨_,rfl⟩
  have hyl : ys.length ≤ 1048576:=by rw [← hys]; exact Nat.le_trans (evR_len m ins) WC.out.outs
  rw [hys] at o5
  have HYS:=Lib.hid hys
  obtain ⟨V',cV',rfl,_,_⟩:=own_form o5
  have I5:=Lib.hid (show Ints w5 V' ys.length ys from Rd.ofOwn o5)
  have I35:=Lib.hid (I3.out.grow g5)
  have G5:=Lib.hid (gbT G3.out g5)
  clear o5 g5 hys
  unfold maxLen at hxm
  go_wp2_with fail
  refine (same_c V V' xs.length ys.length cV cV' xs ys w5 I35.out I5.out (by omega) (by omega)).mono ?_
  rintro e w6 ⟨rfl,q,rfl⟩
  have G6:=Lib.hid (gbDN G5.out q)
  by_cases hxy : xs = ys
  ·have HO : Hid (ocN k m P s ins es = 0):=by unfold Hid ocN; rw [HB.out,HXS.out,HYS.out,if_pos rfl,if_pos hxy]
   have hd : (xs == ys) = true:=by simp [hxy]
   rw [hd]
   clear hxy hd
   go_wp2_with fail
   go_ret
   exact ⟨by rw [HO.out]; rfl,G6.out⟩
  ·have HO : Hid (ocN k m P s ins es = 2):=by unfold Hid ocN; rw [HB.out,HXS.out,HYS.out,if_pos rfl,if_neg hxy]
   have hd : (xs == ys) = false:=by simp [hxy]
   rw [hd]
   clear hxy hd
   go_wp2_with fail
   go_ret
   exact ⟨by rw [HO.out]; rfl,G6.out⟩
end Go.Proofs.Ytapljpcpmdlppaa
/-
 CountOutcomes of the program.
-/
namespace Go.Proofs.Ytapljpcpmdlppaa
open Go.RowKit
set_option linter.unusedVariables false
set_option linter.unusedSimpArgs false
noncomputable def cntO (m : AM) (P s : Nat) (ins es : List Int) : Nat → Nat → Nat
 | 0,_ => 0
 | x + 1,j => cntO m P s ins es x j + if ocN ⟨(P : Int),[(x : Int)]⟩ m P s ins es = j then 1 else 0
theorem cntO_le (m : AM) (P s : Nat) (ins es : List Int) (j : Nat) : ∀ x,cntO m P s ins es x j ≤ x
 | 0 => Nat.le_refl _
 | x + 1 => by
  have:=cntO_le m P s ins es j x
  rw [cntO]
  split <;> omega
noncomputable def row3 (m : AM) (P s : Nat) (ins es : List Int) (x : Nat) : List Int:=[(cntO m P s ins es x 0 : Int),(cntO m P s ins es x 1 : Int),(cntO m P s ins es x 2 : Int)]
theorem keys_one {P x : Nat} (hf : fieldB (P : Int) = true) (hx : x < P) : keysB ⟨(P : Int),[(x : Int)]⟩ = true:=by
 unfold keysB
 simp only
 rw [elemsB_mk hf (by intro a ha; simp at ha; omega)]
 rfl
set_option maxHeartbeats 4000000 in
set_option maxRecDepth 100000 in
theorem implCountOutcomes_yes (mst : List Stp) (mou : List Int) (P s a : Nat) (I R : Option Addr) (ci nr cr : Nat) (ins es : List Int) (cv : Value) (w0 : World) (hc : AggR w0 (carith ⟨(P : Int),mst,mou⟩) cv) (hi : Ints w0 I 60 ins) (he : Ints w0 R nr es) (hok : AOk ⟨(P : Int),mst,mou⟩) (ho : mou.length ≤ 1048576) (hil : ins.length = 60) (hel : elemsB (P : Int) ins = true) (hes : elemsB (P : Int) es = true) (hs : s < 4294967296) (ha : a ≤ 900000) (hnr : nr ≤ 1048576) (hcr : nr ≤ cr) :
  Calls Try.prog 77 #[cv,.slice I 60 ci,.agg #[.int .i64 s,.int .i64 a],.slice R nr cr] w0 fun e w' => ∃ g c,e = .returned (.slice (some ⟨g,0,none⟩) 3 c) ∧ Ints w' (some ⟨g,0,none⟩) 3 (row3 ⟨(P : Int),mst,mou⟩ P s ins es P) ∧ w0.grownBy w' none:=by
 obtain ⟨u1,u2,rfl,c1,c2⟩:=carith_open hc
 obtain ⟨A1,n1,rfl,_,_,_⟩:=plst_rd (s:=3) (fun _ => rfl) (by omega) c1
 obtain ⟨A2,n2,rfl,_,_,_⟩:=cints_rd c2
 have HC:=Lib.hid hc
 have HI:=Lib.hid hi
 have HE:=Lib.hid he
 have OK:=Lib.hid hok
 have AB:=Lib.hid (arithB_yes hok)
 have WF:=Lib.hid (AOk.wf9 hok)
 have WC:=Lib.hid (show amwf ⟨(P : Int),mst,mou⟩ from ⟨WF.out,by have h9:=hok.few; exact Nat.le_trans h9 (by omega),ho⟩)
 have HEL:=Lib.hid hel
 have HES:=Lib.hid hes
 have HFL:=Lib.hid (show fieldB (P : Int) = true from hok.fld)
 obtain ⟨p2,p101⟩:=field_range HFL.out
 clear hc hi he hok hel hes c1 c2
 go_enter Try.func77,Try.ntmps77
 go_wp2_with fail
 obtain ⟨wu,hwu⟩ : ∃ x : World,(w0.alloc (.cells #[.int .i64 P,.slice A1 mst.length n1,.slice A2 mou.length n2] 30)).alloc (.cells #[.int .i64 s,.int .i64 a] 75) = x:=⟨_,rfl⟩
 have GU : Hid (w0.grownBy wu none):=by rw [← hwu]; exact Lib.hid (gbA (gbA (gbR _ _) _) _)
 have B4 : Hid (Blk wu w0.heap.size 30 #[.int .i64 P,.slice A1 mst.length n1,.slice A2 mou.length n2]):=by rw [← hwu]; exact Lib.hid ((Blk.new w0 _ _).grow (gbA (gbR _ _) _))
 have B6 : Hid (Blk wu (w0.heap.size + 1) 75 #[.int .i64 s,.int .i64 a]):=by rw [← hwu]; exact Lib.hid (Blk.new' _ _ _ _ (by simp))
 try rw [hwu]
 clear hwu
 refine (implArithOk_c ⟨(P : Int),mst,mou⟩ _ _ (HC.out.grow GU.out) WF.out).mono ?_
 rintro e wb ⟨rfl,g3⟩
 rw [AB.out]
 have GB:=Lib.hid (gbT GU.out g3)
 have C4:=Lib.hid (B4.out.grow g3)
 have C6:=Lib.hid (B6.out.grow g3)
 clear g3 B4 B6 GU
 go_wp2_with (at_make; refine wp_makeN _ el_int rfl _ _ rfl 3 rfl rfl (by omega) (by unfold maxLen; omega) ?_; intro w6 o6 g6)
 rw [show (Value.int IntKind.i64 0).cells = #[.int .i64 0] from rfl,made_one] at o6
 have e6 : (row3 ⟨(P : Int),mst,mou⟩ P s ins es 0).map (Value.int .i64) = List.replicate 3 (.int .i64 0):=by simp [row3,cntO,List.replicate]
 obtain ⟨gO,hgO'⟩ : ∃ g,wb.heap.size = g:=⟨_,rfl⟩
 have hgO : wb.heap.size ≤ gO:=by omega
 have O6 : Hid (w6.ownsRow wb.heap.size 3 1 (.slice (some ⟨gO,0,none⟩) 3 3) 3 ((row3 ⟨(P : Int),mst,mou⟩ P s ins es 0).map (Value.int .i64))):=by rw [← hgO',e6]; exact Lib.hid o6
 have G6:=Lib.hid g6
 try rw [hgO']
 clear o6 g6 e6
 go_loopw [10] (fun i wr => ∃ x : Nat,x ≤ P ∧ i = .int .i64 x ∧ Hid (wr.ownsRow wb.heap.size 3 1 (.slice (some ⟨gO,0,none⟩) 3 3) 3 ((row3 ⟨(P : Int),mst,mou⟩ P s ins es x).map (Value.int .i64))) ∧ Hid (wb.grownBy wr none)) (fun i _ => P - (intOf i).toNat)
 case atStart => exact ⟨0,Nat.zero_le _,rfl,O6,G6⟩
 case round =>
  clear O6 G6
  obtain ⟨x,hx,rfl,ROW,G6⟩:=hrel
  have x0:=(C4.out.grow G6.out).cell 0
  have x1:=(C4.out.grow G6.out).cell 1
  have x2:=(C4.out.grow G6.out).cell 2
  have y0:=(C6.out.grow G6.out).cell 0
  have y1:=(C6.out.grow G6.out).cell 1
  simp only [List.getElem?_toArray,List.getElem?_cons_succ,List.getElem?_cons_zero] at x0 x1 x2 y0 y1
  by_cases hlt : x < P
  ·have i1 : (x : Int) < (P : Int):=by omega
   have x0':=fun o => kA x0 o
   have x1':=fun o => kA x1 o
   have x2':=fun o => kA x2 o
   have y0':=fun o => kA y0 o
   have y1':=fun o => kA y1 o
   go_wp2_with fail
   clear x0 x1 x2 y0 y1 x0' x1' x2' y0' y1'
   have hg5 : wr.grownBy (wr.alloc (.cells #[.int .i64 x] 3)) none:=gbA (gbR _ _) _
   have hlit : (cints [(x : Int)]).rd (wr.alloc (.cells #[.int .i64 x] 3)) (.slice (some ⟨wr.heap.size,0,none⟩) 1 1):=CS.toRd _ (cints_own (World.ownsRow_lit (base:=0) wr #[.int .i64 x] 1 (Nat.zero_le _) (by unfold maxLen; omega) rfl))
   have hkw:=ckeys_mk (m:=⟨(P : Int),[(x : Int)]⟩) hlit
   have HF : Fit ⟨(P : Int),[(x : Int)]⟩ ⟨(P : Int),mst,mou⟩ P ins:=⟨keys_one HFL.out hlt,OK.out,rfl,rfl,hil,HEL.out⟩
   refine (implOutcomeOf_yes ⟨(P : Int),[(x : Int)]⟩ ⟨(P : Int),mst,mou⟩ P s a I R ci nr cr ins es _ _ _ hkw (HC.out.grow (gbT GB.out (gbT G6.out hg5))) (HI.out.grow (gbT GB.out (gbT G6.out hg5))) (HE.out.grow (gbT GB.out (gbT G6.out hg5))) (kwf_of HF.kb) WC.out HF HES.out hs ha hnr hcr).mono ?_
   rintro e w7 ⟨rfl,g7⟩
   have hoc3:=ocN_lt ⟨(P : Int),[(x : Int)]⟩ ⟨(P : Int),mst,mou⟩ P s ins es
   obtain ⟨oc,hoc'⟩ : ∃ o,ocN ⟨(P : Int),[(x : Int)]⟩ ⟨(P : Int),mst,mou⟩ P s ins es = o:=⟨_,rfl⟩
   rw [hoc'] at hoc3
   rw [hoc']
   have HOC:=Lib.hid hoc'
   have G7:=Lib.hid (gbT G6.out (gbT hg5 g7))
   have hrow:=own_grow ROW.out (gbT hg5 g7)
   have hk0:=cntO_le ⟨(P : Int),mst,mou⟩ P s ins es 0 x
   have hk1:=cntO_le ⟨(P : Int),mst,mou⟩ P s ins es 1 x
   have hk2:=cntO_le ⟨(P : Int),mst,mou⟩ P s ins es 2 x
   unfold row3 at hrow
   obtain ⟨k0,hc0⟩ : ∃ z,cntO ⟨(P : Int),mst,mou⟩ P s ins es x 0 = z:=⟨_,rfl⟩
   obtain ⟨k1,hc1⟩ : ∃ z,cntO ⟨(P : Int),mst,mou⟩ P s ins es x 1 = z:=⟨_,rfl⟩
   obtain ⟨k2,hc2⟩ : ∃ z,cntO ⟨(P : Int),mst,mou⟩ P s ins es x 2 = z:=⟨_,rfl⟩
   rw [hc0,hc1,hc2] at hrow
   rw [hc0] at hk0
   rw [hc1] at hk1
   rw [hc2] at hk2
   have HC0:=Lib.hid hc0
   have HC1:=Lib.hid hc1
   have HC2:=Lib.hid hc2
   have ROW7:=Lib.hid hrow
   clear hoc' g7 hg5 hlit hkw HF hrow hc0 hc1 hc2 ROW G6
   rcases (by omega : oc = 0 ∨ oc = 1 ∨ oc = 2) with hoc | hoc | hoc
   ·
    have hO : ocN ⟨(P : Int),[(x : Int)]⟩ ⟨(P : Int),mst,mou⟩ P s ins es = 0:=HOC.out.trans hoc
    have HN : Hid (row3 ⟨(P : Int),mst,mou⟩ P s ins es (x + 1) = [(k0 : Int) + 1,(k1 : Int),(k2 : Int)]):=by
     unfold Hid row3
     rw [cntO,cntO,cntO,hO]
     simp [HC0.out,HC1.out,HC2.out]
    subst hoc
    have v0:=ROW7.out.cellAt 0 (by omega)
    have fz:=ROW7.out.frozenAt 0
    simp at v0
    have hst:=Lib.hid (ROW7.out.stored 0 (.int .i64 ((k0 : Int) + 1)))
    clear hO
    go_wp2_with fail
    have hst':=hst.out
    simp only [List.map_cons,List.map_nil,List.set_cons_zero,List.set_cons_succ] at hst'
    have L1 : Hid (World.ownsRow _ wb.heap.size 3 1 (.slice (some ⟨gO,0,none⟩) 3 3) 3 ((row3 ⟨(P : Int),mst,mou⟩ P s ins es (x + 1)).map (Value.int .i64))):=Lib.hid (by rw [HN.out]; simp only [List.map_cons,List.map_nil]; exact hst'.1)
    have L2:=Lib.hid (gbS G7.out (p:=⟨gO,0,none⟩) hgO (.int .i64 ((k0 : Int) + 1)))
    clear v0 fz hst hst'
    go_roundw
    case rel => exact ⟨x + 1,by omega,by go_num,L1,L2⟩
    case measure => simp [intOf]; omega
   ·
    have hO : ocN ⟨(P : Int),[(x : Int)]⟩ ⟨(P : Int),mst,mou⟩ P s ins es = 1:=HOC.out.trans hoc
    have HN : Hid (row3 ⟨(P : Int),mst,mou⟩ P s ins es (x + 1) = [(k0 : Int),(k1 : Int) + 1,(k2 : Int)]):=by
     unfold Hid row3
     rw [cntO,cntO,cntO,hO]
     simp [HC0.out,HC1.out,HC2.out]
    subst hoc
    have v0:=ROW7.out.cellAt 1 (by omega)
    have fz:=ROW7.out.frozenAt 1
    simp at v0
    have hst:=Lib.hid (ROW7.out.stored 1 (.int .i64 ((k1 : Int) + 1)))
    clear hO
    go_wp2_with fail
    have hst':=hst.out
    simp only [List.map_cons,List.map_nil,List.set_cons_zero,List.set_cons_succ] at hst'
    have L1 : Hid (World.ownsRow _ wb.heap.size 3 1 (.slice (some ⟨gO,0,none⟩) 3 3) 3 ((row3 ⟨(P : Int),mst,mou⟩ P s ins es (x + 1)).map (Value.int .i64))):=Lib.hid (by rw [HN.out]; simp only [List.map_cons,List.map_nil]; exact hst'.1)
    have L2:=Lib.hid (gbS G7.out (p:=⟨gO,1,none⟩) hgO (.int .i64 ((k1 : Int) + 1)))
    clear v0 fz hst hst'
    go_roundw
    case rel => exact ⟨x + 1,by omega,by go_num,L1,L2⟩
    case measure => simp [intOf]; omega
   ·
    have hO : ocN ⟨(P : Int),[(x : Int)]⟩ ⟨(P : Int),mst,mou⟩ P s ins es = 2:=HOC.out.trans hoc
    have HN : Hid (row3 ⟨(P : Int),mst,mou⟩ P s ins es (x + 1) = [(k0 : Int),(k1 : Int),(k2 : Int) + 1]):=by
     unfold Hid row3
     rw [cntO,cntO,cntO,hO]
     simp [HC0.out,HC1.out,HC2.out]
    subst hoc
    have v0:=ROW7.out.cellAt 2 (by omega)
    have fz:=ROW7.out.frozenAt 2
    simp at v0
    have hst:=Lib.hid (ROW7.out.stored 2 (.int .i64 ((k2 : Int) + 1)))
    clear hO
    go_wp2_with fail
    have hst':=hst.out
    simp only [List.map_cons,List.map_nil,List.set_cons_zero,List.set_cons_succ] at hst'
    have L1 : Hid (World.ownsRow _ wb.heap.size 3 1 (.slice (some ⟨gO,0,none⟩) 3 3) 3 ((row3 ⟨(P : Int),mst,mou⟩ P s ins es (x + 1)).map (Value.int .i64))):=Lib.hid (by rw [HN.out]; simp only [List.map_cons,List.map_nil]; exact hst'.1)
    have L2:=Lib.hid (gbS G7.out (p:=⟨gO,2,none⟩) hgO (.int .i64 ((k2 : Int) + 1)))
    clear v0 fz hst hst'
    go_roundw
    case rel => exact ⟨x + 1,by omega,by go_num,L1,L2⟩
    case measure => simp [intOf]; omega
  ·have hxp : x = P:=by omega
   subst hxp
   have RI:=Lib.hid (show Ints wr (some ⟨gO,0,none⟩) 3 (row3 ⟨(x : Int),mst,mou⟩ x s ins es x) from Rd.ofOwn ROW.out)
   have GZ:=Lib.hid (gbT GB.out G6.out)
   clear x1 x2 y0 y1 ROW G6
   go_wp2_with fail
   go_ret
   exact ⟨gO,3,rfl,RI.out,GZ.out⟩
end Go.Proofs.Ytapljpcpmdlppaa
