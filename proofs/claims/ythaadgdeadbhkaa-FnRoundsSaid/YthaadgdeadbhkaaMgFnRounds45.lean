/-
  FnRounds: the walk.
-/
import Derived.Test.YthaadgdeadbhkaaMgFnRounds42
import Derived.Test.YthaadgdeadbhkaaMgFnRounds44
namespace Go.Proofs.Ythaadgdeadbhkaa
open Go.RowKit
set_option linter.unusedVariables false
set_option linter.unusedSimpArgs false
set_option maxHeartbeats 4000000 in
set_option maxRecDepth 100000 in
theorem FnRounds.walk (w : World) (A : Option Addr) (n c : Nat) (zs : List Int) (hz : IntsK .u8 w A n zs) (hm : n ≤ maxLen) :
    Calls Try.prog 3 #[.slice A n c] w fun e w' => e = .returned (.bool true) ∧ w.grownBy w' none := by
  unfold maxLen at hm
  by_cases hbig : 1048576 < n
  · have hd : decide (1048576 < n) = true := by simp; omega
    go_enter Try.func3, Try.ntmps3
    go_wp2_with fail
    refine (big_c _ A n c (by omega)).mono ?_
    rintro e w1 ⟨rfl, rfl⟩
    go_wp2_with fail
    go_ret
    exact ⟨rfl, gbR _ _⟩
  · have hd : decide (1048576 < n) = false := by simp; omega
    have H := Lib.hid (bytesIn hz (by omega))
    clear hz
    go_enter Try.func3, Try.ntmps3
    go_wp2_with fail
    refine (big_c _ A n c (by omega)).mono ?_
    rintro e w1 ⟨rfl, rfl⟩
    rw [hd]
    clear hd hbig hm
    go_wp2_with fail
    refine (DrawComputation_c _ A n c zs H.out).mono ?_
    rintro e w1 ⟨KA, A1, A2, I, kc, n1, s1, n2, s2, ci, k, m, ins, P, s, a, rfl, hf, hp, hst, hou, hs, ha, hk, hc, hi, hci, hg⟩
    obtain ⟨A1', A2', s1', s2', hce⟩ : ∃ A1' A2' s1' s2', (Value.agg #[.int .i64 m.p, .slice A1 n1 s1, .slice A2 n2 s2]) = .agg #[.int .i64 m.p, .slice A1' m.st.length s1', .slice A2' m.outs.length s2'] := by
      obtain ⟨u1, u2, e1, q1, q2⟩ := carith_open hc
      obtain ⟨B1, d1, e2, _, _, _⟩ := plst_rd (s := 3) (fun _ => rfl) (by omega) q1
      obtain ⟨B2, d2, e3, _, _, _⟩ := cints_rd q2
      exact ⟨B1, B2, d1, d2, by rw [e1, e2, e3]⟩
    injection hce with hce
    injection hce with hce
    simp only [List.cons.injEq, Value.slice.injEq, true_and, and_true] at hce
    obtain ⟨⟨rfl, rfl, rfl⟩, rfl, rfl, rfl⟩ := hce
    have HF := Lib.hid hf
    have HK := Lib.hid hk
    have HC := Lib.hid hc
    have HI := Lib.hid hi
    have G1 := Lib.hid hg
    have WF := Lib.hid (AOk.wf9 hf.ok)
    have WK := Lib.hid (kwf_of hf.kb)
    have WC := Lib.hid (amwf_of hf.ok hou)
    have KB := Lib.hid hf.kb
    have HPN := Lib.hid hf.pn
    have HST := hf.ok.few
    clear hf hp hst hou hk hc hi hg
    obtain ⟨wu, hwu⟩ : ∃ x : World, ((w1.alloc (.cells #[.int .i64 k.p, .slice KA k.al.length kc] 26)).alloc (.cells #[.int .i64 m.p, .slice A1 m.st.length s1, .slice A2 m.outs.length s2] 29)).alloc (.cells #[.int .i64 s, .int .i64 a] 31) = x := ⟨_, rfl⟩
    have GU : Hid (w1.grownBy wu none) := by rw [← hwu]; exact Lib.hid (gbA (gbA (gbA (gbR _ _) _) _) _)
    have B3 : Hid (Blk wu w1.heap.size 26 #[.int .i64 k.p, .slice KA k.al.length kc]) := by rw [← hwu]; exact Lib.hid (((Blk.new w1 _ _).grow (gbA (gbR _ _) _)).grow (gbA (gbR _ _) _))
    have B4 : Hid (Blk wu (w1.heap.size + 1) 29 #[.int .i64 m.p, .slice A1 m.st.length s1, .slice A2 m.outs.length s2]) := by rw [← hwu]; exact Lib.hid ((Blk.new' _ _ _ _ (by simp)).grow (gbA (gbR _ _) _))
    have B6 : Hid (Blk wu (w1.heap.size + 1 + 1) 31 #[.int .i64 s, .int .i64 a]) := by rw [← hwu]; exact Lib.hid (Blk.new' _ _ _ _ (by simp))
    have k0 := B3.out.cell 0
    have k1 := B3.out.cell 1
    have x0 := B4.out.cell 0
    have x1 := B4.out.cell 1
    have x2 := B4.out.cell 2
    have y0 := B6.out.cell 0
    have y1 := B6.out.cell 1
    simp only [List.getElem?_toArray, List.getElem?_cons_succ, List.getElem?_cons_zero] at k0 k1 x0 x1 x2 y0 y1
    go_wp2_with fail
    clear hwu k0 k1 x0 x1 x2 y0 y1
    refine (implEngineNew_yes k m P s a I ci ins _ _ wu (HK.out.grow GU.out) (HC.out.grow GU.out) (HI.out.grow GU.out) WK.out WC.out HPN.out (newB_yes2 HF.out hs (by omega))).mono ?_
    rintro e w6 ⟨v6, rfl, o6, g6⟩
    obtain ⟨e0, he0⟩ : ∃ x, engNew k m P s ins = x := ⟨_, rfl⟩
    have RS0 : Hid (RSt k m P ins 0 e0) := by rw [← he0]; exact Lib.hid (RSt.zero HF.out WK.out WC.out)
    rw [he0] at o6
    obtain ⟨QA, QB, QC, QD, QE, qa, qb, qc, qd, qe, rfl⟩ := o6.eng
    obtain ⟨F6, o6, _⟩ := o6
    have HF6 : Hid (∀ x ∈ F6, x < w6.heap.size) := Lib.hid o6.lt
    have AG := Lib.hid o6
    have B3' := Lib.hid (B3.out.grow g6)
    have B4' := Lib.hid (B4.out.grow g6)
    have B6' := Lib.hid (B6.out.grow g6)
    have G6 := Lib.hid (gbT GU.out g6)
    clear o6 g6 he0 B3 B4 B6 GU
    have k0 := (B3'.out).cell 0
    have k1 := (B3'.out).cell 1
    have x0 := (B4'.out).cell 0
    have x1 := (B4'.out).cell 1
    have x2 := (B4'.out).cell 2
    simp only [List.getElem?_toArray, List.getElem?_cons_succ, List.getElem?_cons_zero] at k0 k1 x0 x1 x2
    have y0 := B6'.out.cell 0
    have y1 := B6'.out.cell 1
    simp only [List.getElem?_toArray, List.getElem?_cons_succ, List.getElem?_cons_zero] at y0 y1
    have k0' := fun o => kA k0 o
    have k1' := fun o => kA k1 o
    have x0' := fun o => kA x0 o
    have x1' := fun o => kA x1 o
    have x2' := fun o => kA x2 o
    have y0' := fun o => kA y0 o
    have y1' := fun o => kA y1 o
    obtain ⟨g7, hg7⟩ : ∃ x, w6.heap.size = x := ⟨_, rfl⟩
    obtain ⟨w7, hw7⟩ : ∃ x : World, w6.alloc (.cells #[.int .i64 e0.k.p, .slice QA e0.k.al.length qa, .int .i64 e0.c.p, .slice QB e0.c.st.length qb, .slice QC e0.c.outs.length qc, .slice QD e0.vs.length qd, .slice QE e0.op.length qe, .int .i64 e0.rd, .bool e0.bad] 36) = x := ⟨_, rfl⟩
    have SG0 : Hid (SOF 36 (cengine e0) g7 F6 w7) := by rw [← hw7, ← hg7]; exact Lib.hid (SOF.made (vs := [_, _, _, _, _, _, _, _, _]) (Blk.new _ _ _) (AG.out.grow (gbA (gbR _ _) _)) (fun h => by have := HF6.out _ h; omega))
    have hg67 : w6.grownBy w7 none := by rw [← hw7]; exact gbA (gbR _ _) _
    have G7 := Lib.hid (gbT G6.out hg67)
    have hw1g7 : w1.heap.size + 3 ≤ g7 := by have h1 := B6'.out.lt; omega
    have B3 := Lib.hid (B3'.out.grow hg67)
    have B4 := Lib.hid (B4'.out.grow hg67)
    have B6 := Lib.hid (B6'.out.grow hg67)
    have hs7 : w7.heap.size = g7 + 1 := by rw [← hw7, ← hg7]; simp
    have HW7 := Lib.hid hw7
    have HG7 := Lib.hid hg7
    clear B3' B4' B6' G6 AG HF6 hg67 hw7 hg7
    go_wp2_with fail
    try rw [HW7.out]
    try rw [HG7.out]
    clear HW7 HG7 k0 k1 x0 x1 x2 y0 y1 k0' k1' x0' x1' x2' y0' y1'
    refine (specMulDepth_c m _ w7 (HC.out.grow G7.out) WF.out).mono ?_
    rintro e w8 ⟨VD, rfl, oD, gD⟩
    obtain ⟨D, dc, rfl, hLD, _⟩ := own_form oD
    have LD : Hid (∀ b, D = some b → w7.heap.size ≤ b.block ∧ b.block < w8.heap.size) := Lib.hid (fun b hb => by
      obtain ⟨_, _, h1, h2⟩ := hLD b hb
      exact ⟨h1, h2⟩)
    have ID := Lib.hid (show Ints w8 D (mdepth m).length (mdepth m) from Rd.ofOwn oD)
    have hDl : (mdepth m).length = m.st.length := mdepth_len HF.out.ok
    have HDL := Lib.hid hDl
    have SG1 := Lib.hid (SG0.out.grow gD)
    have G8 := Lib.hid (gbT G7.out gD)
    have B3' := Lib.hid (B3.out.grow gD)
    have B4' := Lib.hid (B4.out.grow gD)
    have B6' := Lib.hid (B6.out.grow gD)
    have hs8 := gD.size
    clear oD gD SG0 G7 B3 B4 B6 hDl
    have k0 := (B3'.out).cell 0
    have k1 := (B3'.out).cell 1
    have x0 := (B4'.out).cell 0
    have x1 := (B4'.out).cell 1
    have x2 := (B4'.out).cell 2
    simp only [List.getElem?_toArray, List.getElem?_cons_succ, List.getElem?_cons_zero] at k0 k1 x0 x1 x2
    have y0 := B6'.out.cell 0
    have y1 := B6'.out.cell 1
    simp only [List.getElem?_toArray, List.getElem?_cons_succ, List.getElem?_cons_zero] at y0 y1
    go_wp2_with fail
    have HW := Lib.hid (rfl : w8.heap.size = w8.heap.size)
    obtain ⟨g10, hg10⟩ : ∃ x, w8.heap.size = x := ⟨_, rfl⟩
    obtain ⟨wd, hwd⟩ : ∃ x : World, w8.alloc (.cells #[.int .i64 s, .int .i64 a] 31) = x := ⟨_, rfl⟩
    have hgd : w8.grownBy wd none := by rw [← hwd]; exact gbA (gbR _ _) _
    have TG0 : Hid (Blk wd g10 31 #[.int .i64 s, .int .i64 ((a + totM m 0 * trW k : Nat) : Int)]) := by rw [← hwd, ← hg10, totM_zero, Nat.zero_mul, Nat.add_zero]; exact Lib.hid (Blk.new _ _ _)
    have SGd := Lib.hid (SG1.out.grow hgd)
    have IDd := Lib.hid (ID.out.grow hgd)
    have BK := Lib.hid (B3'.out.grow hgd)
    have BA := Lib.hid (B4'.out.grow hgd)
    have GD := Lib.hid (gbT G8.out hgd)
    have hgg : g7 < g10 := by omega
    have hdl : g10 < wd.heap.size := by rw [← hwd, ← hg10]; simp
    have HDD : Hid (∀ b, D = some b → 0 < (mdepth m).length → b.block ≠ g7 ∧ b.block ≠ g10) := Lib.hid (fun b hb hp => by
      obtain ⟨b', o', e', hb', _⟩ := ID.out.2 hp
      have := LD.out b hb
      subst hb
      omega)
    rw [hwd, hg10]
    clear hwd hg10 hs7 hs8 k0 k1 x0 x1 x2 y0 y1 SG1 ID B3' B4' B6' G8 hgd HW
    obtain ⟨Rd, hRd⟩ : ∃ x, rounds m = x := ⟨_, rfl⟩
    have hrr := rounds_bd m
    rw [hRd] at hrr
    have HRD := Lib.hid hRd
    clear hRd
    obtain ⟨dl, hdl⟩ : ∃ x, (mdepth m).length = x := ⟨_, rfl⟩
    rw [hdl] at IDd HDD HDL ⊢
    have HDLB := Lib.hid hdl
    clear hdl
    go_loopw [11] (fun i wr => ∃ (r : Nat) (e : EM) (F : List Nat), (r : Int) ≤ Rd ∧ i = .int .i64 r ∧ Hid (RSt k m P ins r e) ∧ Hid (SOF 36 (cengine e) g7 F wr) ∧ Hid (Blk wr g10 31 #[.int .i64 s, .int .i64 ((a + totM m r * trW k : Nat) : Int)]) ∧ Hid (Chg (fun y => y = g7 ∨ y = g10) wd wr)) (fun i _ => 61 - (intOf i).toNat)
    case atStart => exact ⟨0, e0, F6, by omega, rfl, RS0, SGd, TG0, Chg.refl _ _⟩
    case round =>
      clear RS0 SGd TG0
      obtain ⟨r, e, F, hr, rfl, RS, SG, TG, CH⟩ := hrel
      have GR := Lib.hid (gbChg GD.out CH.out (fun y hy => by rcases hy with h6 | h6 <;> omega))
      have BKr := Lib.hid (BK.out.chg CH.out (by omega))
      have BAr := Lib.hid (BA.out.chg CH.out (by omega))
      have k0 := (BKr.out).cell 0
      have k1 := (BKr.out).cell 1
      have x0 := (BAr.out).cell 0
      have x1 := (BAr.out).cell 1
      have x2 := (BAr.out).cell 2
      simp only [List.getElem?_toArray, List.getElem?_cons_succ, List.getElem?_cons_zero] at k0 k1 x0 x1 x2
      by_cases hlt : (r : Int) < Rd
      · go_wp2_with fail
        clear k0 k1 x0 x1 x2
        refine (specRoundsOf_c m _ wr (HC.out.grow GR.out) WF.out).mono ?_
        rintro e' w5 ⟨rfl, g5⟩
        rw [HRD.out]
        have G5 := Lib.hid g5
        go_wp2_with fail
        clear g5
        obtain ⟨g17, hg17⟩ : ∃ x, w5.heap.size = x := ⟨_, rfl⟩
        obtain ⟨wl, hwl⟩ : ∃ x : World, w5.alloc (.cells #[] 46) = x := ⟨_, rfl⟩
        have hgl : wr.grownBy wl none := by rw [← hwl]; exact gbA G5.out _
        have TL0 : Hid (TL wd.heap.size (trsN k P s (a + totM m r * trW k) 0) (.slice (some ⟨g17, 0, none⟩) 0 0) wl) := by
          rw [← hwl, ← hg17]
          exact Lib.hid ⟨[], World.ownsRow_lit w5 #[] 0 (Nat.le_trans CH.out.size G5.out.size) (by omega) rfl, OwnE.nil _⟩
        have SG0 := Lib.hid (SG.out.grow hgl)
        have TG0 : Hid (Blk wl g10 31 #[.int .i64 s, .int .i64 ((a + totM m r * trW k + 0 * trW k : Nat) : Int)]) := by rw [Nat.zero_mul, Nat.add_zero]; exact Lib.hid (TG.out.grow hgl)
        have CH0 := Lib.hid (CH.out.trans (Chg.of hgl (by simp)))
        rw [hwl, hg17]
        clear hwl hg17 hgl SG TG CH GR BKr BAr G5
        obtain ⟨ns, hns⟩ : ∃ x, (mulsAt m ((r : Int) + 1)).length = x := ⟨_, rfl⟩
        have hns60 : ns ≤ 60 := by rw [← hns]; exact mulsAt_few _ _
        have HNS := Lib.hid hns
        have hT60 : totM m r ≤ 60 := totM_bd HF.out.ok (by rw [HRD.out]; exact hr)
        have hTW := trW_bd KB.out
        have hA := Nat.mul_le_mul hT60 hTW
        clear hns
        obtain ⟨wo, rfl⟩ : ∃ wo : World, wo = wr := ⟨_, rfl⟩
        go_loopw [12, 13] (fun t i wr => ∃ (j : Nat), j ≤ ns ∧ i = .int .i64 j ∧ Hid (TL wd.heap.size (trsN k P s (a + totM m r * trW k) j) t wr) ∧ Hid (SOF 36 (cengine e) g7 F wr) ∧ Hid (Blk wr g10 31 #[.int .i64 s, .int .i64 ((a + totM m r * trW k + j * trW k : Nat) : Int)]) ∧ Hid (Chg (fun y => y = g7 ∨ y = g10) wd wr)) (fun _ i _ => ns - (intOf i).toNat)
        case atStart => exact ⟨0, Nat.zero_le _, rfl, TL0, SG0, TG0, CH0⟩
        case round =>
          clear TL0 SG0 TG0 CH0
          obtain ⟨j, hj, rfl, TLj, SG, TG, CH⟩ := hrel
          have GR := Lib.hid (gbChg GD.out CH.out (fun y hy => by rcases hy with h6 | h6 <;> omega))
          have BKr := Lib.hid (BK.out.chg CH.out (by omega))
          have BAr := Lib.hid (BA.out.chg CH.out (by omega))
          have k0 := (BKr.out).cell 0
          have k1 := (BKr.out).cell 1
          have x0 := (BAr.out).cell 0
          have x1 := (BAr.out).cell 1
          have x2 := (BAr.out).cell 2
          simp only [List.getElem?_toArray, List.getElem?_cons_succ, List.getElem?_cons_zero] at k0 k1 x0 x1 x2
          go_wp2_with fail
          clear k0 k1 x0 x1 x2
          refine (specMulsAt_c m ((r : Int) + 1) _ wr (HC.out.grow GR.out) WF.out).mono ?_
          rintro e' wm ⟨vS, rfl, oS, gS⟩
          rw [HNS.out] at oS
          obtain ⟨S, cs, rfl, _, _⟩ := own_form oS
          have SGm := Lib.hid (SG.out.grow gS)
          have TGm := Lib.hid (TG.out.grow gS)
          have TLm := Lib.hid (TLj.out.grow gS)
          have GM := Lib.hid (gbT GR.out gS)
          have CHm := Lib.hid (CH.out.trans (Chg.of gS (by simp)))
          have BKm := Lib.hid (BKr.out.grow gS)
          clear oS gS SG TG TLj GR CH BKr BAr
          by_cases hjl : j < ns
          · have i1 : (j : Int) < (ns : Int) := by omega
            obtain ⟨vs, hrow, hvs⟩ := TLm.out
            rw [trsN_len] at hrow
            obtain ⟨AT', cT, rfl, _, _⟩ := own_form hrow
            have ROW := Lib.hid hrow
            have VS := Lib.hid hvs
            have hB := Nat.mul_le_mul (show j ≤ 60 by omega) hTW
            obtain ⟨aj, haj⟩ : ∃ x, a + totM m r * trW k + j * trW k = x := ⟨_, rfl⟩
            rw [haj] at TGm
            have HAJ := Lib.hid haj
            have haj8 : aj ≤ 800000 := by omega
            have k0 := BKm.out.cell 0
            have k1 := BKm.out.cell 1
            have t0 := TGm.out.cell 0
            have t1 := TGm.out.cell 1
            simp only [List.getElem?_toArray, List.getElem?_cons_succ, List.getElem?_cons_zero] at k0 k1 t0 t1
            clear hrow hvs haj TLm
            go_wp2_with fail
            clear k0 k1 t0 t1
            refine (specTripleNew_yes k P s aj _ wm (HK.out.grow GM.out) WK.out KB.out HPN.out hs haj8).mono ?_
            rintro e' wt ⟨v, rfl, o, gt⟩
            obtain ⟨tn, htn⟩ : ∃ x, tripleNew k P s aj = x := ⟨_, rfl⟩
            rw [htn] at o
            obtain ⟨X0, x0, X1, x1, X2, x2, X3, x3, X4, x4, X5, x5, rfl, hus⟩ := o.open
            have US := Lib.hid hus
            have HTN := Lib.hid htn
            obtain ⟨aj', haj'⟩ : ∃ x, aj + 2 + 6 * (k.al.length - 1) = x := ⟨_, rfl⟩
            have HAJ' : Hid (a + totM m r * trW k + (j + 1) * trW k = aj') := by
              unfold Hid
              rw [← haj', ← HAJ.out, Nat.succ_mul]
              unfold trW
              omega
            rw [haj']
            have TGt := Lib.hid (TGm.out.grow gt)
            obtain ⟨wv, hwv⟩ : ∃ x : World, (wt.alloc (.cells #[.slice X0 tn.a.sh.length x0, .slice X1 tn.a.mc.length x1, .slice X2 tn.b.sh.length x2, .slice X3 tn.b.mc.length x3, .slice X4 tn.c.sh.length x4, .slice X5 tn.c.mc.length x5] 46)).alloc (.cells #[.int .i64 s, .int .i64 aj'] 31) = x := ⟨_, rfl⟩
            have gu : wt.grownBy wv none := by rw [← hwv]; exact gbA (gbA (gbR _ _) _) _
            have TGv := TGt.out.grow gu
            have MV : Blk wv wt.heap.size 46 #[.slice X0 tn.a.sh.length x0, .slice X1 tn.a.mc.length x1, .slice X2 tn.b.sh.length x2, .slice X3 tn.b.mc.length x3, .slice X4 tn.c.sh.length x4, .slice X5 tn.c.mc.length x5] := by rw [← hwv]; exact (Blk.new _ _ _).grow (gbA (gbR _ _) _)
            have NV : Blk wv (wt.heap.size + 1) 31 #[.int .i64 s, .int .i64 aj'] := by rw [← hwv]; exact Blk.new' _ _ _ _ (by simp)
            have nv0 := NV.cell 0
            have nv1 := NV.cell 1
            have hTt := TGt.out.lt
            have CHu := chg_setCells g10 [.int .i64 s, .int .i64 aj'] 0 wv
            have TZ := blk_setCells TGv [.int .i64 s, .int .i64 aj'] rfl
            have gwv := gbT gt gu
            obtain ⟨wu, hwu⟩ : ∃ x, setCells wv g10 0 [.int .i64 s, .int .i64 aj'] = x := ⟨_, rfl⟩
            rw [hwu] at CHu TZ
            have ROWU := Lib.hid (own_typ (own_grow ROW.out gwv) CHu (fun y hy _ => by subst hy; exact ⟨_, _, TGv, by decide⟩))
            have VSU := Lib.hid ((VS.out.grow gwv).typ (ctriples_ty _) CHu (fun y hy _ => by subst hy; exact ⟨_, _, TGv, by decide⟩))
            have USU := Lib.hid ((US.out.grow gu).typ (by intro c hc; exact ctriple_ty tn c hc) CHu (fun y hy _ => by subst hy; exact ⟨_, _, TGv, by decide⟩))
            have SGU := Lib.hid (SOF.typ (SGm.out.grow gwv) CHu (fun y hy _ => by subst hy; exact ⟨_, _, TGv, by decide, by decide⟩))
            have CHU := Lib.hid ((CHm.out.trans (Chg.of gwv (by simp))).trans (CHu.mono (fun y hy => .inr hy)))
            have MU := MV.chg CHu (by omega)
            have m0' := MU.cell 0
            have m1' := MU.cell 1
            have m2' := MU.cell 2
            have m3' := MU.cell 3
            have m4' := MU.cell 4
            have m5' := MU.cell 5
            have f0 := TGv.frozen 0
            have f1 := TGv.frozen 1
            have t0 := TGv.cell 0
            have t1 := TGv.cell 1
            simp only [List.getElem?_toArray, List.getElem?_cons_succ, List.getElem?_cons_zero] at m0' m1' m2' m3' m4' m5' t0 t1 nv0 nv1
            have hwu' := hwu
            simp only [setCells, Nat.zero_add, Nat.reduceAdd] at hwu'
            have TZ := Lib.hid TZ
            have hbu : wd.heap.size ≤ wu.heap.size := CHU.out.size
            clear gt o hus htn haj' gu TGv MV NV CHu gwv hwu MU TGt TGm SGm CHm US VS ROW
            go_wp2_with (at_builtin; refine wp_appendG wu wu.heap.size rfl elTriple rfl (.tmp 62) (.tmp 64) rfl #[.slice X0 tn.a.sh.length x0, .slice X1 tn.a.mc.length x1, .slice X2 tn.b.sh.length x2, .slice X3 tn.b.mc.length x3, .slice X4 tn.c.sh.length x4, .slice X5 tn.c.mc.length x5] rfl (by simp [Value.oneCell']) wd.heap.size (.slice AT' j cT) j vs ROWU.out rfl rfl (by unfold maxLen; omega) (by omega) hbu ?_; intro v' w9 o9 g9' k9; have CHA : Chg (fun y => (Value.slice AT' j cT).ownBlock = some y) wu w9 := (chgA wu _).trans (Chg.of g9' (fun y hy => hy)); obtain ⟨A6, c6, hv6, _⟩ := own_form o9; subst hv6; have O9 := Lib.hid o9; have CHA := Lib.hid CHA; clear o9 g9' k9)
            have hpush := TL.push (x := tn) (by rw [trsN_len]; exact ROWU.out) VSU.out USU.out (by rw [trsN_len]; exact O9.out) CHA.out
            have htr : trsN k P s (a + totM m r * trW k) j ++ [tn] = trsN k P s (a + totM m r * trW k) (j + 1) := by rw [trsN_succ, HAJ.out, HTN.out]
            rw [htr] at hpush
            have L1 := Lib.hid hpush
            have L2 := Lib.hid (SOF.typ SGU.out CHA.out (fun y hy _ => by obtain ⟨cur, hb, _⟩ := own_blk ROWU.out hy; exact ⟨_, _, hb, by decide, by decide⟩))
            have L3 : Hid (Blk w9 g10 31 #[.int .i64 s, .int .i64 ((a + totM m r * trW k + (j + 1) * trW k : Nat) : Int)]) := by rw [HAJ'.out]; exact Lib.hid (TZ.out.chg CHA.out (own_blk_ne9 ROWU.out TZ.out (by decide)))
            have L4 := Lib.hid (Chg.join CHU.out CHA.out (fun i hi => by obtain ⟨cur, _, hb⟩ := own_blk ROWU.out hi; exact .inr hb))
            clear hpush htr
            go_roundw
            case rel => exact ⟨j + 1, by omega, by go_num, L1, L2, L3, L4⟩
            case measure => simp [intOf]; omega
          · have hjn : j = ns := by omega
            subst hjn
            obtain ⟨vs, hrow, _⟩ := TLm.out
            rw [trsN_len] at hrow
            obtain ⟨AT', cT, rfl, _, _⟩ := own_form hrow
            have TLm := Lib.hid TLm.out.rd
            obtain ⟨A9, B9, C9, D9, E9, a9, b9, c9, d9', e9, hB9, hR9⟩ := SOF.eng SGm.out
            have v0 := (hB9).cell 0
            have v1 := (hB9).cell 1
            have v2 := (hB9).cell 2
            have v3 := (hB9).cell 3
            have v4 := (hB9).cell 4
            have v5 := (hB9).cell 5
            have v6 := (hB9).cell 6
            have v7 := (hB9).cell 7
            have v8 := (hB9).cell 8
            simp only [List.getElem?_toArray, List.getElem?_cons_succ, List.getElem?_cons_zero] at v0 v1 v2 v3 v4 v5 v6 v7 v8
            have R9 := Lib.hid hR9.al9
            have hgl := SGm.out.ltg
            have hB9 := Lib.hid hB9
            clear hrow hR9
            go_wp2_with fail
            clear v0 v1 v2 v3 v4 v5 v6 v7 v8
            obtain ⟨wx, hwx⟩ : ∃ x : World, wm.alloc (.cells #[] 3) = x := ⟨_, rfl⟩
            obtain ⟨gx, hgx⟩ : ∃ x, wm.heap.size = x := ⟨_, rfl⟩
            have hgw : wm.grownBy wx none := by rw [← hwx]; exact gbA (gbR _ _) _
            have R9x := Lib.hid (R9.out.grow hgw)
            have TLx := Lib.hid (CS.grow _ TLm.out hgw)
            have GWX := Lib.hid hgw
            rw [hwx]
            try rw [hgx]
            clear hwx hgw R9 TLm
            obtain ⟨e', he'⟩ : ∃ x, engRound e (trsN k P s (a + totM m r * trW k) j) [] = x := ⟨_, rfl⟩
            have RS' : Hid (RSt k m P ins (r + 1) e') := by
              rw [← he']
              have h1 := RSt.next (s2 := s) (a := a + totM m r * trW k) HF.out RS.out (by rw [HRD.out]; exact hlt)
              have h2 : nAt m r = j := HNS.out
              rw [h2] at h1
              exact Lib.hid h1
            refine (implEngineRound_c e (trsN k P s (a + totM m r * trW k) j) [] _ _ _ _ _ _ _ wx R9x.out TLx.out Ints.none' RS.out.wf (twf_trs KB.out) (by omega) (by omega)).mono ?_
            rintro e'' wy ⟨v6, rfl, o6, g6⟩
            rw [he'] at o6
            obtain ⟨A8, B8, C8, D8, E8, a8, b8, c8, d8, e8, rfl⟩ := o6.eng
            obtain ⟨F8, o8, l8⟩ := o6
            have gmy := gbT GWX.out g6
            have R4 := hB9.out.grow gmy
            have hgF := agg_ty (cengine_ty _) o8 R4 (by decide)
            have RSx := SOF.store R4 (us := [.int .i64 e'.k.p, .slice A8 e'.k.al.length a8, .int .i64 e'.c.p, .slice B8 e'.c.st.length b8, .slice C8 e'.c.outs.length c8, .slice D8 e'.vs.length d8, .slice E8 e'.op.length e8, .int .i64 e'.rd, .bool e'.bad]) rfl o8 hgF
            have CHy := chg_setCells g7 [.int .i64 e'.k.p, .slice A8 e'.k.al.length a8, .int .i64 e'.c.p, .slice B8 e'.c.st.length b8, .slice C8 e'.c.outs.length c8, .slice D8 e'.vs.length d8, .slice E8 e'.op.length e8, .int .i64 e'.rd, .bool e'.bad] 0 wy
            have TGy := TGm.out.grow gmy
            have CHz := (CHm.out.trans (Chg.of gmy (by simp))).trans (CHy.mono (fun y hy => .inl hy))
            have TGz := TGy.chg CHy (by omega)
            obtain ⟨wz, hwz⟩ : ∃ x, setCells wy g7 0 [.int .i64 e'.k.p, .slice A8 e'.k.al.length a8, .int .i64 e'.c.p, .slice B8 e'.c.st.length b8, .slice C8 e'.c.outs.length c8, .slice D8 e'.vs.length d8, .slice E8 e'.op.length e8, .int .i64 e'.rd, .bool e'.bad] = x := ⟨_, rfl⟩
            rw [hwz] at RSx CHz TGz
            obtain ⟨A7, B7, C7, D7, E7, a7, b7, c7, d7, e7, hB7, hR7⟩ := SOF.eng RSx
            have f0 := (R4).frozen 0
            have f1 := (R4).frozen 1
            have f2 := (R4).frozen 2
            have f3 := (R4).frozen 3
            have f4 := (R4).frozen 4
            have f5 := (R4).frozen 5
            have f6 := (R4).frozen 6
            have f7 := (R4).frozen 7
            have f8 := (R4).frozen 8
            have u0 := (R4).cell 0
            have u1 := (R4).cell 1
            have u2 := (R4).cell 2
            have u3 := (R4).cell 3
            have u4 := (R4).cell 4
            have u5 := (R4).cell 5
            have u6 := (R4).cell 6
            have u7 := (R4).cell 7
            have u8 := (R4).cell 8
            simp only [List.getElem?_toArray, List.getElem?_cons_succ, List.getElem?_cons_zero] at u0 u1 u2 u3 u4 u5 u6 u7 u8
            have z5 := (hB7).cell 5
            have z7 := (hB7).cell 7
            simp only [List.getElem?_toArray, List.getElem?_cons_succ, List.getElem?_cons_zero] at z5 z7
            have erd : e'.rd = (r : Int) + 1 := by have := RS'.out.at_.rd; rw [this]; omega
            have evl : e'.vs.length = dl := by rw [RS'.out.at_.post.len, HDL.out]
            rw [erd] at z7
            rw [evl] at z5
            have S9 := Lib.hid RSx
            have CHZ := Lib.hid CHz
            have TGZ := Lib.hid TGz
            have hwz' := hwz
            simp only [setCells, Nat.zero_add, Nat.reduceAdd] at hwz'
            have HERD := Lib.hid erd
            have HEVL := Lib.hid evl
            have hB7 := Lib.hid hB7
            clear o8 l8 g6 gmy R4 hgF RSx CHy TGy CHz TGz hwz hR7 erd evl he'
            go_wp2_with fail
            have IDz := Lib.hid (show Ints wz D dl (mdepth m) from Chg.rdk (w := wd) (w' := wz) IDd.out CHZ.out (fun hp b hb hs => by
              have h1 := HDD.out b hb hp
              rcases hs with h2 | h2
              · exact h1.1 h2
              · exact h1.2 h2))
            have BKz := Lib.hid (BK.out.chg CHZ.out (by omega))
            have GZ := Lib.hid (gbChg GD.out CHZ.out (fun y hy => by rcases hy with h6 | h6 <;> omega))
            obtain ⟨DL, hDL⟩ : ∃ x, mdepth m = x := ⟨_, rfl⟩
            have HMD := Lib.hid hDL
            rw [hDL] at IDz
            have HDL2 := HDL
            have HDLL : Hid (DL.length = dl) := Lib.hid (by rw [← hDL]; exact HDLB.out)
            clear z5 z7 u0 u1 u2 u3 u4 u5 u6 u7 u8 f0 f1 f2 f3 f4 f5 f6 f7 f8 hwz' hB7 hB9 hDL CHm TGm SGm TLx R9x GWX GM BKm
            go_loopw [16] (fun i wr => ∃ q : Nat, q ≤ dl ∧ i = .int .i64 q ∧ Hid (wz.grownBy wr none)) (fun i _ => dl - (intOf i).toNat)
            case atStart => exact ⟨0, Nat.zero_le _, rfl, gbR _ _⟩
            case round =>
              obtain ⟨q, hq, rfl, hg⟩ := hrel
              by_cases hql : q < dl
              · have i2 : (q : Int) < (dl : Int) := by omega
                obtain ⟨b, o, rfl, hb, hcc⟩ := IDz.out.at_ (by omega)
                have hlq : q < DL.length := by have := HDLL.out; omega
                have cD := gbk hg.out (hcc q hql)
                obtain ⟨dq, hdq⟩ : ∃ x, DL.getD q 0 = x := ⟨_, rfl⟩
                have hdq2 : depAt m q = dq := by rw [← hdq, ← HMD.out]; exact (depAt_md HF.out.ok q).symm
                rw [hdq] at cD
                have Sr := SOF.grow S9.out hg.out
                obtain ⟨D5, d5, F5, v5, f5, o5, m5, g5, lt5, _, _⟩ := Sr.val
                rw [HEVL.out] at v5 o5
                obtain ⟨gv, rfl, hgv⟩ := cauths_ptr o5 (by have := HEVL.out; omega)
                obtain ⟨X0, x0, X1, x1, e0', e1', _, _, AGq⟩ := cauths_el o5 (i := q) (by have := HEVL.out; omega)
                obtain ⟨aq, haq⟩ : ∃ x, getA e'.vs q = x := ⟨_, rfl⟩
                rw [haq] at e0' e1' AGq
                have ck0 := (BKz.out.grow hg.out).cell 0
                have ck1 := (BKz.out.grow hg.out).cell 1
                simp only [List.getElem?_toArray, List.getElem?_cons_succ, List.getElem?_cons_zero] at ck0 ck1
                have CD := Lib.hid cD
                have V5 := Lib.hid v5
                have E0 := Lib.hid e0'
                have E1 := Lib.hid e1'
                have CK0 := Lib.hid ck0
                have CK1 := Lib.hid ck1
                have AGQ := Lib.hid AGq
                have WQ : Hid (awf aq) := by rw [← haq]; exact Lib.hid (awf_at RS'.out.wf.vs q)
                have HKr := Lib.hid (HK.out.grow (gbT GZ.out hg.out))
                have hqm : q < m.st.length := by have := HDL2.out; omega
                have HAQ := Lib.hid haq
                have HDQ2 := Lib.hid hdq2
                clear cD v5 e0' e1' ck0 ck1 f5 o5 m5 g5 lt5 AGq Sr hdq hdq2 haq hcc hgv hb hlq
                by_cases hdl1 : dq ≤ (r : Int) + 1
                · obtain ⟨hfb, hmc⟩ := RS'.out.val (i := q) hqm (by rw [HDQ2.out]; omega)
                  rw [HAQ.out] at hfb hmc
                  have FB := Lib.hid hfb
                  have MC : Hid ((fsum k.p aq.mc == (fsum k.p aq.sh * fsum k.p k.al) % k.p) = true) := Lib.hid (by rw [hmc]; simp)
                  clear hfb hmc
                  go_wp2_with fail
                  refine region_grow [isV (.slice (some ⟨b, o, none⟩) dl dc), isV (.int .i64 q), isV (.pointer (some ⟨b, o + q, none⟩)), isV (.int .i64 dq), isV (.int .i64 r), isV (.int .i64 ((r : Int) + 1)), isV (.bool true), isV (.bool true), isV (.agg #[.int .i64 k.p, .slice KA k.al.length kc]), isV (.pointer (some ⟨g7, 5, none⟩)), isV (.slice (some ⟨gv, 0, none⟩) dl d5), isV (.int .i64 q), isV (.pointer (some ⟨gv, q * 2, none⟩)), isV (.agg #[.slice X0 aq.sh.length x0, .slice X1 aq.mc.length x1]), isV (.bool true), isV (.bool false), isV (.bool false)] (by kernel_rfl) (by kernel_rfl) (by kernel_rfl) (by simp [stables, isV_st]) ?_ ?_
                  · simp only [hops, and_true]
                    refine ⟨?_, ?_, ?_, ?_, ?_, ?_, ?_, ?_, ?_, ?_, ?_, ?_, ?_, ?_, ?_, ?_, ?_⟩
                    all_goals
                      intro f w1 hG hd
                      have k0 := gbk (gbT (gbD (gbR _ _)) hG) (CD.out)
                      have k1 := gbk (gbT (gbD (gbR _ _)) hG) (V5.out)
                      have k2 := gbk (gbT (gbD (gbR _ _)) hG) (E0.out)
                      have k3 := gbk (gbT (gbD (gbR _ _)) hG) (E1.out)
                      have k4 := gbk (gbT (gbD (gbR _ _)) hG) (CK0.out)
                      have k5 := gbk (gbT (gbD (gbR _ _)) hG) (CK1.out)
                      simp [deps, tAt, isV] at hd
                      first | simp [puts, dsts, Act.put, hd] | simp [puts, dsts, Act.put]
                      clear hd
                      go_wp2_with (first | (go_at_call 16; refine (specAuthOk_y k aq _ _ _ (AggR.grow HKr.out (gbT (gbD (gbR _ none)) hG)) (AggR.grow AGQ.out (gbT (gbD (gbR _ none)) hG)) WK.out WQ.out FB.out).mono ?_; rintro e w6 ⟨rfl, hw⟩; rw [MC.out]))
                    all_goals exact ⟨_, rfl, by first | with_reducible exact gbR _ _ | exact hw, by first | (simp [tAt, isV]; done) | (simp [tAt, isV]; assumption)⟩
                  intro f w5 hG hd
                  simp [knows, tAt, isV] at hd
                  obtain ⟨h0_, h1_, h2_, h3_, h4_, h5_, h6_, h7_, h8_, h9_, h10_, h11_, h12_, h13_, h14_, h15_, h16_⟩ := hd
                  simp only [puts, dsts, Act.put, h0_, h1_, h2_, h3_, h4_, h5_, h6_, h7_, h8_, h9_, h10_, h11_, h12_, h13_, h14_, h15_, h16_, List.filterMap_cons, List.filterMap_nil, List.setIfInBounds_toArray, List.set_cons_zero, List.set_cons_succ]
                  clear h0_ h1_ h2_ h3_ h4_ h5_ h6_ h7_ h8_ h9_ h10_ h11_ h12_ h13_ h14_ h15_ h16_
                  have g5 := gbT (gbD (gbR _ none)) hG
                  clear hG
                  have G5 := Lib.hid (gbT hg.out g5)
                  clear g5 hg
                  go_wp2_with fail
                  go_roundw
                  case rel => exact ⟨q + 1, by omega, by go_num, G5.out⟩
                  case measure => simp [intOf]; omega
                · go_wp2_with fail
                  refine region_grow [isV (.slice (some ⟨b, o, none⟩) dl dc), isV (.int .i64 q), isV (.pointer (some ⟨b, o + q, none⟩)), isV (.int .i64 dq), isV (.int .i64 r), isV (.int .i64 ((r : Int) + 1)), isV (.bool false), isV (.bool false), isV (undef), isV (undef), isV (undef), isV (undef), isV (undef), isV (undef), isV (undef), isV (undef), isV (.bool false)] (by kernel_rfl) (by kernel_rfl) (by kernel_rfl) (by simp [stables, isV_st]) ?_ ?_
                  · simp only [hops, and_true]
                    refine ⟨?_, ?_, ?_, ?_, ?_, ?_, ?_, ?_, ?_, ?_, ?_, ?_, ?_, ?_, ?_, ?_, ?_⟩
                    all_goals
                      intro f w1 hG hd
                      have k0 := gbk (gbT (gbD (gbR _ _)) hG) (CD.out)
                      simp [deps, tAt, isV] at hd
                      first | simp [puts, dsts, Act.put, hd] | simp [puts, dsts, Act.put]
                      clear hd
                      go_wp2_with (fail)
                    all_goals exact ⟨_, rfl, by first | with_reducible exact gbR _ _ | exact hw, by first | (simp [tAt, isV]; done) | (simp [tAt, isV]; assumption)⟩
                  intro f w5 hG hd
                  simp [knows, tAt, isV] at hd
                  obtain ⟨h0_, h1_, h2_, h3_, h4_, h5_, h6_, h7_, h8_, h9_, h10_, h11_, h12_, h13_, h14_, h15_, h16_⟩ := hd
                  simp only [puts, dsts, Act.put, h0_, h1_, h2_, h3_, h4_, h5_, h6_, h7_, h8_, h9_, h10_, h11_, h12_, h13_, h14_, h15_, h16_, List.filterMap_cons, List.filterMap_nil, List.setIfInBounds_toArray, List.set_cons_zero, List.set_cons_succ]
                  clear h0_ h1_ h2_ h3_ h4_ h5_ h6_ h7_ h8_ h9_ h10_ h11_ h12_ h13_ h14_ h15_ h16_
                  have g5 := gbT (gbD (gbR _ none)) hG
                  clear hG
                  have G5 := Lib.hid (gbT hg.out g5)
                  clear g5 hg
                  go_wp2_with fail
                  go_roundw
                  case rel => exact ⟨q + 1, by omega, by go_num, G5.out⟩
                  case measure => simp [intOf]; omega
              · have hqn : dl = q := by omega
                have i2 : ¬ (q : Int) < (dl : Int) := by omega
                clear hqn
                have RS2 := Lib.hid RS'.out
                have S2 := Lib.hid (SOF.grow S9.out hg.out)
                have T2 : Hid (Blk wr g10 31 #[.int .i64 s, .int .i64 ((a + totM m (r + 1) * trW k : Nat) : Int)]) := by
                  have h1 : a + totM m (r + 1) * trW k = a + totM m r * trW k + j * trW k := by
                    have h2 : nAt m r = j := HNS.out
                    rw [totM_succ, h2, Nat.add_mul]; omega
                  rw [h1]
                  exact Lib.hid (TGZ.out.grow hg.out)
                have C2 := Lib.hid (CHZ.out.trans (Chg.of hg.out (by simp)))
                go_wp2_with fail
                go_roundw
                case rel => exact ⟨r + 1, e', F8, by omega, by go_num, RS2, S2, T2, C2⟩
                case measure => simp [intOf]; omega
      · have hrn : Rd = (r : Int) := by omega
        have hout := RS.out.out HF.out (by rw [HRD.out, hrn])
        have i1 : ¬ (r : Int) < Rd := by omega
        clear hrn
        go_wp2_with fail
        clear k0 k1 x0 x1 x2
        refine (specRoundsOf_c m _ wr (HC.out.grow GR.out) WF.out).mono ?_
        rintro e' w5 ⟨rfl, g5⟩
        rw [HRD.out]
        obtain ⟨M, hM⟩ : ∃ x, muls m.st m.st.length = x := ⟨_, rfl⟩
        rw [hM] at hout
        have hM60 : M ≤ 60 := by rw [← hM]; have := muls_le m.st m.st.length; omega
        have HMU := Lib.hid hM
        have S5 := SG.out.grow g5
        obtain ⟨A9, B9, C9, D9, E9, a9, b9, c9, d9', e9, hB9, hR9⟩ := SOF.eng S5
        have R9 := Lib.hid hR9.al9
        have HB9 := Lib.hid hB9
        have hB := hB9
        have HOP := Lib.hid hout.2
        have HOB := Lib.hid hout.1
        have HBAD := Lib.hid RS.out.bad
        have v0 := hB.cell 0
        have v1 := hB.cell 1
        have v2 := hB.cell 2
        have v3 := hB.cell 3
        have v4 := hB.cell 4
        have v5 := hB.cell 5
        have v6 := hB.cell 6
        have v7 := hB.cell 7
        have v8 := hB.cell 8
        simp only [List.getElem?_toArray, List.getElem?_cons_succ, List.getElem?_cons_zero] at v0 v1 v2 v3 v4 v5 v6 v7 v8
        have G5 := Lib.hid (gbT GR.out g5)
        have BA5 := Lib.hid (BAr.out.grow g5)
        clear g5 hB hout hM S5 hB9 hR9
        go_wp2_with fail
        clear v0 v1 v2 v3 v4 v5 v6 v7 v8 i1
        refine (implEngineOutputs_c e _ w5 R9.out RS.out.wf).mono ?_
        rintro e' wo2 ⟨V, rfl, o9, g9⟩
        obtain ⟨AV, cV, rfl, _, _⟩ := own_form o9
        rw [HOB.out]
        have v6 := (HB9.out.grow g9).cell 6
        have v8 := (HB9.out.grow g9).cell 8
        have x0 := (BA5.out.grow g9).cell 0
        have x1 := (BA5.out.grow g9).cell 1
        have x2 := (BA5.out.grow g9).cell 2
        simp only [List.getElem?_toArray, List.getElem?_cons_succ, List.getElem?_cons_zero] at v6 v8 x0 x1 x2
        rw [HOP.out] at v6
        rw [HBAD.out] at v8
        have V6 := Lib.hid v6
        have V8 := Lib.hid v8
        have X0 := Lib.hid x0
        have X1 := Lib.hid x1
        have X2 := Lib.hid x2
        have G9 := Lib.hid (gbT G5.out g9)
        clear o9 g9 v6 v8 x0 x1 x2
        go_wp2_with fail
        refine region_grow [isV (.bool true), isV (.bool true), isV (.bool true), isV (.bool true), isV (.bool true), isV (.pointer (some ⟨g7, 8, none⟩)), isV (.bool false), isV (.bool true), isV (.bool true), isV (.bool true), isV (.pointer (some ⟨g7, 6, none⟩)), isV (.slice E9 (2 * M) e9), isV (.int .i64 (2 * (M : Int))), isV (.agg #[.int .i64 m.p, .slice A1 m.st.length s1, .slice A2 m.outs.length s2]), isV (.int .i64 M), isV (.int .i64 (2 * (M : Int))), isV (.bool true), isV (.bool true), isV (.bool true)] (by kernel_rfl) (by kernel_rfl) (by kernel_rfl) (by simp [stables, isV_st]) ?_ ?_
        · simp only [hops, and_true]
          refine ⟨?_, ?_, ?_, ?_, ?_, ?_, ?_, ?_, ?_, ?_, ?_, ?_, ?_, ?_, ?_, ?_, ?_, ?_, ?_⟩
          all_goals
            intro f w1 hG hd
            have k0 := gbk (gbT (gbD (gbR _ _)) hG) (V6.out)
            have k1 := gbk (gbT (gbD (gbR _ _)) hG) (V8.out)
            have k2 := gbk (gbT (gbD (gbR _ _)) hG) (X0.out)
            have k3 := gbk (gbT (gbD (gbR _ _)) hG) (X1.out)
            have k4 := gbk (gbT (gbD (gbR _ _)) hG) (X2.out)
            simp [deps, tAt, isV] at hd
            first | simp [puts, dsts, Act.put, hd] | simp [puts, dsts, Act.put]
            clear hd
            go_wp2_with (first | (go_at_call 18; refine (specCountMuls_c m _ _ (AggR.grow HC.out (gbT G9.out (gbT (gbD (gbR _ none)) hG)))).mono ?_; rintro e w6 ⟨rfl, hw⟩; rw [HMU.out]))
          all_goals exact ⟨_, rfl, by first | with_reducible exact gbR _ _ | exact hw, by first | (simp [tAt, isV]; done) | (simp [tAt, isV]; assumption)⟩
        intro f w7 hG hd
        simp [knows, tAt, isV] at hd
        obtain ⟨h0_, h1_, h2_, h3_, h4_, h5_, h6_, h7_, h8_, h9_, h10_, h11_, h12_, h13_, h14_, h15_, h16_, h17_, h18_⟩ := hd
        simp only [puts, dsts, Act.put, h0_, h1_, h2_, h3_, h4_, h5_, h6_, h7_, h8_, h9_, h10_, h11_, h12_, h13_, h14_, h15_, h16_, h17_, h18_, List.filterMap_cons, List.filterMap_nil, List.setIfInBounds_toArray, List.set_cons_zero, List.set_cons_succ]
        clear h0_ h1_ h2_ h3_ h4_ h5_ h6_ h7_ h8_ h9_ h10_ h11_ h12_ h13_ h14_ h15_ h16_ h17_ h18_
        have g7' := gbT (gbD (gbR _ none)) hG
        clear hG
        have GZ := Lib.hid (gbT G1.out (gbT G9.out g7'))
        clear g7'
        go_wp2_with fail
        go_ret
        exact ⟨rfl, GZ.out⟩
end Go.Proofs.Ythaadgdeadbhkaa
