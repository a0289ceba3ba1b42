/-
  FnCosts: the walk (printed by wip/gen_costlaw.py).
-/
import Derived.Test.YthaadgdeadbhkaaMgFnCosts31
import Derived.Test.YthaadgdeadbhkaaMgFnCosts44
import Derived.Test.YthaadgdeadbhkaaMgFnCosts34
namespace Go.Proofs.Ythaadgdeadbhkaa
open Go.RowKit
set_option linter.unusedVariables false
set_option linter.unusedSimpArgs false
set_option maxHeartbeats 4000000 in
set_option maxRecDepth 100000 in
theorem FnCosts.walk (w : World) (A : Option Addr) (n c : Nat) (zs : List Int) (hz : IntsK .u8 w A n zs) (hm : n ≤ maxLen) :
    Calls Try.prog 4 #[.slice A n c] w fun e w' => e = .returned (.bool true) ∧ w.grownBy w' none := by
  unfold maxLen at hm
  by_cases hbig : 1048576 < n
  · have hd : decide (1048576 < n) = true := by simp; omega
    go_enter Try.func4, Try.ntmps4
    go_wp2_with fail
    refine (big_c _ A n c (by omega)).mono ?_
    rintro e w1 ⟨rfl, rfl⟩
    go_wp2_with fail
    go_ret
    exact ⟨rfl, gbR _ _⟩
  · have hd : decide (1048576 < n) = false := by simp; omega
    have H := Lib.hid (bytesIn hz (by omega))
    clear hz
    go_enter Try.func4, Try.ntmps4
    go_wp2_with fail
    refine (big_c _ A n c (by omega)).mono ?_
    rintro e w1 ⟨rfl, rfl⟩
    rw [hd]
    clear hd hbig hm
    go_wp2_with fail
    refine (DrawComputation_c _ A n c zs H.out).mono ?_
    rintro e w1 ⟨KA, A1, A2, I, kc, n1, s1, n2, s2, ci, k, m, ins, P, s, a, rfl, hf, hp, hst, hou, hs, ha, hk, hc, hi, hci, hg⟩
    obtain ⟨A1', A2', s1', s2', hce⟩ : ∃ A1' A2' s1' s2', (Value.agg #[.int .i64 m.p, .slice A1 n1 s1, .slice A2 n2 s2]) = .agg #[.int .i64 m.p, .slice A1' m.st.length s1', .slice A2' m.outs.length s2'] := by
      obtain ⟨u1, u2, e1, q1, q2⟩ := carith_open hc
      obtain ⟨B1, d1, e2, _, _, _⟩ := plst_rd (s := 3) (fun _ => rfl) (by omega) q1
      obtain ⟨B2, d2, e3, _, _, _⟩ := cints_rd q2
      exact ⟨B1, B2, d1, d2, by rw [e1, e2, e3]⟩
    injection hce with hce
    injection hce with hce
    simp only [List.cons.injEq, Value.slice.injEq, true_and, and_true] at hce
    obtain ⟨⟨rfl, rfl, rfl⟩, rfl, rfl, rfl⟩ := hce
    have HF := Lib.hid hf
    have HK := Lib.hid hk
    have HC := Lib.hid hc
    have HI := Lib.hid hi
    have G1 := Lib.hid hg
    have WF := Lib.hid (AOk.wf9 hf.ok)
    have WK := Lib.hid (kwf_of hf.kb)
    have WC := Lib.hid (amwf_of hf.ok hou)
    have KB := Lib.hid hf.kb
    have HPN := Lib.hid hf.pn
    have HST := hf.ok.few
    clear hf hp hst hou hk hc hi hg
    obtain ⟨wu, hwu⟩ : ∃ x : World, ((w1.alloc (.cells #[.int .i64 k.p, .slice KA k.al.length kc] 26)).alloc (.cells #[.int .i64 m.p, .slice A1 m.st.length s1, .slice A2 m.outs.length s2] 29)).alloc (.cells #[.int .i64 s, .int .i64 a] 31) = x := ⟨_, rfl⟩
    have GU : Hid (w1.grownBy wu none) := by rw [← hwu]; exact Lib.hid (gbA (gbA (gbA (gbR _ _) _) _) _)
    have B3 : Hid (Blk wu w1.heap.size 26 #[.int .i64 k.p, .slice KA k.al.length kc]) := by rw [← hwu]; exact Lib.hid (((Blk.new w1 _ _).grow (gbA (gbR _ _) _)).grow (gbA (gbR _ _) _))
    have B4 : Hid (Blk wu (w1.heap.size + 1) 29 #[.int .i64 m.p, .slice A1 m.st.length s1, .slice A2 m.outs.length s2]) := by rw [← hwu]; exact Lib.hid ((Blk.new' _ _ _ _ (by simp)).grow (gbA (gbR _ _) _))
    have B6 : Hid (Blk wu (w1.heap.size + 1 + 1) 31 #[.int .i64 s, .int .i64 a]) := by rw [← hwu]; exact Lib.hid (Blk.new' _ _ _ _ (by simp))
    have k0 := B3.out.cell 0
    have k1 := B3.out.cell 1
    have x0 := B4.out.cell 0
    have x1 := B4.out.cell 1
    have x2 := B4.out.cell 2
    have y0 := B6.out.cell 0
    have y1 := B6.out.cell 1
    simp only [List.getElem?_toArray, List.getElem?_cons_succ, List.getElem?_cons_zero] at k0 k1 x0 x1 x2 y0 y1
    obtain ⟨Rd, hRd⟩ : ∃ x, rounds m = x := ⟨_, rfl⟩
    have hrr := rounds_bd m
    rw [hRd] at hrr
    have HRD := Lib.hid hRd
    obtain ⟨M, hM⟩ : ∃ x, muls m.st m.st.length = x := ⟨_, rfl⟩
    have hM60 : M ≤ 60 := by rw [← hM]; have := muls_le m.st m.st.length; omega
    have HMU := Lib.hid hM
    obtain ⟨M2, hM2⟩ : ∃ x : Nat, 2 * M = x := ⟨_, rfl⟩
    have HM2 := Lib.hid (show 2 * (M : Int) = (M2 : Int) by omega)
    have HM3 := Lib.hid hM2
    clear hRd hM hM2
    go_wp2_with fail
    clear hwu k0 k1 x0 x1 x2 y0 y1
    refine (implArithCost_yes m _ wu (HC.out.grow GU.out) WF.out HF.out.ok).mono ?_
    rintro e w5 ⟨rfl, g5⟩
    rw [HRD.out, HMU.out, HM2.out]
    have B3a := Lib.hid (B3.out.grow g5)
    have B4a := Lib.hid (B4.out.grow g5)
    have B6a := Lib.hid (B6.out.grow g5)
    have G5 := Lib.hid (gbT GU.out g5)
    clear g5 B3 B4 B6 GU
    have k0 := (B3a.out).cell 0
    have k1 := (B3a.out).cell 1
    have x0 := (B4a.out).cell 0
    have x1 := (B4a.out).cell 1
    have x2 := (B4a.out).cell 2
    simp only [List.getElem?_toArray, List.getElem?_cons_succ, List.getElem?_cons_zero] at k0 k1 x0 x1 x2
    have y0 := B6a.out.cell 0
    have y1 := B6a.out.cell 1
    simp only [List.getElem?_toArray, List.getElem?_cons_succ, List.getElem?_cons_zero] at y0 y1
    have k0' := fun o => kA k0 o
    have k1' := fun o => kA k1 o
    have x0' := fun o => kA x0 o
    have x1' := fun o => kA x1 o
    have x2' := fun o => kA x2 o
    have y0' := fun o => kA y0 o
    have y1' := fun o => kA y1 o
    go_wp2_with fail
    clear k0 k1 x0 x1 x2 y0 y1 k0' k1' x0' x1' x2' y0' y1'
    obtain ⟨gc, hgc⟩ : ∃ x, w5.heap.size = x := ⟨_, rfl⟩
    obtain ⟨wc, hwc⟩ : ∃ x : World, w5.alloc (.cells #[.int .i64 Rd, .int .i64 M2, .int .i64 M, .int .i64 0] 54) = x := ⟨_, rfl⟩
    have hg5c : w5.grownBy wc none := by rw [← hwc]; exact gbA (gbR _ _) _
    have BC : Hid (Blk wc gc 54 #[.int .i64 Rd, .int .i64 M2, .int .i64 M, .int .i64 0]) := by rw [← hwc, ← hgc]; exact Lib.hid (Blk.new _ _ _)
    have B3b := Lib.hid (B3a.out.grow hg5c)
    have B4b := Lib.hid (B4a.out.grow hg5c)
    have B6b := Lib.hid (B6a.out.grow hg5c)
    have GC := Lib.hid (gbT G5.out hg5c)
    have hgcl : w1.heap.size + 3 ≤ gc := by have h1 := B6a.out.lt; omega
    rw [hwc]
    try rw [hgc]
    clear hwc hgc hg5c B3a B4a B6a G5
    refine (specEngineNew_yes k m P s a I ci ins _ _ wc (HK.out.grow GC.out) (HC.out.grow GC.out) (HI.out.grow GC.out) WK.out WC.out HPN.out (newB_yes2 HF.out hs (by omega))).mono ?_
    rintro e w6 ⟨v6, rfl, o6, g6⟩
    obtain ⟨e0, he0⟩ : ∃ x, engNew k m P s ins = x := ⟨_, rfl⟩
    have RS0 : Hid (RSt k m P ins 0 e0) := by rw [← he0]; exact Lib.hid (RSt.zero HF.out WK.out WC.out)
    rw [he0] at o6
    obtain ⟨QA, QB, QC, QD, QE, qa, qb, qc, qd, qe, rfl⟩ := o6.eng
    obtain ⟨F6, o6, _⟩ := o6
    have HF6 : Hid (∀ x ∈ F6, x < w6.heap.size) := Lib.hid o6.lt
    have AG := Lib.hid o6
    have B3 := Lib.hid (B3b.out.grow g6)
    have B4 := Lib.hid (B4b.out.grow g6)
    have B6 := Lib.hid (B6b.out.grow g6)
    have BC6 := Lib.hid (BC.out.grow g6)
    have G6 := Lib.hid (gbT GC.out g6)
    clear o6 g6 he0 B3b B4b B6b GC BC
    have y0 := B6.out.cell 0
    have y1 := B6.out.cell 1
    simp only [List.getElem?_toArray, List.getElem?_cons_succ, List.getElem?_cons_zero] at y0 y1
    have y0' := fun o => kA y0 o
    have y1' := fun o => kA y1 o
    go_wp2_with fail
    clear y0 y1 y0' y1'
    obtain ⟨g7, hg7⟩ : ∃ x, w6.heap.size = x := ⟨_, rfl⟩
    obtain ⟨g10, hg10⟩ : ∃ x, g7 + 1 = x := ⟨_, rfl⟩
    obtain ⟨wd, hwd⟩ : ∃ x : World, (w6.alloc (.cells #[.int .i64 e0.k.p, .slice QA e0.k.al.length qa, .int .i64 e0.c.p, .slice QB e0.c.st.length qb, .slice QC e0.c.outs.length qc, .slice QD e0.vs.length qd, .slice QE e0.op.length qe, .int .i64 e0.rd, .bool e0.bad] 36)).alloc (.cells #[.int .i64 s, .int .i64 a] 31) = x := ⟨_, rfl⟩
    have hgd : w6.grownBy wd none := by rw [← hwd]; exact gbA (gbA (gbR _ _) _) _
    have SGd : Hid (SOF 36 (cengine e0) g7 F6 wd) := by rw [← hwd, ← hg7]; exact Lib.hid (SOF.made (vs := [_, _, _, _, _, _, _, _, _]) ((Blk.new _ _ _).grow (gbA (gbR _ _) _)) (AG.out.grow (gbA (gbA (gbR _ _) _) _)) (fun h => by have := HF6.out _ h; omega))
    have TG0 : Hid (Blk wd g10 31 #[.int .i64 s, .int .i64 ((a + totM m 0 * trW k : Nat) : Int)]) := by rw [← hwd, ← hg10, ← hg7, totM_zero, Nat.zero_mul, Nat.add_zero]; exact Lib.hid (Blk.new' _ _ _ _ (by simp))
    have BK := Lib.hid (B3.out.grow hgd)
    have BA := Lib.hid (B4.out.grow hgd)
    have BC := Lib.hid (BC6.out.grow hgd)
    have GD := Lib.hid (gbT G6.out hgd)
    have hgcg : gc < g7 := by have := BC6.out.lt; omega
    have hgg : g7 < g10 := by omega
    have hw1g7 : w1.heap.size + 3 ≤ g7 := by omega
    rw [hwd]
    try rw [hg7]
    try rw [hg10]
    clear hwd hg7 hg10 B3 B4 B6 BC6 AG HF6 hgd G6
    go_loopw [10] (fun i wr => ∃ (r : Nat) (e : EM) (F : List Nat), (r : Int) ≤ Rd ∧ i = .int .i64 ((totM m r : Nat) : Int) ∧ Hid (RSt k m P ins r e) ∧ Hid (SOF 36 (cengine e) g7 F wr) ∧ Hid (Blk wr g10 31 #[.int .i64 s, .int .i64 ((a + totM m r * trW k : Nat) : Int)]) ∧ Hid (Chg (fun y => y = g7 ∨ y = g10) wd wr)) (fun _ w => 61 - (intOf ((w.cell? ⟨g7, 7, none⟩).getD undef)).toNat)
    case atStart => exact ⟨0, e0, F6, by omega, by rw [totM_zero]; rfl, RS0, SGd, TG0, Lib.hid (Chg.refl _ _)⟩
    case round =>
      clear RS0 SGd TG0
      obtain ⟨r, e, F, hr, rfl, RS, SG, TG, CH⟩ := hrel
      have GR := Lib.hid (gbChg GD.out CH.out (fun y hy => by rcases hy with h6 | h6 <;> omega))
      have BKr := Lib.hid (BK.out.chg CH.out (by omega))
      have BAr := Lib.hid (BA.out.chg CH.out (by omega))
      have BCr := Lib.hid (BC.out.chg CH.out (by omega))
      have HERDr := Lib.hid RS.out.at_.rd
      obtain ⟨A9, B9, C9, D9, E9, a9, b9, c9, d9', e9, hB9, _⟩ := SOF.eng SG.out
      have v7 := hB9.cell 7
      simp only [List.getElem?_toArray, List.getElem?_cons_succ, List.getElem?_cons_zero] at v7
      rw [HERDr.out] at v7
      have V7 := Lib.hid v7
      have x0 := BAr.out.cell 0
      have x1 := BAr.out.cell 1
      have x2 := BAr.out.cell 2
      simp only [List.getElem?_toArray, List.getElem?_cons_succ, List.getElem?_cons_zero] at x0 x1 x2
      have X0 := Lib.hid x0
      have X1 := Lib.hid x1
      have X2 := Lib.hid x2
      clear hB9 v7 x0 x1 x2
      by_cases hlt : (r : Int) < Rd
      · go_wp2_with fail
        refine region_grow [isV (.pointer (some ⟨g7, 7, none⟩)), isV (.int .i64 r), isV (.agg #[.int .i64 m.p, .slice A1 m.st.length s1, .slice A2 m.outs.length s2]), isV (.int .i64 Rd), isV (.bool true)] (by kernel_rfl) (by kernel_rfl) (by kernel_rfl) (by simp [stables, isV_st]) ?_ ?_
        · simp only [hops, and_true]
          refine ⟨?_, ?_, ?_, ?_, ?_⟩
          · intro f w1 hG hd
            have hg4 := gbT (gbD (gbR wr none)) hG
            simp [deps, tAt, isV] at hd
            first | simp [puts, dsts, Act.put, hd] | simp [puts, dsts, Act.put]
            clear hd
            go_wp2_with fail
            exact ⟨_, rfl, by with_reducible exact gbR _ _, by simp [tAt, isV]⟩
          · intro f w1 hG hd
            have hg4 := gbT (gbD (gbR wr none)) hG
            have k0 := gbk hg4 (V7.out)
            simp [deps, tAt, isV] at hd
            first | simp [puts, dsts, Act.put, hd] | simp [puts, dsts, Act.put]
            clear hd
            go_wp2_with fail
            exact ⟨_, rfl, by with_reducible exact gbR _ _, by simp [tAt, isV]⟩
          · intro f w1 hG hd
            have hg4 := gbT (gbD (gbR wr none)) hG
            have k1 := gbk hg4 (X0.out)
            have k2 := gbk hg4 (X1.out)
            have k3 := gbk hg4 (X2.out)
            simp [deps, tAt, isV] at hd
            first | simp [puts, dsts, Act.put, hd] | simp [puts, dsts, Act.put]
            clear hd
            go_wp2_with fail
            exact ⟨_, rfl, by with_reducible exact gbR _ _, by simp [tAt, isV]⟩
          · intro f w1 hG hd
            have hg4 := gbT (gbD (gbR wr none)) hG
            simp [deps, tAt, isV] at hd
            first | simp [puts, dsts, Act.put, hd] | simp [puts, dsts, Act.put]
            clear hd
            go_wp2_with fail
            refine (specRoundsOf_c m _ w1 (HC.out.grow (gbT GR.out hg4)) WF.out).mono ?_; rintro e w6 ⟨rfl, hw⟩; rw [HRD.out]
            go_wp2_with fail
            exact ⟨_, rfl, by first | with_reducible exact gbR _ _ | exact hw, by simp [tAt, isV]⟩
          · intro f w1 hG hd
            have hg4 := gbT (gbD (gbR wr none)) hG
            simp [deps, tAt, isV] at hd
            first | simp [puts, dsts, Act.put, hd] | simp [puts, dsts, Act.put]
            clear hd
            go_wp2_with fail
            exact ⟨_, rfl, by with_reducible exact gbR _ _, by simp [tAt, isV]⟩
        intro f w5 hG hd
        simp [knows, tAt, isV] at hd
        obtain ⟨h0_, h1_, h2_, h3_, h4_⟩ := hd
        simp only [puts, dsts, Act.put, h0_, h1_, h2_, h3_, h4_, List.filterMap_cons, List.filterMap_nil, List.setIfInBounds_toArray, List.set_cons_zero, List.set_cons_succ]
        clear h0_ h1_ h2_ h3_ h4_
        have g5 := gbT (gbD (gbR wr none)) hG
        clear hG
        have G5 := Lib.hid g5
        have V7m := V7
        clear g5 X0 X1 X2
        go_wp2_with fail
        obtain ⟨g17, hg17⟩ : ∃ x, w5.heap.size = x := ⟨_, rfl⟩
        obtain ⟨wl, hwl⟩ : ∃ x : World, w5.alloc (.cells #[] 46) = x := ⟨_, rfl⟩
        have hgl : wr.grownBy wl none := by rw [← hwl]; exact gbA G5.out _
        have TL0 : Hid (TL wd.heap.size (trsN k P s (a + totM m r * trW k) 0) (.slice (some ⟨g17, 0, none⟩) 0 0) wl) := by
          rw [← hwl, ← hg17]
          exact Lib.hid ⟨[], World.ownsRow_lit w5 #[] 0 (Nat.le_trans CH.out.size G5.out.size) (by omega) rfl, OwnE.nil _⟩
        have SG0 := Lib.hid (SG.out.grow hgl)
        have TG0 : Hid (Blk wl g10 31 #[.int .i64 s, .int .i64 ((a + totM m r * trW k + 0 * trW k : Nat) : Int)]) := by rw [Nat.zero_mul, Nat.add_zero]; exact Lib.hid (TG.out.grow hgl)
        have CH0 := Lib.hid (CH.out.trans (Chg.of hgl (by simp)))
        rw [hwl, hg17]
        clear hwl hg17 hgl SG TG CH GR BKr BAr BCr G5 V7
        obtain ⟨ns, hns⟩ : ∃ x, (mulsAt m ((r : Int) + 1)).length = x := ⟨_, rfl⟩
        have hns60 : ns ≤ 60 := by rw [← hns]; exact mulsAt_few _ _
        have HNS := Lib.hid hns
        have hT60 : totM m r ≤ 60 := totM_bd HF.out.ok (by rw [HRD.out]; exact hr)
        have hTW := trW_bd KB.out
        have hA := Nat.mul_le_mul hT60 hTW
        clear hns
        obtain ⟨wo, rfl⟩ : ∃ wo : World, wo = wr := ⟨_, rfl⟩
        go_loopw [10, 12, 13] (fun q t i wr => ∃ (j : Nat), j ≤ ns ∧ q = .int .i64 ((totM m r + j : Nat) : Int) ∧ i = .int .i64 j ∧ Hid (TL wd.heap.size (trsN k P s (a + totM m r * trW k) j) t wr) ∧ Hid (SOF 36 (cengine e) g7 F wr) ∧ Hid (Blk wr g10 31 #[.int .i64 s, .int .i64 ((a + totM m r * trW k + j * trW k : Nat) : Int)]) ∧ Hid (Chg (fun y => y = g7 ∨ y = g10) wd wr)) (fun _ _ i _ => ns - (intOf i).toNat)
        case atStart => exact ⟨0, Nat.zero_le _, rfl, rfl, TL0, SG0, TG0, CH0⟩
        case round =>
          clear TL0 SG0 TG0 CH0
          obtain ⟨j, hj, rfl, rfl, TLj, SG, TG, CH⟩ := hrel
          have GR := Lib.hid (gbChg GD.out CH.out (fun y hy => by rcases hy with h6 | h6 <;> omega))
          have BKr := Lib.hid (BK.out.chg CH.out (by omega))
          have BAr := Lib.hid (BA.out.chg CH.out (by omega))
          obtain ⟨A9, B9, C9, D9, E9, a9, b9, c9, d9', e9, hB9, _⟩ := SOF.eng SG.out
          have v7 := hB9.cell 7
          simp only [List.getElem?_toArray, List.getElem?_cons_succ, List.getElem?_cons_zero] at v7
          rw [HERDr.out] at v7
          clear hB9
          have k0 := (BKr.out).cell 0
          have k1 := (BKr.out).cell 1
          have x0 := (BAr.out).cell 0
          have x1 := (BAr.out).cell 1
          have x2 := (BAr.out).cell 2
          simp only [List.getElem?_toArray, List.getElem?_cons_succ, List.getElem?_cons_zero] at k0 k1 x0 x1 x2
          go_wp2_with fail
          clear k0 k1 x0 x1 x2 v7
          refine (specMulsAt_c m ((r : Int) + 1) _ wr (HC.out.grow GR.out) WF.out).mono ?_
          rintro e' wm ⟨vS, rfl, oS, gS⟩
          rw [HNS.out] at oS
          obtain ⟨S, cs, rfl, _, _⟩ := own_form oS
          have SGm := Lib.hid (SG.out.grow gS)
          have TGm := Lib.hid (TG.out.grow gS)
          have TLm := Lib.hid (TLj.out.grow gS)
          have GM := Lib.hid (gbT GR.out gS)
          have CHm := Lib.hid (CH.out.trans (Chg.of gS (by simp)))
          have BKm := Lib.hid (BKr.out.grow gS)
          clear oS gS SG TG TLj GR CH BKr BAr
          by_cases hjl : j < ns
          · have i1 : (j : Int) < (ns : Int) := by omega
            obtain ⟨vs, hrow, hvs⟩ := TLm.out
            rw [trsN_len] at hrow
            obtain ⟨AT', cT, rfl, _, _⟩ := own_form hrow
            have ROW := Lib.hid hrow
            have VS := Lib.hid hvs
            have hB := Nat.mul_le_mul (show j ≤ 60 by omega) hTW
            obtain ⟨aj, haj⟩ : ∃ x, a + totM m r * trW k + j * trW k = x := ⟨_, rfl⟩
            rw [haj] at TGm
            have HAJ := Lib.hid haj
            have haj8 : aj ≤ 800000 := by omega
            have k0 := BKm.out.cell 0
            have k1 := BKm.out.cell 1
            have t0 := TGm.out.cell 0
            have t1 := TGm.out.cell 1
            simp only [List.getElem?_toArray, List.getElem?_cons_succ, List.getElem?_cons_zero] at k0 k1 t0 t1
            clear hrow hvs haj TLm
            go_wp2_with fail
            clear k0 k1 t0 t1
            refine (specTripleNew_yes k P s aj _ wm (HK.out.grow GM.out) WK.out KB.out HPN.out hs haj8).mono ?_
            rintro e' wt ⟨v, rfl, o, gt⟩
            obtain ⟨tn, htn⟩ : ∃ x, tripleNew k P s aj = x := ⟨_, rfl⟩
            rw [htn] at o
            obtain ⟨X0, x0, X1, x1, X2, x2, X3, x3, X4, x4, X5, x5, rfl, hus⟩ := o.open
            have US := Lib.hid hus
            have HTN := Lib.hid htn
            obtain ⟨aj', haj'⟩ : ∃ x, aj + 2 + 6 * (k.al.length - 1) = x := ⟨_, rfl⟩
            have HAJ' : Hid (a + totM m r * trW k + (j + 1) * trW k = aj') := by
              unfold Hid
              rw [← haj', ← HAJ.out, Nat.succ_mul]
              unfold trW
              omega
            rw [haj']
            have TGt := Lib.hid (TGm.out.grow gt)
            obtain ⟨wv, hwv⟩ : ∃ x : World, (wt.alloc (.cells #[.slice X0 tn.a.sh.length x0, .slice X1 tn.a.mc.length x1, .slice X2 tn.b.sh.length x2, .slice X3 tn.b.mc.length x3, .slice X4 tn.c.sh.length x4, .slice X5 tn.c.mc.length x5] 46)).alloc (.cells #[.int .i64 s, .int .i64 aj'] 31) = x := ⟨_, rfl⟩
            have gu : wt.grownBy wv none := by rw [← hwv]; exact gbA (gbA (gbR _ _) _) _
            have TGv := TGt.out.grow gu
            have MV : Blk wv wt.heap.size 46 #[.slice X0 tn.a.sh.length x0, .slice X1 tn.a.mc.length x1, .slice X2 tn.b.sh.length x2, .slice X3 tn.b.mc.length x3, .slice X4 tn.c.sh.length x4, .slice X5 tn.c.mc.length x5] := by rw [← hwv]; exact (Blk.new _ _ _).grow (gbA (gbR _ _) _)
            have NV : Blk wv (wt.heap.size + 1) 31 #[.int .i64 s, .int .i64 aj'] := by rw [← hwv]; exact Blk.new' _ _ _ _ (by simp)
            have nv0 := NV.cell 0
            have nv1 := NV.cell 1
            have hTt := TGt.out.lt
            have CHu := chg_setCells g10 [.int .i64 s, .int .i64 aj'] 0 wv
            have TZ := blk_setCells TGv [.int .i64 s, .int .i64 aj'] rfl
            have gwv := gbT gt gu
            obtain ⟨wu, hwu⟩ : ∃ x, setCells wv g10 0 [.int .i64 s, .int .i64 aj'] = x := ⟨_, rfl⟩
            rw [hwu] at CHu TZ
            have ROWU := Lib.hid (own_typ (own_grow ROW.out gwv) CHu (fun y hy _ => by subst hy; exact ⟨_, _, TGv, by decide⟩))
            have VSU := Lib.hid ((VS.out.grow gwv).typ (ctriples_ty _) CHu (fun y hy _ => by subst hy; exact ⟨_, _, TGv, by decide⟩))
            have USU := Lib.hid ((US.out.grow gu).typ (by intro c hc; exact ctriple_ty tn c hc) CHu (fun y hy _ => by subst hy; exact ⟨_, _, TGv, by decide⟩))
            have SGU := Lib.hid (SOF.typ (SGm.out.grow gwv) CHu (fun y hy _ => by subst hy; exact ⟨_, _, TGv, by decide, by decide⟩))
            have CHU := Lib.hid ((CHm.out.trans (Chg.of gwv (by simp))).trans (CHu.mono (fun y hy => .inr hy)))
            have MU := MV.chg CHu (by omega)
            have m0' := MU.cell 0
            have m1' := MU.cell 1
            have m2' := MU.cell 2
            have m3' := MU.cell 3
            have m4' := MU.cell 4
            have m5' := MU.cell 5
            have f0 := TGv.frozen 0
            have f1 := TGv.frozen 1
            have t0 := TGv.cell 0
            have t1 := TGv.cell 1
            simp only [List.getElem?_toArray, List.getElem?_cons_succ, List.getElem?_cons_zero] at m0' m1' m2' m3' m4' m5' t0 t1 nv0 nv1
            have hwu' := hwu
            simp only [setCells, Nat.zero_add, Nat.reduceAdd] at hwu'
            have TZ := Lib.hid TZ
            have hbu : wd.heap.size ≤ wu.heap.size := CHU.out.size
            clear gt o hus htn haj' gu TGv MV NV CHu gwv hwu MU TGt TGm SGm CHm US VS ROW
            go_wp2_with (at_builtin; refine wp_appendG wu wu.heap.size rfl elTriple rfl (.tmp 59) (.tmp 61) rfl #[.slice X0 tn.a.sh.length x0, .slice X1 tn.a.mc.length x1, .slice X2 tn.b.sh.length x2, .slice X3 tn.b.mc.length x3, .slice X4 tn.c.sh.length x4, .slice X5 tn.c.mc.length x5] rfl (by simp [Value.oneCell']) wd.heap.size (.slice AT' j cT) j vs ROWU.out rfl rfl (by unfold maxLen; omega) (by omega) hbu ?_; intro v' w9 o9 g9' k9; have CHA : Chg (fun y => (Value.slice AT' j cT).ownBlock = some y) wu w9 := (chgA wu _).trans (Chg.of g9' (fun y hy => hy)); obtain ⟨A6, c6, hv6, _⟩ := own_form o9; subst hv6; have O9 := Lib.hid o9; have CHA := Lib.hid CHA; clear o9 g9' k9)
            have hpush := TL.push (x := tn) (by rw [trsN_len]; exact ROWU.out) VSU.out USU.out (by rw [trsN_len]; exact O9.out) CHA.out
            have htr : trsN k P s (a + totM m r * trW k) j ++ [tn] = trsN k P s (a + totM m r * trW k) (j + 1) := by rw [trsN_succ, HAJ.out, HTN.out]
            rw [htr] at hpush
            have L1 := Lib.hid hpush
            have L2 := Lib.hid (SOF.typ SGU.out CHA.out (fun y hy _ => by obtain ⟨cur, hb, _⟩ := own_blk ROWU.out hy; exact ⟨_, _, hb, by decide, by decide⟩))
            have L3 : Hid (Blk w9 g10 31 #[.int .i64 s, .int .i64 ((a + totM m r * trW k + (j + 1) * trW k : Nat) : Int)]) := by rw [HAJ'.out]; exact Lib.hid (TZ.out.chg CHA.out (own_blk_ne9 ROWU.out TZ.out (by decide)))
            have L4 := Lib.hid (Chg.join CHU.out CHA.out (fun i hi => by obtain ⟨cur, _, hb⟩ := own_blk ROWU.out hi; exact .inr hb))
            clear hpush htr
            go_roundw
            case rel => exact ⟨j + 1, by omega, by go_num, by go_num, L1, L2, L3, L4⟩
            case measure => simp [intOf]; omega
          · have hjn : j = ns := by omega
            subst hjn
            obtain ⟨vs, hrow, _⟩ := TLm.out
            rw [trsN_len] at hrow
            obtain ⟨AT', cT, rfl, _, _⟩ := own_form hrow
            have TLm := Lib.hid TLm.out.rd
            obtain ⟨A9, B9, C9, D9, E9, a9, b9, c9, d9', e9, hB9, hR9⟩ := SOF.eng SGm.out
            have v0 := (hB9).cell 0
            have v1 := (hB9).cell 1
            have v2 := (hB9).cell 2
            have v3 := (hB9).cell 3
            have v4 := (hB9).cell 4
            have v5 := (hB9).cell 5
            have v6 := (hB9).cell 6
            have v7 := (hB9).cell 7
            have v8 := (hB9).cell 8
            simp only [List.getElem?_toArray, List.getElem?_cons_succ, List.getElem?_cons_zero] at v0 v1 v2 v3 v4 v5 v6 v7 v8
            have R9 := Lib.hid hR9.al9
            have hgl := SGm.out.ltg
            have hB9 := Lib.hid hB9
            clear hrow hR9
            go_wp2_with fail
            clear v0 v1 v2 v3 v4 v5 v6 v7 v8
            obtain ⟨wx, hwx⟩ : ∃ x : World, wm.alloc (.cells #[] 3) = x := ⟨_, rfl⟩
            obtain ⟨gx, hgx⟩ : ∃ x, wm.heap.size = x := ⟨_, rfl⟩
            have hgw : wm.grownBy wx none := by rw [← hwx]; exact gbA (gbR _ _) _
            have R9x := Lib.hid (R9.out.grow hgw)
            have TLx := Lib.hid (CS.grow _ TLm.out hgw)
            have GWX := Lib.hid hgw
            rw [hwx]
            try rw [hgx]
            clear hwx hgw R9 TLm
            obtain ⟨e', he'⟩ : ∃ x, engRound e (trsN k P s (a + totM m r * trW k) j) [] = x := ⟨_, rfl⟩
            have RS' : Hid (RSt k m P ins (r + 1) e') := by
              rw [← he']
              have h1 := RSt.next (s2 := s) (a := a + totM m r * trW k) HF.out RS.out (by rw [HRD.out]; exact hlt)
              have h2 : nAt m r = j := HNS.out
              rw [h2] at h1
              exact Lib.hid h1
            refine (specEngineRound_c e (trsN k P s (a + totM m r * trW k) j) [] _ _ _ _ _ _ _ wx R9x.out TLx.out Ints.none' RS.out.wf (twf_trs KB.out) (by omega) (by omega)).mono ?_
            rintro e'' wy ⟨v6, rfl, o6, g6⟩
            rw [he'] at o6
            obtain ⟨A8, B8, C8, D8, E8, a8, b8, c8, d8, e8, rfl⟩ := o6.eng
            obtain ⟨F8, o8, l8⟩ := o6
            have gmy := gbT GWX.out g6
            have R4 := hB9.out.grow gmy
            have hgF := agg_ty (cengine_ty _) o8 R4 (by decide)
            have RSx := SOF.store R4 (us := [.int .i64 e'.k.p, .slice A8 e'.k.al.length a8, .int .i64 e'.c.p, .slice B8 e'.c.st.length b8, .slice C8 e'.c.outs.length c8, .slice D8 e'.vs.length d8, .slice E8 e'.op.length e8, .int .i64 e'.rd, .bool e'.bad]) rfl o8 hgF
            have CHy := chg_setCells g7 [.int .i64 e'.k.p, .slice A8 e'.k.al.length a8, .int .i64 e'.c.p, .slice B8 e'.c.st.length b8, .slice C8 e'.c.outs.length c8, .slice D8 e'.vs.length d8, .slice E8 e'.op.length e8, .int .i64 e'.rd, .bool e'.bad] 0 wy
            have TGy := TGm.out.grow gmy
            have CHz := (CHm.out.trans (Chg.of gmy (by simp))).trans (CHy.mono (fun y hy => .inl hy))
            have TGz := TGy.chg CHy (by omega)
            obtain ⟨wz, hwz⟩ : ∃ x, setCells wy g7 0 [.int .i64 e'.k.p, .slice A8 e'.k.al.length a8, .int .i64 e'.c.p, .slice B8 e'.c.st.length b8, .slice C8 e'.c.outs.length c8, .slice D8 e'.vs.length d8, .slice E8 e'.op.length e8, .int .i64 e'.rd, .bool e'.bad] = x := ⟨_, rfl⟩
            rw [hwz] at RSx CHz TGz
            obtain ⟨A7, B7, C7, D7, E7, a7, b7, c7, d7, e7, hB7, hR7⟩ := SOF.eng RSx
            have f0 := (R4).frozen 0
            have f1 := (R4).frozen 1
            have f2 := (R4).frozen 2
            have f3 := (R4).frozen 3
            have f4 := (R4).frozen 4
            have f5 := (R4).frozen 5
            have f6 := (R4).frozen 6
            have f7 := (R4).frozen 7
            have f8 := (R4).frozen 8
            have u0 := (R4).cell 0
            have u1 := (R4).cell 1
            have u2 := (R4).cell 2
            have u3 := (R4).cell 3
            have u4 := (R4).cell 4
            have u5 := (R4).cell 5
            have u6 := (R4).cell 6
            have u7 := (R4).cell 7
            have u8 := (R4).cell 8
            simp only [List.getElem?_toArray, List.getElem?_cons_succ, List.getElem?_cons_zero] at u0 u1 u2 u3 u4 u5 u6 u7 u8
            have z7 := (hB7).cell 7
            simp only [List.getElem?_toArray, List.getElem?_cons_succ, List.getElem?_cons_zero] at z7
            have erd : e'.rd = (r : Int) + 1 := by have := RS'.out.at_.rd; rw [this]; omega
            rw [erd] at z7
            have S9 := Lib.hid RSx
            have CHZ := Lib.hid CHz
            have TGZ := Lib.hid TGz
            have hwz' := hwz
            simp only [setCells, Nat.zero_add, Nat.reduceAdd] at hwz'
            have HERD := Lib.hid erd
            have hB7 := Lib.hid hB7
            clear o8 l8 g6 gmy R4 hgF RSx CHy TGy CHz TGz hwz hR7 erd he'
            go_wp2_with fail
            have RS2 : Hid (RSt k m P ins (r + 1) e') := RS'
            have S2 := S9
            have T2 : Hid (Blk wz g10 31 #[.int .i64 s, .int .i64 ((a + totM m (r + 1) * trW k : Nat) : Int)]) := by
              have h1 : a + totM m (r + 1) * trW k = a + totM m r * trW k + j * trW k := by
                have h2 : nAt m r = j := HNS.out
                rw [totM_succ, h2, Nat.add_mul]; omega
              rw [h1]
              exact TGZ
            have hnx : (totM m r + j : Nat) = totM m (r + 1) := by
              have h2 : nAt m r = j := HNS.out
              rw [totM_succ, h2]
            have HNX := Lib.hid hnx
            have Z7 := Lib.hid z7
            have C2 := CHZ
            clear hnx z7 u0 u1 u2 u3 u4 u5 u6 u7 u8 f0 f1 f2 f3 f4 f5 f6 f7 f8 hwz' hB7 hB9 CHm TGm SGm TLx R9x GWX GM BKm
            refine ⟨⟨r + 1, e', F8, by omega, by rw [← HNX.out]; simp, RS2, S2, T2, C2⟩, ?_⟩
            rw [Z7.out, V7m.out]
            simp [intOf]
            omega
      · have hrn : Rd = (r : Int) := by omega
        subst hrn
        have hout := RS.out.out HF.out HRD.out.symm
        have htot : totM m r = M := by
          have h1 := totM_all HF.out.ok
          rw [HRD.out, HMU.out] at h1
          exact h1
        have i1 : ¬ (r : Int) < (r : Int) := by omega
        rw [htot]
        rw [HMU.out, HM3.out] at hout
        have HOP := Lib.hid hout.2
        clear htot
        go_wp2_with fail
        refine region_grow [isV (.pointer (some ⟨g7, 7, none⟩)), isV (.int .i64 r), isV (.agg #[.int .i64 m.p, .slice A1 m.st.length s1, .slice A2 m.outs.length s2]), isV (.int .i64 r), isV (.bool false)] (by kernel_rfl) (by kernel_rfl) (by kernel_rfl) (by simp [stables, isV_st]) ?_ ?_
        · simp only [hops, and_true]
          refine ⟨?_, ?_, ?_, ?_, ?_⟩
          · intro f w1 hG hd
            have hg4 := gbT (gbD (gbR wr none)) hG
            simp [deps, tAt, isV] at hd
            first | simp [puts, dsts, Act.put, hd] | simp [puts, dsts, Act.put]
            clear hd
            go_wp2_with fail
            exact ⟨_, rfl, by with_reducible exact gbR _ _, by simp [tAt, isV]⟩
          · intro f w1 hG hd
            have hg4 := gbT (gbD (gbR wr none)) hG
            have k0 := gbk hg4 (V7.out)
            simp [deps, tAt, isV] at hd
            first | simp [puts, dsts, Act.put, hd] | simp [puts, dsts, Act.put]
            clear hd
            go_wp2_with fail
            exact ⟨_, rfl, by with_reducible exact gbR _ _, by simp [tAt, isV]⟩
          · intro f w1 hG hd
            have hg4 := gbT (gbD (gbR wr none)) hG
            have k1 := gbk hg4 (X0.out)
            have k2 := gbk hg4 (X1.out)
            have k3 := gbk hg4 (X2.out)
            simp [deps, tAt, isV] at hd
            first | simp [puts, dsts, Act.put, hd] | simp [puts, dsts, Act.put]
            clear hd
            go_wp2_with fail
            exact ⟨_, rfl, by with_reducible exact gbR _ _, by simp [tAt, isV]⟩
          · intro f w1 hG hd
            have hg4 := gbT (gbD (gbR wr none)) hG
            simp [deps, tAt, isV] at hd
            first | simp [puts, dsts, Act.put, hd] | simp [puts, dsts, Act.put]
            clear hd
            go_wp2_with fail
            refine (specRoundsOf_c m _ w1 (HC.out.grow (gbT GR.out hg4)) WF.out).mono ?_; rintro e w6 ⟨rfl, hw⟩; rw [HRD.out]
            go_wp2_with fail
            exact ⟨_, rfl, by first | with_reducible exact gbR _ _ | exact hw, by simp [tAt, isV]⟩
          · intro f w1 hG hd
            have hg4 := gbT (gbD (gbR wr none)) hG
            simp [deps, tAt, isV] at hd
            first | simp [puts, dsts, Act.put, hd] | simp [puts, dsts, Act.put]
            clear hd
            go_wp2_with fail
            exact ⟨_, rfl, by with_reducible exact gbR _ _, by simp [tAt, isV]⟩
        intro f w5 hG hd
        simp [knows, tAt, isV] at hd
        obtain ⟨h0_, h1_, h2_, h3_, h4_⟩ := hd
        simp only [puts, dsts, Act.put, h0_, h1_, h2_, h3_, h4_, List.filterMap_cons, List.filterMap_nil, List.setIfInBounds_toArray, List.set_cons_zero, List.set_cons_succ]
        clear h0_ h1_ h2_ h3_ h4_
        have g5 := gbT (gbD (gbR wr none)) hG
        clear hG
        obtain ⟨A9, B9, C9, D9, E9, a9, b9, c9, d9', e9, hB9, _⟩ := SOF.eng (SG.out.grow g5)
        have v6 := hB9.cell 6
        simp only [List.getElem?_toArray, List.getElem?_cons_succ, List.getElem?_cons_zero] at v6
        rw [HOP.out] at v6
        have V6 := Lib.hid v6
        have V7 := Lib.hid (gbk g5 V7.out)
        have c0 := (BCr.out.grow g5).cell 0
        have c1 := (BCr.out.grow g5).cell 1
        have c2 := (BCr.out.grow g5).cell 2
        have c3 := (BCr.out.grow g5).cell 3
        simp only [List.getElem?_toArray, List.getElem?_cons_succ, List.getElem?_cons_zero] at c0 c1 c2 c3
        have C0 := Lib.hid c0
        have C1 := Lib.hid c1
        have C2 := Lib.hid c2
        have C3 := Lib.hid c3
        have G5 := Lib.hid (gbT GR.out g5)
        have CW : Hid (costWithin r M2 M 0 (wrap64 ((r : Int) + r)) (wrap64 ((M2 : Int) + M2)) (wrap64 ((M : Int) + M)) (wrap64 0) = true) := Lib.hid (by
          have h3 := HM3.out
          unfold costWithin wrap64
          simp only [Bool.and_eq_true, decide_eq_true_eq]
          omega)
        clear g5 hout i1 hB9 v6 c0 c1 c2 c3
        go_wp2_with fail
        refine region_grow [isV (.pointer (some ⟨gc, 0, none⟩)), isV (.int .i64 r), isV (.pointer (some ⟨g7, 7, none⟩)), isV (.int .i64 r), isV (.bool true), isV (.bool true), isV (.pointer (some ⟨gc, 1, none⟩)), isV (.int .i64 M2), isV (.pointer (some ⟨g7, 6, none⟩)), isV (.slice E9 M2 e9), isV (.int .i64 M2), isV (.bool true), isV (.bool true), isV (.bool true), isV (.pointer (some ⟨gc, 2, none⟩)), isV (.int .i64 M), isV (.int .i64 M), isV (.bool true), isV (.bool true), isV (.bool true), isV (.pointer (some ⟨gc, 3, none⟩)), isV (.int .i64 0), isV (.bool true), isV (.bool true), isV (.bool true), isV (.agg #[.int .i64 r, .int .i64 M2, .int .i64 M, .int .i64 0]), isV (.agg #[.int .i64 r, .int .i64 M2, .int .i64 M, .int .i64 0]), isV (.agg #[.int .i64 r, .int .i64 M2, .int .i64 M, .int .i64 0]), isV (.agg #[.int .i64 (wrap64 ((r : Int) + r)), .int .i64 (wrap64 ((M2 : Int) + M2)), .int .i64 (wrap64 ((M : Int) + M)), .int .i64 (wrap64 0)]), isV (.bool true), isV (.bool true), isV (.bool true)] (by kernel_rfl) (by kernel_rfl) (by kernel_rfl) (by simp [stables, isV_st]) ?_ ?_
        · simp only [hops, and_true]
          refine ⟨?_, ?_, ?_, ?_, ?_, ?_, ?_, ?_, ?_, ?_, ?_, ?_, ?_, ?_, ?_, ?_, ?_, ?_, ?_, ?_, ?_, ?_, ?_, ?_, ?_, ?_, ?_, ?_, ?_, ?_, ?_, ?_⟩
          · intro f w1 hG hd
            have hg4 := gbT (gbD (gbR w5 none)) hG
            simp [deps, tAt, isV] at hd
            first | simp [puts, dsts, Act.put, hd] | simp [puts, dsts, Act.put]
            clear hd
            go_wp2_with fail
            exact ⟨_, rfl, by with_reducible exact gbR _ _, by simp [tAt, isV]⟩
          · intro f w1 hG hd
            have hg4 := gbT (gbD (gbR w5 none)) hG
            have k2 := gbk hg4 (C0.out)
            simp [deps, tAt, isV] at hd
            first | simp [puts, dsts, Act.put, hd] | simp [puts, dsts, Act.put]
            clear hd
            go_wp2_with fail
            exact ⟨_, rfl, by with_reducible exact gbR _ _, by simp [tAt, isV]⟩
          · intro f w1 hG hd
            have hg4 := gbT (gbD (gbR w5 none)) hG
            simp [deps, tAt, isV] at hd
            first | simp [puts, dsts, Act.put, hd] | simp [puts, dsts, Act.put]
            clear hd
            go_wp2_with fail
            exact ⟨_, rfl, by with_reducible exact gbR _ _, by simp [tAt, isV]⟩
          · intro f w1 hG hd
            have hg4 := gbT (gbD (gbR w5 none)) hG
            have k1 := gbk hg4 (V7.out)
            simp [deps, tAt, isV] at hd
            first | simp [puts, dsts, Act.put, hd] | simp [puts, dsts, Act.put]
            clear hd
            go_wp2_with fail
            exact ⟨_, rfl, by with_reducible exact gbR _ _, by simp [tAt, isV]⟩
          · intro f w1 hG hd
            have hg4 := gbT (gbD (gbR w5 none)) hG
            simp [deps, tAt, isV] at hd
            first | simp [puts, dsts, Act.put, hd] | simp [puts, dsts, Act.put]
            clear hd
            go_wp2_with fail
            exact ⟨_, rfl, by with_reducible exact gbR _ _, by simp [tAt, isV]⟩
          · intro f w1 hG hd
            have hg4 := gbT (gbD (gbR w5 none)) hG
            simp [deps, tAt, isV] at hd
            first | simp [puts, dsts, Act.put, hd] | simp [puts, dsts, Act.put]
            clear hd
            go_wp2_with fail
            exact ⟨_, rfl, by with_reducible exact gbR _ _, by simp [tAt, isV]⟩
          · intro f w1 hG hd
            have hg4 := gbT (gbD (gbR w5 none)) hG
            simp [deps, tAt, isV] at hd
            first | simp [puts, dsts, Act.put, hd] | simp [puts, dsts, Act.put]
            clear hd
            go_wp2_with fail
            exact ⟨_, rfl, by with_reducible exact gbR _ _, by simp [tAt, isV]⟩
          · intro f w1 hG hd
            have hg4 := gbT (gbD (gbR w5 none)) hG
            have k3 := gbk hg4 (C1.out)
            simp [deps, tAt, isV] at hd
            first | simp [puts, dsts, Act.put, hd] | simp [puts, dsts, Act.put]
            clear hd
            go_wp2_with fail
            exact ⟨_, rfl, by with_reducible exact gbR _ _, by simp [tAt, isV]⟩
          · intro f w1 hG hd
            have hg4 := gbT (gbD (gbR w5 none)) hG
            simp [deps, tAt, isV] at hd
            first | simp [puts, dsts, Act.put, hd] | simp [puts, dsts, Act.put]
            clear hd
            go_wp2_with fail
            exact ⟨_, rfl, by with_reducible exact gbR _ _, by simp [tAt, isV]⟩
          · intro f w1 hG hd
            have hg4 := gbT (gbD (gbR w5 none)) hG
            have k0 := gbk hg4 (V6.out)
            simp [deps, tAt, isV] at hd
            first | simp [puts, dsts, Act.put, hd] | simp [puts, dsts, Act.put]
            clear hd
            go_wp2_with fail
            exact ⟨_, rfl, by with_reducible exact gbR _ _, by simp [tAt, isV]⟩
          · intro f w1 hG hd
            have hg4 := gbT (gbD (gbR w5 none)) hG
            simp [deps, tAt, isV] at hd
            first | simp [puts, dsts, Act.put, hd] | simp [puts, dsts, Act.put]
            clear hd
            go_wp2_with fail
            exact ⟨_, rfl, by with_reducible exact gbR _ _, by simp [tAt, isV]⟩
          · intro f w1 hG hd
            have hg4 := gbT (gbD (gbR w5 none)) hG
            simp [deps, tAt, isV] at hd
            first | simp [puts, dsts, Act.put, hd] | simp [puts, dsts, Act.put]
            clear hd
            go_wp2_with fail
            exact ⟨_, rfl, by with_reducible exact gbR _ _, by simp [tAt, isV]⟩
          · intro f w1 hG hd
            have hg4 := gbT (gbD (gbR w5 none)) hG
            simp [deps, tAt, isV] at hd
            first | simp [puts, dsts, Act.put, hd] | simp [puts, dsts, Act.put]
            clear hd
            go_wp2_with fail
            exact ⟨_, rfl, by with_reducible exact gbR _ _, by simp [tAt, isV]⟩
          · intro f w1 hG hd
            have hg4 := gbT (gbD (gbR w5 none)) hG
            simp [deps, tAt, isV] at hd
            first | simp [puts, dsts, Act.put, hd] | simp [puts, dsts, Act.put]
            clear hd
            go_wp2_with fail
            exact ⟨_, rfl, by with_reducible exact gbR _ _, by simp [tAt, isV]⟩
          · intro f w1 hG hd
            have hg4 := gbT (gbD (gbR w5 none)) hG
            simp [deps, tAt, isV] at hd
            first | simp [puts, dsts, Act.put, hd] | simp [puts, dsts, Act.put]
            clear hd
            go_wp2_with fail
            exact ⟨_, rfl, by with_reducible exact gbR _ _, by simp [tAt, isV]⟩
          · intro f w1 hG hd
            have hg4 := gbT (gbD (gbR w5 none)) hG
            have k4 := gbk hg4 (C2.out)
            simp [deps, tAt, isV] at hd
            first | simp [puts, dsts, Act.put, hd] | simp [puts, dsts, Act.put]
            clear hd
            go_wp2_with fail
            exact ⟨_, rfl, by with_reducible exact gbR _ _, by simp [tAt, isV]⟩
          · intro f w1 hG hd
            have hg4 := gbT (gbD (gbR w5 none)) hG
            simp [deps, tAt, isV] at hd
            first | simp [puts, dsts, Act.put, hd] | simp [puts, dsts, Act.put]
            clear hd
            go_wp2_with fail
            exact ⟨_, rfl, by with_reducible exact gbR _ _, by simp [tAt, isV]⟩
          · intro f w1 hG hd
            have hg4 := gbT (gbD (gbR w5 none)) hG
            simp [deps, tAt, isV] at hd
            first | simp [puts, dsts, Act.put, hd] | simp [puts, dsts, Act.put]
            clear hd
            go_wp2_with fail
            exact ⟨_, rfl, by with_reducible exact gbR _ _, by simp [tAt, isV]⟩
          · intro f w1 hG hd
            have hg4 := gbT (gbD (gbR w5 none)) hG
            simp [deps, tAt, isV] at hd
            first | simp [puts, dsts, Act.put, hd] | simp [puts, dsts, Act.put]
            clear hd
            go_wp2_with fail
            exact ⟨_, rfl, by with_reducible exact gbR _ _, by simp [tAt, isV]⟩
          · intro f w1 hG hd
            have hg4 := gbT (gbD (gbR w5 none)) hG
            simp [deps, tAt, isV] at hd
            first | simp [puts, dsts, Act.put, hd] | simp [puts, dsts, Act.put]
            clear hd
            go_wp2_with fail
            exact ⟨_, rfl, by with_reducible exact gbR _ _, by simp [tAt, isV]⟩
          · intro f w1 hG hd
            have hg4 := gbT (gbD (gbR w5 none)) hG
            simp [deps, tAt, isV] at hd
            first | simp [puts, dsts, Act.put, hd] | simp [puts, dsts, Act.put]
            clear hd
            go_wp2_with fail
            exact ⟨_, rfl, by with_reducible exact gbR _ _, by simp [tAt, isV]⟩
          · intro f w1 hG hd
            have hg4 := gbT (gbD (gbR w5 none)) hG
            have k5 := gbk hg4 (C3.out)
            simp [deps, tAt, isV] at hd
            first | simp [puts, dsts, Act.put, hd] | simp [puts, dsts, Act.put]
            clear hd
            go_wp2_with fail
            exact ⟨_, rfl, by with_reducible exact gbR _ _, by simp [tAt, isV]⟩
          · intro f w1 hG hd
            have hg4 := gbT (gbD (gbR w5 none)) hG
            simp [deps, tAt, isV] at hd
            first | simp [puts, dsts, Act.put, hd] | simp [puts, dsts, Act.put]
            clear hd
            go_wp2_with fail
            exact ⟨_, rfl, by with_reducible exact gbR _ _, by simp [tAt, isV]⟩
          · intro f w1 hG hd
            have hg4 := gbT (gbD (gbR w5 none)) hG
            simp [deps, tAt, isV] at hd
            first | simp [puts, dsts, Act.put, hd] | simp [puts, dsts, Act.put]
            clear hd
            go_wp2_with fail
            exact ⟨_, rfl, by with_reducible exact gbR _ _, by simp [tAt, isV]⟩
          · intro f w1 hG hd
            have hg4 := gbT (gbD (gbR w5 none)) hG
            simp [deps, tAt, isV] at hd
            first | simp [puts, dsts, Act.put, hd] | simp [puts, dsts, Act.put]
            clear hd
            go_wp2_with fail
            exact ⟨_, rfl, by with_reducible exact gbR _ _, by simp [tAt, isV]⟩
          · intro f w1 hG hd
            have hg4 := gbT (gbD (gbR w5 none)) hG
            have k2 := gbk hg4 (C0.out)
            have k3 := gbk hg4 (C1.out)
            have k4 := gbk hg4 (C2.out)
            have k5 := gbk hg4 (C3.out)
            simp [deps, tAt, isV] at hd
            first | simp [puts, dsts, Act.put, hd] | simp [puts, dsts, Act.put]
            clear hd
            go_wp2_with fail
            exact ⟨_, rfl, by with_reducible exact gbR _ _, by simp [tAt, isV]⟩
          · intro f w1 hG hd
            have hg4 := gbT (gbD (gbR w5 none)) hG
            have k2 := gbk hg4 (C0.out)
            have k3 := gbk hg4 (C1.out)
            have k4 := gbk hg4 (C2.out)
            have k5 := gbk hg4 (C3.out)
            simp [deps, tAt, isV] at hd
            first | simp [puts, dsts, Act.put, hd] | simp [puts, dsts, Act.put]
            clear hd
            go_wp2_with fail
            exact ⟨_, rfl, by with_reducible exact gbR _ _, by simp [tAt, isV]⟩
          · intro f w1 hG hd
            have hg4 := gbT (gbD (gbR w5 none)) hG
            have k2 := gbk hg4 (C0.out)
            have k3 := gbk hg4 (C1.out)
            have k4 := gbk hg4 (C2.out)
            have k5 := gbk hg4 (C3.out)
            simp [deps, tAt, isV] at hd
            first | simp [puts, dsts, Act.put, hd] | simp [puts, dsts, Act.put]
            clear hd
            go_wp2_with fail
            exact ⟨_, rfl, by with_reducible exact gbR _ _, by simp [tAt, isV]⟩
          · intro f w1 hG hd
            have hg4 := gbT (gbD (gbR w5 none)) hG
            simp [deps, tAt, isV] at hd
            first | simp [puts, dsts, Act.put, hd] | simp [puts, dsts, Act.put]
            clear hd
            go_wp2_with fail
            refine (implAddCosts_c _ _ _ _ _ _ _ _ w1).mono ?_; rintro e w6 ⟨rfl, hw⟩
            go_wp2_with fail
            exact ⟨_, rfl, by first | with_reducible exact gbR _ _ | exact hw, by simp [tAt, isV]⟩
          · intro f w1 hG hd
            have hg4 := gbT (gbD (gbR w5 none)) hG
            simp [deps, tAt, isV] at hd
            first | simp [puts, dsts, Act.put, hd] | simp [puts, dsts, Act.put]
            clear hd
            go_wp2_with fail
            refine (implCostWithin_c _ _ _ _ _ _ _ _ w1).mono ?_; rintro e w6 ⟨rfl, hw⟩; rw [CW.out]
            go_wp2_with fail
            exact ⟨_, rfl, by first | with_reducible exact gbR _ _ | exact hw, by simp [tAt, isV]⟩
          · intro f w1 hG hd
            have hg4 := gbT (gbD (gbR w5 none)) hG
            simp [deps, tAt, isV] at hd
            first | simp [puts, dsts, Act.put, hd] | simp [puts, dsts, Act.put]
            clear hd
            go_wp2_with fail
            exact ⟨_, rfl, by with_reducible exact gbR _ _, by simp [tAt, isV]⟩
          · intro f w1 hG hd
            have hg4 := gbT (gbD (gbR w5 none)) hG
            simp [deps, tAt, isV] at hd
            first | simp [puts, dsts, Act.put, hd] | simp [puts, dsts, Act.put]
            clear hd
            go_wp2_with fail
            exact ⟨_, rfl, by with_reducible exact gbR _ _, by simp [tAt, isV]⟩
        intro f w7 hG hd
        simp [knows, tAt, isV] at hd
        obtain ⟨h0_, h1_, h2_, h3_, h4_, h5_, h6_, h7_, h8_, h9_, h10_, h11_, h12_, h13_, h14_, h15_, h16_, h17_, h18_, h19_, h20_, h21_, h22_, h23_, h24_, h25_, h26_, h27_, h28_, h29_, h30_, h31_⟩ := hd
        simp only [puts, dsts, Act.put, h0_, h1_, h2_, h3_, h4_, h5_, h6_, h7_, h8_, h9_, h10_, h11_, h12_, h13_, h14_, h15_, h16_, h17_, h18_, h19_, h20_, h21_, h22_, h23_, h24_, h25_, h26_, h27_, h28_, h29_, h30_, h31_, List.filterMap_cons, List.filterMap_nil, List.setIfInBounds_toArray, List.set_cons_zero, List.set_cons_succ]
        clear h0_ h1_ h2_ h3_ h4_ h5_ h6_ h7_ h8_ h9_ h10_ h11_ h12_ h13_ h14_ h15_ h16_ h17_ h18_ h19_ h20_ h21_ h22_ h23_ h24_ h25_ h26_ h27_ h28_ h29_ h30_ h31_
        have g7' := gbT (gbD (gbR w5 none)) hG
        clear hG
        have GZ := Lib.hid (gbT G1.out (gbT G5.out g7'))
        clear g7'
        go_wp2_with fail
        go_ret
        exact ⟨rfl, GZ.out⟩
end Go.Proofs.Ythaadgdeadbhkaa
