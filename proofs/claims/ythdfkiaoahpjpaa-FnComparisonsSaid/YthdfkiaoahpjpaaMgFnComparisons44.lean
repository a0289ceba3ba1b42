/-
  FnComparisons' walk (printed by wip/gen_comp.py).
-/
import Derived.Test.YthdfkiaoahpjpaaMgFnComparisons43
namespace Go.Proofs.Ythdfkiaoahpjpaa
open Go.RowKit
set_option linter.unusedVariables false
set_option linter.unusedSimpArgs false
set_option maxHeartbeats 8000000 in
set_option maxRecDepth 100000 in
theorem FnComparisons.walk (w : World) (A : Option Addr) (n c : Nat) (zs : List Int) (hz : IntsK .u8 w A n zs) (hm : n ≤ maxLen) :
    Calls Try.prog 3 #[.slice A n c] w fun e w' => e = .returned (.bool true) ∧ w.grownBy w' none := by
  unfold maxLen at hm
  by_cases hbig : 1048576 < n
  · have hd : decide (1048576 < n) = true := by simp; omega
    go_enter Try.func3, Try.ntmps3
    go_wp2_with fail
    refine (big_c _ A n c (by omega)).mono ?_
    rintro e w1 ⟨rfl, rfl⟩
    go_wp2_with fail
    go_ret
    exact ⟨rfl, gbR _ _⟩
  · have hd : decide (1048576 < n) = false := by simp; omega
    have H := Lib.hid (bytesIn hz (by omega))
    clear hz
    go_enter Try.func3, Try.ntmps3
    go_wp2_with fail
    refine (big_c _ A n c (by omega)).mono ?_
    rintro e w1 ⟨rfl, rfl⟩
    rw [hd]
    go_wp2_with fail
    refine (DrawPlaces_c _ A n c zs H.out).mono ?_
    rintro e w1 ⟨v, qs, rfl, hown, hq, hg⟩
    obtain ⟨B, d, rfl, _, _⟩ := own_form hown
    have HI := Lib.hid (show Ints w1 B 12 qs from Rd.ofOwn hown)
    obtain ⟨b9, o9, rfl, hb, hc⟩ := HI.out.at_ (by omega)
    have c0 := hc 0 (by omega)
    rw [Nat.add_zero] at c0
    have c1 := hc 1 (by omega)
    have q0 := hq.at_ 0 (by omega)
    have q1 := hq.at_ 1 (by omega)
    have G := Lib.hid hg
    clear hown hc hg hq
    generalize qs.getD 0 0 = x at *
    generalize qs.getD 1 0 = y at *
    obtain ⟨q00, q01⟩ := q0
    obtain ⟨q10, q11⟩ := q1
    obtain ⟨a, hA⟩ : ∃ a : Nat, x % 16 = (a : Int) := ⟨(x % 16).toNat, by omega⟩
    obtain ⟨b, hB⟩ : ∃ a : Nat, y % 16 = (a : Int) := ⟨(y % 16).toNat, by omega⟩
    have ha : a < 16 := by omega
    have hb2 : b < 16 := by omega
    have CF := Lib.hid (cmp_is ha hb2)
    go_wp2_with fail
    try rw [hA]
    try rw [hB]
    clear hA hB c0 c1 q00 q01 q10 q11 hb hbig hd hm H HI
    refine (implWordConst_c m0 a _ w1 (circ0 _) (okS_is (by decide)) (by omega)).mono ?_
    rintro e w2 ⟨V1, U1, rfl, v1, o1, g1⟩
    change aggF _ (ccircuit (cA a).2) _ _ at v1
    change ownF _ (cints (cA a).1) _ _ at o1
    obtain ⟨X1, n1, c1, X2, n2, c2, rfl⟩ := v1.form
    obtain ⟨Ax, cx9, rfl, o1⟩ := o1.row
    have lx : (cA a).1.length = 4 := (constTo_len m0 a 4).1
    rw [lx] at o1 ⊢
    obtain ⟨w3, hw3⟩ : ∃ q : World, w2.alloc (.cells #[.slice X1 n1 c1, .slice X2 n2 c2] 28) = q := ⟨_, rfl⟩
    have g3 : w2.grownBy w3 none := by rw [← hw3]; exact gbA (gbR _ _) _
    have R : Hid (Blk w3 w2.heap.size 28 #[.slice X1 n1 c1, .slice X2 n2 c2]) := by rw [← hw3]; exact Lib.hid (Blk.new w2 _ _)
    have V := Lib.hid (v1.grow g3)
    have OX := Lib.hid (o1.grow g3)
    have zb : w.heap.size ≤ w2.heap.size := (gbT G.out g1).size
    have G9 := Lib.hid (gbT G.out (gbT g1 g3))
    clear v1 o1 g1 g3 G lx
    have G := G9
    clear G9
    have k0 := R.out.cell 0
    have k1 := R.out.cell 1
    simp at k0 k1
    go_wp2_with fail
    clear hw3 k0 k1
    refine (implWordConst_c (cA a).2 b _ w3 V.out.r CF.out.okA (by omega)).mono ?_
    rintro e w4 ⟨V4, U4, rfl, v4, o4, g4⟩
    change aggF _ (ccircuit (cB a b).2) _ _ at v4
    obtain ⟨X4, n4, c4, Y4, m4, d4, rfl⟩ := v4.form
    change ownF _ (cints (cB a b).1) _ _ at o4
    obtain ⟨Ay, cy9, rfl, o4⟩ := o4.row
    have ly : (cB a b).1.length = 4 := (constTo_len _ b 4).1
    rw [ly] at o4 ⊢
    clear ly
    have RQ := R.out.grow g4
    have r0 := RQ.cell 0
    have r1 := RQ.cell 1
    have f0 := RQ.frozen 0
    have f1 := RQ.frozen 1
    simp at r0 r1
    obtain ⟨PB, PV, PO, PG⟩ := circ_put RQ v4
    have PG := PG w (gbT G.out g4) zb
    simp only [setCells, Nat.zero_add, Nat.reduceAdd] at PB PV PO PG
    obtain ⟨w5, hwc⟩ : ∃ q : World, (w4.setCell ⟨w2.heap.size, 0, none⟩ (.slice X4 n4 c4)).setCell ⟨w2.heap.size, 1, none⟩ (.slice Y4 m4 d4) = q := ⟨_, rfl⟩
    rw [hwc] at PB PV PO PG
    have OX9 := Lib.hid (PO _ _ _ (OX.out.grow g4))
    have OY9 := Lib.hid (PO _ _ _ (o4))
    clear OX
    have OX := OX9
    clear OX9
    have OY := OY9
    clear OY9
    clear R V RQ G
    have R := Lib.hid PB
    have V := Lib.hid PV
    have G := Lib.hid PG
    clear PB PV PO PG v4 g4
    have k0 := R.out.cell 0
    have k1 := R.out.cell 1
    simp at k0 k1
    go_wp2_with (fail)
    clear hwc r0 r1 f0 f1 k0 k1
    refine (implWordLess_c (cB a b).2 Ax Ay cx9 cy9 (cA a).1 (cB a b).1 _ w5 V.out.r (own4 OX.out).1 (own4 OX.out).2.1 (own4 OX.out).2.2 (own4 OY.out).1 (own4 OY.out).2.1 (own4 OY.out).2.2 CF.out.okB CF.out.x1 CF.out.y1).mono ?_
    rintro e w6 ⟨V6, rfl, v6, g6⟩
    change aggF _ (ccircuit (cL a b).2) _ _ at v6
    obtain ⟨X6, n6, c6, Y6, m6, d6, rfl⟩ := v6.form
    rw [show (lessM (cB a b).2 (cA a).1 (cB a b).1).1 = (cL a b).1 from rfl]
    have RQ := R.out.grow g6
    have r0 := RQ.cell 0
    have r1 := RQ.cell 1
    have f0 := RQ.frozen 0
    have f1 := RQ.frozen 1
    simp at r0 r1
    obtain ⟨PB, PV, PO, PG⟩ := circ_put RQ v6
    have PG := PG w (gbT G.out g6) zb
    simp only [setCells, Nat.zero_add, Nat.reduceAdd] at PB PV PO PG
    obtain ⟨w7, hwc⟩ : ∃ q : World, (w6.setCell ⟨w2.heap.size, 0, none⟩ (.slice X6 n6 c6)).setCell ⟨w2.heap.size, 1, none⟩ (.slice Y6 m6 d6) = q := ⟨_, rfl⟩
    rw [hwc] at PB PV PO PG
    have OX9 := Lib.hid (PO _ _ _ (OX.out.grow g6))
    have OY9 := Lib.hid (PO _ _ _ (OY.out.grow g6))
    clear OX OY
    have OX := OX9
    clear OX9
    have OY := OY9
    clear OY9
    clear R V RQ G
    have R := Lib.hid PB
    have V := Lib.hid PV
    have G := Lib.hid PG
    clear PB PV PO PG v6 g6
    have k0 := R.out.cell 0
    have k1 := R.out.cell 1
    simp at k0 k1
    go_wp2_with (fail)
    clear hwc r0 r1 f0 f1 k0 k1
    refine (implWordEqual_c (cL a b).2 Ax Ay cx9 cy9 (cA a).1 (cB a b).1 _ w7 V.out.r (own4 OX.out).1 (own4 OX.out).2.1 (own4 OX.out).2.2 (own4 OY.out).1 (own4 OY.out).2.1 (own4 OY.out).2.2 CF.out.okL CF.out.x2 CF.out.y2).mono ?_
    rintro e w8 ⟨V8, rfl, v8, g8⟩
    change aggF _ (ccircuit (cE a b).2) _ _ at v8
    obtain ⟨X8, n8, c8, Y8, m8, d8, rfl⟩ := v8.form
    rw [show (equalM (cL a b).2 (cA a).1 (cB a b).1).1 = (cE a b).1 from rfl]
    have RQ := R.out.grow g8
    have r0 := RQ.cell 0
    have r1 := RQ.cell 1
    have f0 := RQ.frozen 0
    have f1 := RQ.frozen 1
    simp at r0 r1
    obtain ⟨PB, PV, PO, PG⟩ := circ_put RQ v8
    have PG := PG w (gbT G.out g8) zb
    simp only [setCells, Nat.zero_add, Nat.reduceAdd] at PB PV PO PG
    obtain ⟨w9, hwc⟩ : ∃ q : World, (w8.setCell ⟨w2.heap.size, 0, none⟩ (.slice X8 n8 c8)).setCell ⟨w2.heap.size, 1, none⟩ (.slice Y8 m8 d8) = q := ⟨_, rfl⟩
    rw [hwc] at PB PV PO PG
    have OX9 := Lib.hid (PO _ _ _ (OX.out.grow g8))
    have OY9 := Lib.hid (PO _ _ _ (OY.out.grow g8))
    clear OX OY
    have OX := OX9
    clear OX9
    have OY := OY9
    clear OY9
    clear R V RQ G
    have R := Lib.hid PB
    have V := Lib.hid PV
    have G := Lib.hid PG
    clear PB PV PO PG v8 g8
    have k0 := R.out.cell 0
    have k1 := R.out.cell 1
    simp at k0 k1
    go_wp2_with (fail)
    clear hwc r0 r1 f0 f1 k0 k1
    refine (implWordMux_c (cE a b).2 Ax Ay cx9 cy9 (cL a b).1 (cA a).1 (cB a b).1 _ w9 V.out.r (own4 OX.out).1 (own4 OX.out).2.1 (own4 OX.out).2.2 (own4 OY.out).1 (own4 OY.out).2.1 (own4 OY.out).2.2 CF.out.okE CF.out.x3 CF.out.y3 CF.out.sel).mono ?_
    rintro e wa ⟨Vz, Uz, rfl, vz, oz, gz⟩
    change aggF _ (ccircuit (cM a b).2) _ _ at vz
    obtain ⟨Xz, nz, cz, Yz, mz, dz, rfl⟩ := vz.form
    change ownF _ (cints (cM a b).1) _ _ at oz
    obtain ⟨Am, cm9, rfl, oz⟩ := oz.row
    have lm : (cM a b).1.length = 4 := CF.out.m4
    rw [lm] at oz ⊢
    clear lm
    have hl0 := CF.out.l0
    have he0 := CF.out.e0
    obtain ⟨lv, hlv⟩ : ∃ q, (cL a b).1 = q := ⟨_, rfl⟩
    obtain ⟨ev, hev⟩ : ∃ q, (cE a b).1 = q := ⟨_, rfl⟩
    rw [hlv] at hl0 ⊢
    rw [hev] at he0 ⊢
    have L6 : Hid ((outsTo (cF a b) (List.replicate 80 0) (cF a b).outs.length).length = 6) := by
      rw [outsTo_len _ _ _ (Nat.le_refl _)]
      show ([(cL a b).1, (cE a b).1] ++ (cM a b).1).length = 6
      rw [List.length_append, CF.out.m4]
      exact Lib.hid rfl
    have HLV := Lib.hid hlv
    have HEV := Lib.hid hev
    clear hlv hev OX OY
    have RQ := R.out.grow gz
    have r0 := RQ.cell 0
    have r1 := RQ.cell 1
    have f0 := RQ.frozen 0
    have f1 := RQ.frozen 1
    simp at r0 r1
    obtain ⟨PB, PV, PO, PG⟩ := circ_put RQ vz
    have PG := PG w (gbT G.out gz) zb
    simp only [setCells, Nat.zero_add, Nat.reduceAdd] at PB PV PO PG
    obtain ⟨wb, hwc⟩ : ∃ q : World, (wa.setCell ⟨w2.heap.size, 0, none⟩ (.slice Xz nz cz)).setCell ⟨w2.heap.size, 1, none⟩ (.slice Yz mz dz) = q := ⟨_, rfl⟩
    rw [hwc] at PB PV PO PG
    have OM9 := Lib.hid (PO _ _ _ (oz))
    have OM := OM9
    clear OM9
    clear R V RQ G
    have R := Lib.hid PB
    have V := Lib.hid PV
    have G := Lib.hid PG
    clear PB PV PO PG vz gz
    have k0 := R.out.cell 0
    have k1 := R.out.cell 1
    simp at k0 k1
    have gA := Lib.hid (gbA (gbR wb none) (.cells #[.int .i64 lv, .int .i64 ev] 3))
    have IM := Lib.hid (own4 OM.out).1
    have AF : Hid (∀ w6, (wb.alloc (.cells #[.int .i64 lv, .int .i64 ev] 3)).grownBy w6 (Value.slice (some ⟨wb.heap.size, 0, none⟩) 2 2).ownBlock → Chg (fun y => y = wb.heap.size) (wb.alloc (.cells #[.int .i64 lv, .int .i64 ev] 3)) w6) := Lib.hid (fun w6 g6 => Chg.of g6 (fun y hy => by simp [Value.ownBlock] at hy; exact hy.symm))
    have RLT := R.out.lt
    clear hl0 he0
    have hl0 : ¬ lv < 0 := by have := CF.out.l0; rw [HLV.out] at this; omega
    have he0 : ¬ ev < 0 := by have := CF.out.e0; rw [HEV.out] at this; omega
    go_wp2_with (at_builtin; refine wp_appendS _ el_int rfl (.tmp 73) (.tmp 74) rfl wb.heap.size _ 2 [.int .i64 lv, .int .i64 ev] (World.ownsRow_lit wb #[.int .i64 lv, .int .i64 ev] 2 (Nat.le_refl _) (by unfold maxLen; omega) rfl) rfl Am 4 cm9 _ rfl (IM.out.grow gA.out) (ints_one _) (by unfold maxLen; omega) (by omega) (by simp) ?_; intro v' w6 o6 g6; obtain ⟨A6, c6, hv6, _⟩ := own_form o6; have CH6 := AF.out w6 g6; have R6 := Lib.hid ((R.out.grow gA.out).chg CH6 (fun e => by have := R.out.lt; omega)); have O6 := Lib.hid o6; have C6 := Lib.hid CH6; have t0 := R6.out.cell 0; have t1 := R6.out.cell 1; have f2 := R6.out.frozen 1; simp at t0 t1; clear o6 g6 CH6; subst hv6)
    clear hwc r0 r1 f0 f1 k0 k1
    obtain ⟨w7, hw7⟩ : ∃ q : World, w6.setCell ⟨w2.heap.size, 1, none⟩ (.slice A6 6 c6) = q := ⟨_, rfl⟩
    have FIN : Hid (AggR w7 (ccircuit (cF a b)) (.agg #[.slice Xz nz cz, .slice A6 6 c6])) := by
      rw [← hw7]
      obtain ⟨F, hF, _⟩ := V.out
      obtain ⟨u0, u1, F0, F1, e, _, q0, _, _⟩ := ccircuit_oopen hF
      injection e with e
      injection e with e
      injection e with e0 _
      subst e0
      have q6 := own_chgK _ (own_growK _ q0 gA.out) C6.out (fun y hy e => by have := CS.lt _ q0 y hy; omega)
      have hg6 : w2.heap.size ∉ F0 := own_ty (Ts := [41]) (tyd_plst (by simp)) q6 R6.out (by decide)
      have o7 : ownF wb.heap.size (cints ([lv, ev] ++ (cM a b).1)) (.slice A6 6 c6) w6 := ownF.ints (n := 6) (by rw [List.map_append]; exact O6.out)
      obtain ⟨F7, h7, _⟩ := o7
      have hg7 : w2.heap.size ∉ F7 := own_ty (Ts := [3]) (tyd_plst (by simp)) h7 R6.out (by decide)
      have e9 : cF a b = ⟨(cM a b).2.gt, [lv, ev] ++ (cM a b).1⟩ := by unfold cF; rw [HLV.out, HEV.out]
      rw [e9]
      exact Lib.hid (ccircuit_mk (CS.toRd _ (own_setC _ q6 _ _ hg6 _)) (CS.toRd _ (own_setC _ h7 _ _ hg7 _)))
    have R7 : Hid (Blk w7 w2.heap.size 28 #[.slice Xz nz cz, .slice A6 6 c6]) := by
      rw [← hw7]
      have := R6.out.set_ 1 (.slice A6 6 c6)
      simpa [Hid] using this
    have G7 : Hid (w.grownBy w7 none) := by
      rw [← hw7]
      have z9 := G.out.size
      exact gb_chg (gbChg (gbT G.out gA.out) C6.out (fun y hy => by have : y = wb.heap.size := hy; omega)) (chgS w6 w2.heap.size 1 _) zb
    rw [hw7]
    clear hw7 O6 C6 R6 V R G gA OM IM AF t0 t1 f2 hl0 he0
    have k0 := Lib.hid (R7.out.cell 0)
    have k1 := Lib.hid (R7.out.cell 1)
    simp only [List.getElem?_toArray, List.getElem?_cons_succ, List.getElem?_cons_zero] at k0 k1
    refine region_reg6 [onT 78 (isV (.agg #[.slice Xz nz cz, .slice A6 6 c6])),
       onT 79 (zrF 80),
       onT 80 (evF w7.heap.size 6 (outsTo (cF a b) (List.replicate 80 0) (cF a b).outs.length)),
       onT 77 (evF w7.heap.size 6 (outsTo (cF a b) (List.replicate 80 0) (cF a b).outs.length)),
       onT 81 (slF w7.heap.size 6 (outsTo (cF a b) (List.replicate 80 0) (cF a b).outs.length)),
       onT 82 (isV (.bool true)),
       onT 12 (slF w7.heap.size 6 (outsTo (cF a b) (List.replicate 80 0) (cF a b).outs.length)),
       onT 13 (isV (.bool true))] [] (by kernel_rfl) (by kernel_rfl) (by kernel_rfl) ?_ ?_ ?_
    · exact stF_cons (stableF_on (isV_st _)) (stF_cons (stableF_on (zrF_st)) (stF_cons (stableF_on (evF_st)) (stF_cons (stableF_on (evF_st)) (stF_cons (stableF_on (slF_st)) (stF_cons (stableF_on (isV_st _)) (stF_cons (stableF_on (slF_st)) (stF_cons (stableF_on (isV_st _)) stF_nil)))))))
    · simp only [hops6, and_true]
      refine ⟨?_, ?_, ?_, ?_, ?_, ?_, ?_, ?_⟩
      · intro f w1 hG hpre hold hd
        have hg4 := gbT (gbD (gbR w7 none)) (gb0 hG)
        clear hG hpre hold
        have k0 := gbk hg4 (k0.out)
        have k1 := gbk hg4 (k1.out)
        (try simp [depsF, bindE, List.filter_cons, bd_data, bd_chain, bd_guard, bd_phase, bd_text, bd_gc, fAt, onT_at, isV] at hd)
        first | simp [puts, dsts, Act.put, hd] | simp [puts, dsts, Act.put]
        try clear hd
        go_wp2_with fail
        exact ⟨_, rfl, by simp [fAt, onT_at, upd_some, isV], Or.inl (gbR _ _)⟩
      · intro f w1 hG hpre hold hd
        have hg4 := gbT (gbD (gbR w7 none)) (gb0 hG)
        clear hG hpre hold
        (try simp [depsF, bindE, List.filter_cons, bd_data, bd_chain, bd_guard, bd_phase, bd_text, bd_gc, fAt, onT_at, isV] at hd)
        first | simp [puts, dsts, Act.put] | skip
        go_wp2_with (at_make; refine wp_makeN _ el_int rfl _ _ rfl 80 rfl rfl (by omega) (by unfold maxLen; omega) ?_; intro w6 o6 g6)
        rw [show (Value.int .i64 0).cells = #[.int .i64 0] from rfl, made_one] at o6
        exact ⟨_, rfl, ⟨_, rfl, Rd.ofOwn (by simpa using o6)⟩, Or.inl g6⟩
      · intro f w1 hG hpre hold hd
        have hg4 := gbT (gbD (gbR w7 none)) (gb0 hG)
        clear hG hpre hold
        (try simp [depsF, bindE, List.filter_cons, bd_data, bd_chain, bd_guard, bd_phase, bd_text, bd_gc, fAt, onT_at, isV] at hd)
        obtain ⟨e78, g, e79, iz⟩ := hd
        simp [puts, dsts, Act.put, e78, e79]
        go_wp2_with fail
        refine (implEvalCircuit_yes (cF a b) _ _ 80 (List.replicate 80 0) w1 (FIN.out.grow hg4) iz zero_in CF.out.okF.ok CF.out.okF.outs).mono ?_
        rintro e w6 ⟨V9, rfl, o6, g6⟩
        obtain ⟨A9, c9, rfl, o6⟩ := o6.row
        rw [L6.out] at o6 ⊢
        have O6 := Lib.hid (o6.lo (show w7.heap.size ≤ w1.heap.size from hg4.size))
        have G6 := Lib.hid g6
        clear o6 g6
        go_wp2_with fail
        exact ⟨_, rfl, ⟨_, _, rfl, O6.out⟩, Or.inl G6.out⟩
      · intro f w1 hG hpre hold hd
        have hg4 := gbT (gbD (gbR w7 none)) (gb0 hG)
        clear hG hpre hold
        (try simp [depsF, bindE, List.filter_cons, bd_data, bd_chain, bd_guard, bd_phase, bd_text, bd_gc, fAt, onT_at, isV] at hd)
        obtain ⟨A9, c9, e9, o9⟩ := hd
        simp [puts, dsts, Act.put, e9]
        go_wp2_with fail
        exact ⟨_, rfl, ⟨_, _, rfl, o9⟩, Or.inl (gbR _ _)⟩
      · intro f w1 hG hpre hold hd
        have hg4 := gbT (gbD (gbR w7 none)) (gb0 hG)
        clear hG hpre hold
        (try simp [depsF, bindE, List.filter_cons, bd_data, bd_chain, bd_guard, bd_phase, bd_text, bd_gc, fAt, onT_at, isV] at hd)
        obtain ⟨A9, c9, e9, o9⟩ := hd
        simp [puts, dsts, Act.put, e9]
        go_wp2_with fail
        exact ⟨_, rfl, ⟨_, _, rfl, o9⟩, Or.inl (gbR _ _)⟩
      · intro f w1 hG hpre hold hd
        have hg4 := gbT (gbD (gbR w7 none)) (gb0 hG)
        clear hG hpre hold
        (try simp [depsF, bindE, List.filter_cons, bd_data, bd_chain, bd_guard, bd_phase, bd_text, bd_gc, fAt, onT_at, isV] at hd)
        first | (have hd2 := hd.1; clear hd; have hd := hd2; clear hd2) | skip
        obtain ⟨A9, c9, e9, o9⟩ := hd
        simp [puts, dsts, Act.put, e9]
        go_wp2_with fail
        exact ⟨_, rfl, rfl, Or.inl (gbR _ _)⟩
      · intro f w1 hG hpre hold hd
        have hg4 := gbT (gbD (gbR w7 none)) (gb0 hG)
        clear hG hpre hold
        (try simp [depsF, bindE, List.filter_cons, bd_data, bd_chain, bd_guard, bd_phase, bd_text, bd_gc, fAt, onT_at, isV] at hd)
        first | (have hd2 := hd.1; clear hd; have hd := hd2; clear hd2) | skip
        obtain ⟨A9, c9, e9, o9⟩ := hd
        simp [puts, dsts, Act.put, e9]
        go_wp2_with fail
        exact ⟨_, rfl, ⟨_, _, rfl, o9⟩, Or.inl (gbR _ _)⟩
      · intro f w1 hG hpre hold hd
        have hg4 := gbT (gbD (gbR w7 none)) (gb0 hG)
        clear hG hpre hold
        (try simp [depsF, bindE, List.filter_cons, bd_data, bd_chain, bd_guard, bd_phase, bd_text, bd_gc, fAt, onT_at, isV] at hd)
        have e9 := hd.1
        clear hd
        simp [puts, dsts, Act.put, e9]
        go_wp2_with fail
        exact ⟨_, rfl, rfl, Or.inl (gbR _ _)⟩
    intro f w8 hG hK
    have g8 := gbT (gbD (gbR w7 none)) (gb0 hG)
    clear hG
    simp only [puts, dsts, Act.put, List.filterMap_cons, List.filterMap_nil, List.setIfInBounds_toArray, List.set_cons_zero, List.set_cons_succ]
    obtain ⟨bp, bq, bR, bS, bT, bU, hO, hbp, hbq, hbits, hp1, hq1, hnum⟩ := CF.out.out _ zero_bit
    have hK12 := knowsF_get hK (i := 6) rfl
    have e13 : f 13 = .bool true := knowsF_get hK (i := 7) rfl
    rw [hO] at hK12
    obtain ⟨A12, c12, e12, o12⟩ := hK12
    have e12 : f 12 = .slice A12 6 c12 := e12
    rw [e12, e13]
    obtain ⟨i12, hc6, hc12⟩ := own4 o12
    obtain ⟨bo, oo, rfl, hbo, -⟩ := i12.at_ (by omega)
    have kp := i12.val (j := 0) (by omega)
    have kq := i12.val (j := 1) (by omega)
    rw [Nat.add_zero] at kp
    have IT : Hid (Ints w8 (some ⟨bo, oo + 2, none⟩) 4 [bR, bS, bT, bU]) := Lib.hid ⟨rfl, fun _ => ⟨bo, oo + 2, rfl, hbo, fun j hj => by
      have := i12.val (j := j + 2) (by omega)
      rw [show oo + 2 + j = oo + (j + 2) by omega, this]
      rcases j with _ | _ | _ | _ | j
      · rfl
      · rfl
      · rfl
      · rfl
      · omega⟩⟩
    have kp : w8.cell? ⟨bo, oo, none⟩ = some (.int .i64 bp) := kp
    have kq : w8.cell? ⟨bo, oo + 1, none⟩ = some (.int .i64 bq) := kq
    have G8 := Lib.hid (gbT G7.out g8)
    have NUM := Lib.hid hnum
    have BITS := Lib.hid hbits
    have hcn : ¬ c12 = 2 := by omega
    obtain ⟨hbp1, hbp2⟩ := hbp
    obtain ⟨hbq1, hbq2⟩ := hbq
    have SP : (bp = 1 ∧ a < b) ∨ (bp = 0 ∧ ¬ a < b) := by by_cases h : a < b; exact .inl ⟨hp1.2 h, h⟩; exact .inr ⟨by have : ¬ bp = 1 := fun e => h (hp1.1 e); omega, h⟩
    have SQ : (bq = 1 ∧ a = b) ∨ (bq = 0 ∧ ¬ a = b) := by by_cases h : a = b; exact .inl ⟨hq1.2 h, h⟩; exact .inr ⟨by have : ¬ bq = 1 := fun e => h (hq1.1 e); omega, h⟩
    clear hK hO hp1 hq1 hbits hnum o12 i12 g8 FIN R7 G7 k0 k1 hbp1 hbp2 hbq1 hbq2 e12 e13 L6 HLV HEV CF
    unfold maxLen at hc12
    rcases SP with ⟨rfl, hab⟩ | ⟨rfl, hab⟩
    all_goals rcases SQ with ⟨rfl, heq⟩ | ⟨rfl, heq⟩
    all_goals try omega
    all_goals
      go_wp2_with fail
      refine (specNumberOf_yes _ 4 _ _ w8 IT.out (by omega) BITS.out).mono ?_
      rintro e w9 ⟨rfl, g9⟩
      rw [NUM.out]
      have G9 := Lib.hid (gbT G8.out g9)
      clear g9
      go_wp2_with fail
      go_ret
      refine ⟨retB ?_, G9.out⟩
      first | rfl | (simp; omega)
end Go.Proofs.Ythdfkiaoahpjpaa
