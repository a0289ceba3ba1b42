/-
  FnArithmetic's walk (printed by wip/gen_art.py).
-/
import Derived.Test.YthdfkiaoahpjpaaMgFnArithmetic44
namespace Go.Proofs.Ythdfkiaoahpjpaa
open Go.RowKit
set_option linter.unusedVariables false
set_option linter.unusedSimpArgs false
theorem ownF.circ {lo g : Nat} {c : CS} {T : TypeId} {v : Value} {w : World} {cs : Array Value} (ht : tyd [T] c) (hT : (28 : TypeId) ∉ [T]) (h : ownF lo c v w) (R : Blk w g 28 cs) (i : Nat) (u : Value) : ownF lo c v (w.setCell ⟨g, i, none⟩ u) := by
  obtain ⟨F, h1, h2⟩ := h
  exact ⟨F, own_setC _ h1 g i (own_ty ht h1 R hT) u, h2⟩
theorem fin_mk {p : List Int × CM} {w : World} {u0 u1 : Value} (h0 : (cgates p.2.gt).rd w u0) (h1 : (cints p.1).rd w u1) : AggR w (ccircuit (fin p)) (.agg #[u0, u1]) := ccircuit_mk h0 h1
theorem aggF.gates {lo : Nat} {m : CM} {s0 s1 : Value} {w : World} (h : aggF lo (ccircuit m) (.agg #[s0, s1]) w) : ownF lo (cgates m.gt) s0 w := by
  obtain ⟨F, hF, hl⟩ := h
  obtain ⟨u0, u1, F0, F1, e, rfl, q0, _, _⟩ := ccircuit_oopen hF
  injection e with e
  injection e with e
  injection e with e0 _
  subst e0
  exact ⟨F0, q0, fun x hx => hl x (by simp [hx])⟩
set_option maxHeartbeats 1500000 in
set_option maxRecDepth 100000 in
theorem FnArithmetic.walk (w : World) (A : Option Addr) (n c : Nat) (zs : List Int) (hz : IntsK .u8 w A n zs) (hm : n ≤ maxLen) :
    Calls Try.prog 4 #[.slice A n c] w fun e w' => e = .returned (.bool true) ∧ w.grownBy w' none := by
  unfold maxLen at hm
  by_cases hbig : 1048576 < n
  · have hd : decide (1048576 < n) = true := by simp; omega
    go_enter Try.func4, Try.ntmps4
    go_wp2_with fail
    refine (big_c _ A n c (by omega)).mono ?_
    rintro e w1 ⟨rfl, rfl⟩
    go_wp2_with fail
    go_ret
    exact ⟨rfl, gbR _ _⟩
  · have hd : decide (1048576 < n) = false := by simp; omega
    have H := Lib.hid (bytesIn hz (by omega))
    clear hz
    go_enter Try.func4, Try.ntmps4
    go_wp2_with fail
    refine (big_c _ A n c (by omega)).mono ?_
    rintro e w1 ⟨rfl, rfl⟩
    rw [hd]
    go_wp2_with fail
    refine (DrawPlaces_c _ A n c zs H.out).mono ?_
    rintro e w1 ⟨v, qs, rfl, hown, hq, hg⟩
    obtain ⟨B, d, rfl, _, _⟩ := own_form hown
    have HI := Lib.hid (show Ints w1 B 12 qs from Rd.ofOwn hown)
    obtain ⟨b9, o9, rfl, hb, hc⟩ := HI.out.at_ (by omega)
    have c0 := hc 0 (by omega)
    rw [Nat.add_zero] at c0
    have c1 := hc 1 (by omega)
    have q0 := hq.at_ 0 (by omega)
    have q1 := hq.at_ 1 (by omega)
    have G := Lib.hid hg
    clear hown hc hg hq
    generalize qs.getD 0 0 = x at *
    generalize qs.getD 1 0 = y at *
    obtain ⟨q00, q01⟩ := q0
    obtain ⟨q10, q11⟩ := q1
    obtain ⟨a, hA⟩ : ∃ a : Nat, x % 16 = (a : Int) := ⟨(x % 16).toNat, by omega⟩
    obtain ⟨b, hB⟩ : ∃ a : Nat, y % 16 = (a : Int) := ⟨(y % 16).toNat, by omega⟩
    have ha : a < 16 := by omega
    have hb2 : b < 16 := by omega
    have CF := Lib.hid (art_is ha hb2)
    go_wp2_with fail
    try rw [hA]
    try rw [hB]
    clear hA hB c0 c1 q00 q01 q10 q11 hb hbig hd hm H HI
    refine (implWordConst_c m0 a _ w1 (circ0 _) (okS_is (by decide)) (by omega)).mono ?_
    rintro e w2 ⟨V1, U1, rfl, v1, o1, g1⟩
    change aggF _ (ccircuit (cA a).2) _ _ at v1
    change ownF _ (cints (cA a).1) _ _ at o1
    obtain ⟨X1, n1, c1, X2, n2, c2, rfl⟩ := v1.form
    obtain ⟨Ax, cx9, rfl, o1⟩ := o1.row
    have lx : (cA a).1.length = 4 := (constTo_len m0 a 4).1
    rw [lx] at o1 ⊢
    obtain ⟨w3, hw3⟩ : ∃ q : World, w2.alloc (.cells #[.slice X1 n1 c1, .slice X2 n2 c2] 28) = q := ⟨_, rfl⟩
    have g3 : w2.grownBy w3 none := by rw [← hw3]; exact gbA (gbR _ _) _
    have R : Hid (Blk w3 w2.heap.size 28 #[.slice X1 n1 c1, .slice X2 n2 c2]) := by rw [← hw3]; exact Lib.hid (Blk.new w2 _ _)
    have V := Lib.hid (v1.grow g3)
    have OX := Lib.hid (o1.grow g3)
    have zb : w.heap.size ≤ w2.heap.size := (gbT G.out g1).size
    have G9 := Lib.hid (gbT G.out (gbT g1 g3))
    clear v1 o1 g1 g3 G lx
    have G := G9
    clear G9
    have k0 := R.out.cell 0
    have k1 := R.out.cell 1
    simp at k0 k1
    go_wp2_with fail
    clear hw3 k0 k1
    refine (implWordConst_c (cA a).2 b _ w3 V.out.r CF.out.okA (by omega)).mono ?_
    rintro e w4 ⟨V4, U4, rfl, v4, o4, g4⟩
    change aggF _ (ccircuit (cB a b).2) _ _ at v4
    obtain ⟨X4, n4, c4, Y4, m4, d4, rfl⟩ := v4.form
    change ownF _ (cints (cB a b).1) _ _ at o4
    obtain ⟨Ay, cy9, rfl, o4⟩ := o4.row
    have ly : (cB a b).1.length = 4 := (constTo_len _ b 4).1
    rw [ly] at o4 ⊢
    clear ly
    have RQ := R.out.grow g4
    have r0 := RQ.cell 0
    have r1 := RQ.cell 1
    have f0 := RQ.frozen 0
    have f1 := RQ.frozen 1
    simp at r0 r1
    obtain ⟨PB, PV, PO, PG⟩ := circ_put RQ v4
    have PG := PG w (gbT G.out g4) zb
    simp only [setCells, Nat.zero_add, Nat.reduceAdd] at PB PV PO PG
    obtain ⟨w5, hwc⟩ : ∃ q : World, (w4.setCell ⟨w2.heap.size, 0, none⟩ (.slice X4 n4 c4)).setCell ⟨w2.heap.size, 1, none⟩ (.slice Y4 m4 d4) = q := ⟨_, rfl⟩
    rw [hwc] at PB PV PO PG
    have OX9 := Lib.hid (PO _ _ _ (OX.out.grow g4))
    have OY9 := Lib.hid (PO _ _ _ (o4))
    clear OX
    have OX := OX9
    clear OX9
    have OY := OY9
    clear OY9
    clear R V RQ G
    have R := Lib.hid PB
    have V := Lib.hid PV
    have G := Lib.hid PG
    clear PB PV PO PG v4 g4
    have k0 := R.out.cell 0
    have k1 := R.out.cell 1
    simp at k0 k1
    go_wp2_with (fail)
    clear hwc r0 r1 f0 f1 k0 k1
    have zw5 := R.out.lt
    refine (implWordAdd_c (cB a b).2 Ax Ay cx9 cy9 (cA a).1 (cB a b).1 _ w5 V.out.r (own4 OX.out).1 (own4 OX.out).2.1 (own4 OX.out).2.2 (own4 OY.out).1 (own4 OY.out).2.1 (own4 OY.out).2.2 CF.out.okB CF.out.x1 CF.out.y1).mono ?_
    rintro e wb1 ⟨V6, U6, rfl, v6, o6, g6⟩
    change aggF _ (ccircuit (cS a b).2) _ _ at v6
    change ownF _ (cints (cS a b).1) _ _ at o6
    obtain ⟨X1, n1, c1, Y1, m1, d1, rfl⟩ := v6.form
    obtain ⟨E1, e1, rfl, o6⟩ := o6.row
    have l6 : (cS a b).1.length = 4 := CF.out.s.l4
    rw [l6] at o6 ⊢
    have gg := Lib.hid (show ownF w5.heap.size (cgates (cS a b).2.gt) (.slice X1 n1 c1) wb1 from aggF.gates v6)
    obtain ⟨wc1, hw3⟩ : ∃ q : World, wb1.alloc (.cells #[.slice X1 n1 c1, .slice Y1 m1 d1] 28) = q := ⟨_, rfl⟩
    have ga : wb1.grownBy wc1 none := by rw [← hw3]; exact gbA (gbR _ _) _
    have RK1 : Hid (Blk wc1 wb1.heap.size 28 #[.slice X1 n1 c1, .slice Y1 m1 d1]) := by rw [← hw3]; exact Lib.hid (Blk.new wb1 _ _)
    have z1a := g6.size
    have z1b : wb1.heap.size + 1 ≤ wc1.heap.size := by rw [← hw3]; simp
    have S1 := Lib.hid (o6.grow ga)
    have GA1 := Lib.hid (gg.out.grow ga)
    have R9 := Lib.hid (Blk.grow R.out (gbT g6 ga))
    clear R
    have R := R9
    clear R9
    have V9 := Lib.hid (V.out.grow (gbT g6 ga))
    clear V
    have V := V9
    clear V9
    have OX9 := Lib.hid (OX.out.grow (gbT g6 ga))
    clear OX
    have OX := OX9
    clear OX9
    have OY9 := Lib.hid (OY.out.grow (gbT g6 ga))
    clear OY
    have OY := OY9
    clear OY9
    have G9 := Lib.hid (gbT G.out (gbT g6 ga))
    clear G
    have G := G9
    clear G9
    have k0 := R.out.cell 0
    have k1 := R.out.cell 1
    simp at k0 k1
    clear v6 o6 g6 ga l6 gg
    go_wp2_with fail
    clear hw3 k0 k1
    refine (implWordSub_c (cB a b).2 Ax Ay cx9 cy9 (cA a).1 (cB a b).1 _ wc1 V.out.r (own4 OX.out).1 (own4 OX.out).2.1 (own4 OX.out).2.2 (own4 OY.out).1 (own4 OY.out).2.1 (own4 OY.out).2.2 CF.out.okB CF.out.x1 CF.out.y1).mono ?_
    rintro e wb2 ⟨V6, U6, rfl, v6, o6, g6⟩
    change aggF _ (ccircuit (cD a b).2) _ _ at v6
    change ownF _ (cints (cD a b).1) _ _ at o6
    obtain ⟨X2, n2, c2, Y2, m2, d2, rfl⟩ := v6.form
    obtain ⟨E2, e2, rfl, o6⟩ := o6.row
    have l6 : (cD a b).1.length = 4 := CF.out.d.l4
    rw [l6] at o6 ⊢
    have gg := Lib.hid (show ownF wc1.heap.size (cgates (cD a b).2.gt) (.slice X2 n2 c2) wb2 from aggF.gates v6)
    obtain ⟨wc2, hw3⟩ : ∃ q : World, wb2.alloc (.cells #[.slice X2 n2 c2, .slice Y2 m2 d2] 28) = q := ⟨_, rfl⟩
    have ga : wb2.grownBy wc2 none := by rw [← hw3]; exact gbA (gbR _ _) _
    have RK2 : Hid (Blk wc2 wb2.heap.size 28 #[.slice X2 n2 c2, .slice Y2 m2 d2]) := by rw [← hw3]; exact Lib.hid (Blk.new wb2 _ _)
    have z2a := g6.size
    have z2b : wb2.heap.size + 1 ≤ wc2.heap.size := by rw [← hw3]; simp
    have S2 := Lib.hid (o6.grow ga)
    have GA2 := Lib.hid (gg.out.grow ga)
    have R9 := Lib.hid (Blk.grow R.out (gbT g6 ga))
    clear R
    have R := R9
    clear R9
    have V9 := Lib.hid (V.out.grow (gbT g6 ga))
    clear V
    have V := V9
    clear V9
    have OX9 := Lib.hid (OX.out.grow (gbT g6 ga))
    clear OX
    have OX := OX9
    clear OX9
    have OY9 := Lib.hid (OY.out.grow (gbT g6 ga))
    clear OY
    have OY := OY9
    clear OY9
    have G9 := Lib.hid (gbT G.out (gbT g6 ga))
    clear G
    have G := G9
    clear G9
    have RK19 := Lib.hid (RK1.out.grow (gbT g6 ga))
    clear RK1
    have RK1 := RK19
    clear RK19
    have S19 := Lib.hid (S1.out.grow (gbT g6 ga))
    clear S1
    have S1 := S19
    clear S19
    have GA19 := Lib.hid (GA1.out.grow (gbT g6 ga))
    clear GA1
    have GA1 := GA19
    clear GA19
    have k0 := R.out.cell 0
    have k1 := R.out.cell 1
    simp at k0 k1
    clear v6 o6 g6 ga l6 gg
    go_wp2_with fail
    clear hw3 k0 k1
    refine (implWordMul_c (cB a b).2 Ax Ay cx9 cy9 (cA a).1 (cB a b).1 _ wc2 V.out.r (own4 OX.out).1 (own4 OX.out).2.1 (own4 OX.out).2.2 (own4 OY.out).1 (own4 OY.out).2.1 (own4 OY.out).2.2 CF.out.okB CF.out.x1 CF.out.y1).mono ?_
    rintro e wb3 ⟨V6, U6, rfl, v6, o6, g6⟩
    change aggF _ (ccircuit (cP a b).2) _ _ at v6
    change ownF _ (cints (cP a b).1) _ _ at o6
    obtain ⟨X3, n3, c3, Y3, m3, d3, rfl⟩ := v6.form
    obtain ⟨E3, e3, rfl, o6⟩ := o6.row
    have l6 : (cP a b).1.length = 4 := CF.out.p.l4
    rw [l6] at o6 ⊢
    have gg := Lib.hid (show ownF wc2.heap.size (cgates (cP a b).2.gt) (.slice X3 n3 c3) wb3 from aggF.gates v6)
    obtain ⟨wc3, hw3⟩ : ∃ q : World, wb3.alloc (.cells #[.slice X3 n3 c3, .slice Y3 m3 d3] 28) = q := ⟨_, rfl⟩
    have ga : wb3.grownBy wc3 none := by rw [← hw3]; exact gbA (gbR _ _) _
    have RK3 : Hid (Blk wc3 wb3.heap.size 28 #[.slice X3 n3 c3, .slice Y3 m3 d3]) := by rw [← hw3]; exact Lib.hid (Blk.new wb3 _ _)
    have z3a := g6.size
    have z3b : wb3.heap.size + 1 ≤ wc3.heap.size := by rw [← hw3]; simp
    have S3 := Lib.hid (o6.grow ga)
    have GA3 := Lib.hid (gg.out.grow ga)
    have R9 := Lib.hid (Blk.grow R.out (gbT g6 ga))
    clear R
    have R := R9
    clear R9
    have V9 := Lib.hid (V.out.grow (gbT g6 ga))
    clear V
    have V := V9
    clear V9
    have OX9 := Lib.hid (OX.out.grow (gbT g6 ga))
    clear OX
    have OX := OX9
    clear OX9
    have OY9 := Lib.hid (OY.out.grow (gbT g6 ga))
    clear OY
    have OY := OY9
    clear OY9
    have G9 := Lib.hid (gbT G.out (gbT g6 ga))
    clear G
    have G := G9
    clear G9
    have RK19 := Lib.hid (RK1.out.grow (gbT g6 ga))
    clear RK1
    have RK1 := RK19
    clear RK19
    have S19 := Lib.hid (S1.out.grow (gbT g6 ga))
    clear S1
    have S1 := S19
    clear S19
    have GA19 := Lib.hid (GA1.out.grow (gbT g6 ga))
    clear GA1
    have GA1 := GA19
    clear GA19
    have RK29 := Lib.hid (RK2.out.grow (gbT g6 ga))
    clear RK2
    have RK2 := RK29
    clear RK29
    have S29 := Lib.hid (S2.out.grow (gbT g6 ga))
    clear S2
    have S2 := S29
    clear S29
    have GA29 := Lib.hid (GA2.out.grow (gbT g6 ga))
    clear GA2
    have GA2 := GA29
    clear GA29
    clear v6 o6 g6 ga l6 gg R V OX OY
    have n12 : wb2.heap.size ≠ wb1.heap.size := by omega
    have n13 : wb3.heap.size ≠ wb1.heap.size := by omega
    have n23 : wb3.heap.size ≠ wb2.heap.size := by omega
    have zb1 : w.heap.size ≤ wb1.heap.size := by omega
    have zb2 : w.heap.size ≤ wb2.heap.size := by omega
    have zb3 : w.heap.size ≤ wb3.heap.size := by omega
    obtain ⟨wd1, hd1⟩ : ∃ q : World, wc3.setCell ⟨wb1.heap.size, 1, none⟩ (.slice E1 4 e1) = q := ⟨_, rfl⟩
    obtain ⟨wd2, hd2⟩ : ∃ q : World, wd1.setCell ⟨wb2.heap.size, 1, none⟩ (.slice E2 4 e2) = q := ⟨_, rfl⟩
    obtain ⟨wd3, hd3⟩ : ∃ q : World, wd2.setCell ⟨wb3.heap.size, 1, none⟩ (.slice E3 4 e3) = q := ⟨_, rfl⟩
    have f1 := RK1.out.frozen 1
    have r1 := RK1.out.cell 1
    simp at r1
    have PR := RK1.out
    have S19 : Hid (ownF w5.heap.size (cints (cS a b).1) (.slice E1 4 e1) wd1) := by rw [← hd1]; exact Lib.hid (ownF.circ (tyd_plst (Ts := [3]) (by simp)) (by decide) S1.out PR 1 _)
    have GA19 : Hid (ownF w5.heap.size (cgates (cS a b).2.gt) (.slice X1 n1 c1) wd1) := by rw [← hd1]; exact Lib.hid (ownF.circ (tyd_plst (Ts := [41]) (by simp)) (by decide) GA1.out PR 1 _)
    have RK19 : Hid (Blk wd1 wb1.heap.size 28 #[.slice X1 n1 c1, .slice E1 4 e1]) := by rw [← hd1]; have := PR.set_ 1 (.slice E1 4 e1); simpa [Hid] using this
    have S29 : Hid (ownF wc1.heap.size (cints (cD a b).1) (.slice E2 4 e2) wd1) := by rw [← hd1]; exact Lib.hid (ownF.circ (tyd_plst (Ts := [3]) (by simp)) (by decide) S2.out PR 1 _)
    have GA29 : Hid (ownF wc1.heap.size (cgates (cD a b).2.gt) (.slice X2 n2 c2) wd1) := by rw [← hd1]; exact Lib.hid (ownF.circ (tyd_plst (Ts := [41]) (by simp)) (by decide) GA2.out PR 1 _)
    have RK29 : Hid (Blk wd1 wb2.heap.size 28 #[.slice X2 n2 c2, .slice Y2 m2 d2]) := by rw [← hd1]; exact Lib.hid (RK2.out.chg (chgS _ _ 1 _) (by first | exact n12 | exact n13 | exact n23 | exact n12.symm | exact n13.symm | exact n23.symm))
    have S39 : Hid (ownF wc2.heap.size (cints (cP a b).1) (.slice E3 4 e3) wd1) := by rw [← hd1]; exact Lib.hid (ownF.circ (tyd_plst (Ts := [3]) (by simp)) (by decide) S3.out PR 1 _)
    have GA39 : Hid (ownF wc2.heap.size (cgates (cP a b).2.gt) (.slice X3 n3 c3) wd1) := by rw [← hd1]; exact Lib.hid (ownF.circ (tyd_plst (Ts := [41]) (by simp)) (by decide) GA3.out PR 1 _)
    have RK39 : Hid (Blk wd1 wb3.heap.size 28 #[.slice X3 n3 c3, .slice Y3 m3 d3]) := by rw [← hd1]; exact Lib.hid (RK3.out.chg (chgS _ _ 1 _) (by first | exact n12 | exact n13 | exact n23 | exact n12.symm | exact n13.symm | exact n23.symm))
    have G9 : Hid (w.grownBy wd1 none) := by rw [← hd1]; exact gb_chg G.out (chgS _ _ 1 _) zb1
    clear PR S1 S2 S3 GA1 GA2 GA3 RK1 RK2 RK3 G
    have S1 := S19
    clear S19
    have S2 := S29
    clear S29
    have S3 := S39
    clear S39
    have GA1 := GA19
    clear GA19
    have GA2 := GA29
    clear GA29
    have GA3 := GA39
    clear GA39
    have RK1 := RK19
    clear RK19
    have RK2 := RK29
    clear RK29
    have RK3 := RK39
    clear RK39
    have G := G9
    clear G9
    have f2 := RK2.out.frozen 1
    have r2 := RK2.out.cell 1
    simp at r2
    have PR := RK2.out
    have S19 : Hid (ownF w5.heap.size (cints (cS a b).1) (.slice E1 4 e1) wd2) := by rw [← hd2]; exact Lib.hid (ownF.circ (tyd_plst (Ts := [3]) (by simp)) (by decide) S1.out PR 1 _)
    have GA19 : Hid (ownF w5.heap.size (cgates (cS a b).2.gt) (.slice X1 n1 c1) wd2) := by rw [← hd2]; exact Lib.hid (ownF.circ (tyd_plst (Ts := [41]) (by simp)) (by decide) GA1.out PR 1 _)
    have RK19 : Hid (Blk wd2 wb1.heap.size 28 #[.slice X1 n1 c1, .slice E1 4 e1]) := by rw [← hd2]; exact Lib.hid (RK1.out.chg (chgS _ _ 1 _) (by first | exact n12 | exact n13 | exact n23 | exact n12.symm | exact n13.symm | exact n23.symm))
    have S29 : Hid (ownF wc1.heap.size (cints (cD a b).1) (.slice E2 4 e2) wd2) := by rw [← hd2]; exact Lib.hid (ownF.circ (tyd_plst (Ts := [3]) (by simp)) (by decide) S2.out PR 1 _)
    have GA29 : Hid (ownF wc1.heap.size (cgates (cD a b).2.gt) (.slice X2 n2 c2) wd2) := by rw [← hd2]; exact Lib.hid (ownF.circ (tyd_plst (Ts := [41]) (by simp)) (by decide) GA2.out PR 1 _)
    have RK29 : Hid (Blk wd2 wb2.heap.size 28 #[.slice X2 n2 c2, .slice E2 4 e2]) := by rw [← hd2]; have := PR.set_ 1 (.slice E2 4 e2); simpa [Hid] using this
    have S39 : Hid (ownF wc2.heap.size (cints (cP a b).1) (.slice E3 4 e3) wd2) := by rw [← hd2]; exact Lib.hid (ownF.circ (tyd_plst (Ts := [3]) (by simp)) (by decide) S3.out PR 1 _)
    have GA39 : Hid (ownF wc2.heap.size (cgates (cP a b).2.gt) (.slice X3 n3 c3) wd2) := by rw [← hd2]; exact Lib.hid (ownF.circ (tyd_plst (Ts := [41]) (by simp)) (by decide) GA3.out PR 1 _)
    have RK39 : Hid (Blk wd2 wb3.heap.size 28 #[.slice X3 n3 c3, .slice Y3 m3 d3]) := by rw [← hd2]; exact Lib.hid (RK3.out.chg (chgS _ _ 1 _) (by first | exact n12 | exact n13 | exact n23 | exact n12.symm | exact n13.symm | exact n23.symm))
    have G9 : Hid (w.grownBy wd2 none) := by rw [← hd2]; exact gb_chg G.out (chgS _ _ 1 _) zb2
    clear PR S1 S2 S3 GA1 GA2 GA3 RK1 RK2 RK3 G
    have S1 := S19
    clear S19
    have S2 := S29
    clear S29
    have S3 := S39
    clear S39
    have GA1 := GA19
    clear GA19
    have GA2 := GA29
    clear GA29
    have GA3 := GA39
    clear GA39
    have RK1 := RK19
    clear RK19
    have RK2 := RK29
    clear RK29
    have RK3 := RK39
    clear RK39
    have G := G9
    clear G9
    have f3 := RK3.out.frozen 1
    have r3 := RK3.out.cell 1
    simp at r3
    have PR := RK3.out
    have S19 : Hid (ownF w5.heap.size (cints (cS a b).1) (.slice E1 4 e1) wd3) := by rw [← hd3]; exact Lib.hid (ownF.circ (tyd_plst (Ts := [3]) (by simp)) (by decide) S1.out PR 1 _)
    have GA19 : Hid (ownF w5.heap.size (cgates (cS a b).2.gt) (.slice X1 n1 c1) wd3) := by rw [← hd3]; exact Lib.hid (ownF.circ (tyd_plst (Ts := [41]) (by simp)) (by decide) GA1.out PR 1 _)
    have RK19 : Hid (Blk wd3 wb1.heap.size 28 #[.slice X1 n1 c1, .slice E1 4 e1]) := by rw [← hd3]; exact Lib.hid (RK1.out.chg (chgS _ _ 1 _) (by first | exact n12 | exact n13 | exact n23 | exact n12.symm | exact n13.symm | exact n23.symm))
    have S29 : Hid (ownF wc1.heap.size (cints (cD a b).1) (.slice E2 4 e2) wd3) := by rw [← hd3]; exact Lib.hid (ownF.circ (tyd_plst (Ts := [3]) (by simp)) (by decide) S2.out PR 1 _)
    have GA29 : Hid (ownF wc1.heap.size (cgates (cD a b).2.gt) (.slice X2 n2 c2) wd3) := by rw [← hd3]; exact Lib.hid (ownF.circ (tyd_plst (Ts := [41]) (by simp)) (by decide) GA2.out PR 1 _)
    have RK29 : Hid (Blk wd3 wb2.heap.size 28 #[.slice X2 n2 c2, .slice E2 4 e2]) := by rw [← hd3]; exact Lib.hid (RK2.out.chg (chgS _ _ 1 _) (by first | exact n12 | exact n13 | exact n23 | exact n12.symm | exact n13.symm | exact n23.symm))
    have S39 : Hid (ownF wc2.heap.size (cints (cP a b).1) (.slice E3 4 e3) wd3) := by rw [← hd3]; exact Lib.hid (ownF.circ (tyd_plst (Ts := [3]) (by simp)) (by decide) S3.out PR 1 _)
    have GA39 : Hid (ownF wc2.heap.size (cgates (cP a b).2.gt) (.slice X3 n3 c3) wd3) := by rw [← hd3]; exact Lib.hid (ownF.circ (tyd_plst (Ts := [41]) (by simp)) (by decide) GA3.out PR 1 _)
    have RK39 : Hid (Blk wd3 wb3.heap.size 28 #[.slice X3 n3 c3, .slice E3 4 e3]) := by rw [← hd3]; have := PR.set_ 1 (.slice E3 4 e3); simpa [Hid] using this
    have G9 : Hid (w.grownBy wd3 none) := by rw [← hd3]; exact gb_chg G.out (chgS _ _ 1 _) zb3
    clear PR S1 S2 S3 GA1 GA2 GA3 RK1 RK2 RK3 G
    have S1 := S19
    clear S19
    have S2 := S29
    clear S29
    have S3 := S39
    clear S39
    have GA1 := GA19
    clear GA19
    have GA2 := GA29
    clear GA29
    have GA3 := GA39
    clear GA39
    have RK1 := RK19
    clear RK19
    have RK2 := RK29
    clear RK29
    have RK3 := RK39
    clear RK39
    have G := G9
    clear G9
    go_wp2_with (at_make; refine wp_makeN _ el_int rfl _ _ rfl 80 rfl rfl (by omega) (by unfold maxLen; omega) ?_; intro we oe ge; have x0 := (RK1.out.grow ge).cell 0; have x1 := (RK1.out.grow ge).cell 1; simp at x0 x1; rw [show (Value.int .i64 0).cells = #[.int .i64 0] from rfl, made_one] at oe; have OE := Lib.hid oe; have GE := Lib.hid ge; clear oe ge)
    clear hd1 hd2 hd3 hw3 r1 r2 r3 f1 f2 f3 x0 x1
    have IZ : Hid (Ints we (some ⟨wd3.heap.size, 0, none⟩) 80 (List.replicate 80 0)) := Lib.hid (Rd.ofOwn (by simpa using OE.out))
    clear OE
    have S19 := Lib.hid (S1.out.grow GE.out)
    clear S1
    have S1 := S19
    clear S19
    have S29 := Lib.hid (S2.out.grow GE.out)
    clear S2
    have S2 := S29
    clear S29
    have S39 := Lib.hid (S3.out.grow GE.out)
    clear S3
    have S3 := S39
    clear S39
    have GA19 := Lib.hid (GA1.out.grow GE.out)
    clear GA1
    have GA1 := GA19
    clear GA19
    have GA29 := Lib.hid (GA2.out.grow GE.out)
    clear GA2
    have GA2 := GA29
    clear GA29
    have GA39 := Lib.hid (GA3.out.grow GE.out)
    clear GA3
    have GA3 := GA39
    clear GA39
    have RK19 := Lib.hid (RK1.out.grow GE.out)
    clear RK1
    have RK1 := RK19
    clear RK19
    have RK29 := Lib.hid (RK2.out.grow GE.out)
    clear RK2
    have RK2 := RK29
    clear RK29
    have RK39 := Lib.hid (RK3.out.grow GE.out)
    clear RK3
    have RK3 := RK39
    clear RK39
    have G9 := Lib.hid (gbT G.out GE.out)
    clear G
    have G := G9
    clear G9
    clear GE
    have AK1 : Hid (AggR we (ccircuit (fin (cS a b))) (.agg #[.slice X1 n1 c1, .slice E1 4 e1])) := by
      obtain ⟨F1, h1, _⟩ := GA1.out
      obtain ⟨F2, h2, _⟩ := S1.out
      exact Lib.hid (fin_mk (CS.toRd _ h1) (CS.toRd _ h2))
    refine (implEvalCircuit_yes (fin (cS a b)) _ _ 80 (List.replicate 80 0) we AK1.out IZ.out zero_in CF.out.s.ok.ok CF.out.s.ok.outs).mono ?_
    rintro e wf1 ⟨V9, rfl, o6, g6⟩
    obtain ⟨H1, h1, rfl, o6⟩ := o6.row
    have l6 : (outsTo (fin (cS a b)) (List.replicate 80 0) (fin (cS a b)).outs.length).length = 4 := by rw [outsTo_len _ _ _ (Nat.le_refl _)]; exact CF.out.s.l4
    rw [l6] at o6 ⊢
    have T1 := Lib.hid o6
    clear o6 l6
    have S19 := Lib.hid (S1.out.grow g6)
    clear S1
    have S1 := S19
    clear S19
    have S29 := Lib.hid (S2.out.grow g6)
    clear S2
    have S2 := S29
    clear S29
    have S39 := Lib.hid (S3.out.grow g6)
    clear S3
    have S3 := S39
    clear S39
    have GA19 := Lib.hid (GA1.out.grow g6)
    clear GA1
    have GA1 := GA19
    clear GA19
    have GA29 := Lib.hid (GA2.out.grow g6)
    clear GA2
    have GA2 := GA29
    clear GA29
    have GA39 := Lib.hid (GA3.out.grow g6)
    clear GA3
    have GA3 := GA39
    clear GA39
    have RK19 := Lib.hid (RK1.out.grow g6)
    clear RK1
    have RK1 := RK19
    clear RK19
    have RK29 := Lib.hid (RK2.out.grow g6)
    clear RK2
    have RK2 := RK29
    clear RK29
    have RK39 := Lib.hid (RK3.out.grow g6)
    clear RK3
    have RK3 := RK39
    clear RK39
    have G9 := Lib.hid (gbT G.out g6)
    clear G
    have G := G9
    clear G9
    have IZ9 := Lib.hid (Ints.grow IZ.out g6)
    clear IZ
    have IZ := IZ9
    clear IZ9
    have AK19 := Lib.hid (AggR.grow AK1.out g6)
    clear AK1
    have AK1 := AK19
    clear AK19
    clear g6
    have x0 := RK2.out.cell 0
    have x1 := RK2.out.cell 1
    simp at x0 x1
    go_wp2_with fail
    clear x0 x1
    have AK2 : Hid (AggR wf1 (ccircuit (fin (cD a b))) (.agg #[.slice X2 n2 c2, .slice E2 4 e2])) := by
      obtain ⟨F1, h1, _⟩ := GA2.out
      obtain ⟨F2, h2, _⟩ := S2.out
      exact Lib.hid (fin_mk (CS.toRd _ h1) (CS.toRd _ h2))
    refine (implEvalCircuit_yes (fin (cD a b)) _ _ 80 (List.replicate 80 0) wf1 AK2.out IZ.out zero_in CF.out.d.ok.ok CF.out.d.ok.outs).mono ?_
    rintro e wf2 ⟨V9, rfl, o6, g6⟩
    obtain ⟨H2, h2, rfl, o6⟩ := o6.row
    have l6 : (outsTo (fin (cD a b)) (List.replicate 80 0) (fin (cD a b)).outs.length).length = 4 := by rw [outsTo_len _ _ _ (Nat.le_refl _)]; exact CF.out.d.l4
    rw [l6] at o6 ⊢
    have T2 := Lib.hid o6
    clear o6 l6
    have S19 := Lib.hid (S1.out.grow g6)
    clear S1
    have S1 := S19
    clear S19
    have S29 := Lib.hid (S2.out.grow g6)
    clear S2
    have S2 := S29
    clear S29
    have S39 := Lib.hid (S3.out.grow g6)
    clear S3
    have S3 := S39
    clear S39
    have GA19 := Lib.hid (GA1.out.grow g6)
    clear GA1
    have GA1 := GA19
    clear GA19
    have GA29 := Lib.hid (GA2.out.grow g6)
    clear GA2
    have GA2 := GA29
    clear GA29
    have GA39 := Lib.hid (GA3.out.grow g6)
    clear GA3
    have GA3 := GA39
    clear GA39
    have RK19 := Lib.hid (RK1.out.grow g6)
    clear RK1
    have RK1 := RK19
    clear RK19
    have RK29 := Lib.hid (RK2.out.grow g6)
    clear RK2
    have RK2 := RK29
    clear RK29
    have RK39 := Lib.hid (RK3.out.grow g6)
    clear RK3
    have RK3 := RK39
    clear RK39
    have G9 := Lib.hid (gbT G.out g6)
    clear G
    have G := G9
    clear G9
    have IZ9 := Lib.hid (Ints.grow IZ.out g6)
    clear IZ
    have IZ := IZ9
    clear IZ9
    have AK19 := Lib.hid (AggR.grow AK1.out g6)
    clear AK1
    have AK1 := AK19
    clear AK19
    have T19 := Lib.hid (T1.out.grow g6)
    clear T1
    have T1 := T19
    clear T19
    have AK29 := Lib.hid (AggR.grow AK2.out g6)
    clear AK2
    have AK2 := AK29
    clear AK29
    clear g6
    have x0 := RK3.out.cell 0
    have x1 := RK3.out.cell 1
    simp at x0 x1
    go_wp2_with fail
    clear x0 x1
    have AK3 : Hid (AggR wf2 (ccircuit (fin (cP a b))) (.agg #[.slice X3 n3 c3, .slice E3 4 e3])) := by
      obtain ⟨F1, h1, _⟩ := GA3.out
      obtain ⟨F2, h2, _⟩ := S3.out
      exact Lib.hid (fin_mk (CS.toRd _ h1) (CS.toRd _ h2))
    refine (implEvalCircuit_yes (fin (cP a b)) _ _ 80 (List.replicate 80 0) wf2 AK3.out IZ.out zero_in CF.out.p.ok.ok CF.out.p.ok.outs).mono ?_
    rintro e wf3 ⟨V9, rfl, o6, g6⟩
    obtain ⟨H3, h3, rfl, o6⟩ := o6.row
    have l6 : (outsTo (fin (cP a b)) (List.replicate 80 0) (fin (cP a b)).outs.length).length = 4 := by rw [outsTo_len _ _ _ (Nat.le_refl _)]; exact CF.out.p.l4
    rw [l6] at o6 ⊢
    have T3 := Lib.hid o6
    clear o6 l6
    have S19 := Lib.hid (S1.out.grow g6)
    clear S1
    have S1 := S19
    clear S19
    have S29 := Lib.hid (S2.out.grow g6)
    clear S2
    have S2 := S29
    clear S29
    have S39 := Lib.hid (S3.out.grow g6)
    clear S3
    have S3 := S39
    clear S39
    have GA19 := Lib.hid (GA1.out.grow g6)
    clear GA1
    have GA1 := GA19
    clear GA19
    have GA29 := Lib.hid (GA2.out.grow g6)
    clear GA2
    have GA2 := GA29
    clear GA29
    have GA39 := Lib.hid (GA3.out.grow g6)
    clear GA3
    have GA3 := GA39
    clear GA39
    have RK19 := Lib.hid (RK1.out.grow g6)
    clear RK1
    have RK1 := RK19
    clear RK19
    have RK29 := Lib.hid (RK2.out.grow g6)
    clear RK2
    have RK2 := RK29
    clear RK29
    have RK39 := Lib.hid (RK3.out.grow g6)
    clear RK3
    have RK3 := RK39
    clear RK39
    have G9 := Lib.hid (gbT G.out g6)
    clear G
    have G := G9
    clear G9
    have IZ9 := Lib.hid (Ints.grow IZ.out g6)
    clear IZ
    have IZ := IZ9
    clear IZ9
    have AK19 := Lib.hid (AggR.grow AK1.out g6)
    clear AK1
    have AK1 := AK19
    clear AK19
    have T19 := Lib.hid (T1.out.grow g6)
    clear T1
    have T1 := T19
    clear T19
    have AK29 := Lib.hid (AggR.grow AK2.out g6)
    clear AK2
    have AK2 := AK29
    clear AK29
    have T29 := Lib.hid (T2.out.grow g6)
    clear T2
    have T2 := T29
    clear T29
    have AK39 := Lib.hid (AggR.grow AK3.out g6)
    clear AK3
    have AK3 := AK39
    clear AK39
    clear g6
    clear S1 S2 S3 GA1 GA2 GA3 IZ
    have DF := Lib.hid (dif_is ha hb2)
    have hab1 : (0 : Int) ≤ (a : Int) + b := by omega
    have hmul : (0 : Int) ≤ (a : Int) * b := Int.mul_nonneg (by omega) (by omega)
    have hmul2 : (a : Int) * b ≤ 225 := by have := Int.mul_le_mul (show (a : Int) ≤ 15 by omega) (show (b : Int) ≤ 15 by omega) (by omega) (by omega); omega
    go_wp2_with fail
    obtain ⟨hbt, hn⟩ := CF.out.s.out _ zero_bit
    have hn2 : numTo (outsTo (fin (cS a b)) (List.replicate 80 0) (fin (cS a b)).outs.length) 4 = ((a : Int) + (b : Int)) % 16 := by rw [hn]; omega
    refine (specNumberOf_yes H1 4 _ _ wf3 (own4 T1.out).1 (by omega) hbt).mono ?_
    rintro e wg1 ⟨rfl, g6⟩
    rw [hn2]
    clear hbt hn hn2
    have T19 := Lib.hid (T1.out.grow g6)
    clear T1
    have T1 := T19
    clear T19
    have T29 := Lib.hid (T2.out.grow g6)
    clear T2
    have T2 := T29
    clear T29
    have T39 := Lib.hid (T3.out.grow g6)
    clear T3
    have T3 := T39
    clear T39
    have AK19 := Lib.hid (AggR.grow AK1.out g6)
    clear AK1
    have AK1 := AK19
    clear AK19
    have AK29 := Lib.hid (AggR.grow AK2.out g6)
    clear AK2
    have AK2 := AK29
    clear AK29
    have AK39 := Lib.hid (AggR.grow AK3.out g6)
    clear AK3
    have AK3 := AK39
    clear AK39
    have RK19 := Lib.hid (RK1.out.grow g6)
    clear RK1
    have RK1 := RK19
    clear RK19
    have RK29 := Lib.hid (RK2.out.grow g6)
    clear RK2
    have RK2 := RK29
    clear RK29
    have RK39 := Lib.hid (RK3.out.grow g6)
    clear RK3
    have RK3 := RK39
    clear RK39
    have G9 := Lib.hid (gbT G.out g6)
    clear G
    have G := G9
    clear G9
    clear g6
    go_wp2_with fail
    obtain ⟨hbt, hn⟩ := CF.out.d.out _ zero_bit
    have hn2 : numTo (outsTo (fin (cD a b)) (List.replicate 80 0) (fin (cD a b)).outs.length) 4 = bits .and .i64 ((a : Int) - (b : Int)) 15 := by rw [hn, DF.out]
    refine (specNumberOf_yes H2 4 _ _ wg1 (own4 T2.out).1 (by omega) hbt).mono ?_
    rintro e wg2 ⟨rfl, g6⟩
    rw [hn2]
    clear hbt hn hn2
    have T19 := Lib.hid (T1.out.grow g6)
    clear T1
    have T1 := T19
    clear T19
    have T29 := Lib.hid (T2.out.grow g6)
    clear T2
    have T2 := T29
    clear T29
    have T39 := Lib.hid (T3.out.grow g6)
    clear T3
    have T3 := T39
    clear T39
    have AK19 := Lib.hid (AggR.grow AK1.out g6)
    clear AK1
    have AK1 := AK19
    clear AK19
    have AK29 := Lib.hid (AggR.grow AK2.out g6)
    clear AK2
    have AK2 := AK29
    clear AK29
    have AK39 := Lib.hid (AggR.grow AK3.out g6)
    clear AK3
    have AK3 := AK39
    clear AK39
    have RK19 := Lib.hid (RK1.out.grow g6)
    clear RK1
    have RK1 := RK19
    clear RK19
    have RK29 := Lib.hid (RK2.out.grow g6)
    clear RK2
    have RK2 := RK29
    clear RK29
    have RK39 := Lib.hid (RK3.out.grow g6)
    clear RK3
    have RK3 := RK39
    clear RK39
    have G9 := Lib.hid (gbT G.out g6)
    clear G
    have G := G9
    clear G9
    clear g6
    go_wp2_with fail
    obtain ⟨hbt, hn⟩ := CF.out.p.out _ zero_bit
    have hn2 : numTo (outsTo (fin (cP a b)) (List.replicate 80 0) (fin (cP a b)).outs.length) 4 = ((a : Int) * (b : Int)) % 16 := by rw [hn]; simp
    refine (specNumberOf_yes H3 4 _ _ wg2 (own4 T3.out).1 (by omega) hbt).mono ?_
    rintro e wg3 ⟨rfl, g6⟩
    rw [hn2]
    clear hbt hn hn2
    have T19 := Lib.hid (T1.out.grow g6)
    clear T1
    have T1 := T19
    clear T19
    have T29 := Lib.hid (T2.out.grow g6)
    clear T2
    have T2 := T29
    clear T29
    have T39 := Lib.hid (T3.out.grow g6)
    clear T3
    have T3 := T39
    clear T39
    have AK19 := Lib.hid (AggR.grow AK1.out g6)
    clear AK1
    have AK1 := AK19
    clear AK19
    have AK29 := Lib.hid (AggR.grow AK2.out g6)
    clear AK2
    have AK2 := AK29
    clear AK29
    have AK39 := Lib.hid (AggR.grow AK3.out g6)
    clear AK3
    have AK3 := AK39
    clear AK39
    have RK19 := Lib.hid (RK1.out.grow g6)
    clear RK1
    have RK1 := RK19
    clear RK19
    have RK29 := Lib.hid (RK2.out.grow g6)
    clear RK2
    have RK2 := RK29
    clear RK29
    have RK39 := Lib.hid (RK3.out.grow g6)
    clear RK3
    have RK3 := RK39
    clear RK39
    have G9 := Lib.hid (gbT G.out g6)
    clear G
    have G := G9
    clear G9
    clear g6
    have x0 := RK1.out.cell 0
    have x1 := RK1.out.cell 1
    simp at x0 x1
    go_wp2_with fail
    clear x0 x1
    have hcn := CF.out.s.cnt
    refine (implCountGates_c (fin (cS a b)) 4 _ wg3 AK1.out).mono ?_
    rintro e wh1 ⟨rfl, g6⟩
    obtain ⟨q1, hq⟩ : ∃ q, gts (fin (cS a b)).gt 4 (fin (cS a b)).gt.length = q := ⟨_, rfl⟩
    rw [hq] at hcn ⊢
    have hc1 : (q1 : Int) ≤ 3 := by omega
    clear hq hcn
    have T19 := Lib.hid (T1.out.grow g6)
    clear T1
    have T1 := T19
    clear T19
    have T29 := Lib.hid (T2.out.grow g6)
    clear T2
    have T2 := T29
    clear T29
    have T39 := Lib.hid (T3.out.grow g6)
    clear T3
    have T3 := T39
    clear T39
    have AK19 := Lib.hid (AggR.grow AK1.out g6)
    clear AK1
    have AK1 := AK19
    clear AK19
    have AK29 := Lib.hid (AggR.grow AK2.out g6)
    clear AK2
    have AK2 := AK29
    clear AK29
    have AK39 := Lib.hid (AggR.grow AK3.out g6)
    clear AK3
    have AK3 := AK39
    clear AK39
    have RK19 := Lib.hid (RK1.out.grow g6)
    clear RK1
    have RK1 := RK19
    clear RK19
    have RK29 := Lib.hid (RK2.out.grow g6)
    clear RK2
    have RK2 := RK29
    clear RK29
    have RK39 := Lib.hid (RK3.out.grow g6)
    clear RK3
    have RK3 := RK39
    clear RK39
    have G9 := Lib.hid (gbT G.out g6)
    clear G
    have G := G9
    clear G9
    clear g6
    have x0 := RK2.out.cell 0
    have x1 := RK2.out.cell 1
    simp at x0 x1
    go_wp2_with fail
    clear x0 x1
    have hcn := CF.out.d.cnt
    refine (implCountGates_c (fin (cD a b)) 4 _ wh1 AK2.out).mono ?_
    rintro e wh2 ⟨rfl, g6⟩
    obtain ⟨q2, hq⟩ : ∃ q, gts (fin (cD a b)).gt 4 (fin (cD a b)).gt.length = q := ⟨_, rfl⟩
    rw [hq] at hcn ⊢
    have hc2 : (q2 : Int) ≤ 3 := by omega
    clear hq hcn
    have T19 := Lib.hid (T1.out.grow g6)
    clear T1
    have T1 := T19
    clear T19
    have T29 := Lib.hid (T2.out.grow g6)
    clear T2
    have T2 := T29
    clear T29
    have T39 := Lib.hid (T3.out.grow g6)
    clear T3
    have T3 := T39
    clear T39
    have AK19 := Lib.hid (AggR.grow AK1.out g6)
    clear AK1
    have AK1 := AK19
    clear AK19
    have AK29 := Lib.hid (AggR.grow AK2.out g6)
    clear AK2
    have AK2 := AK29
    clear AK29
    have AK39 := Lib.hid (AggR.grow AK3.out g6)
    clear AK3
    have AK3 := AK39
    clear AK39
    have RK19 := Lib.hid (RK1.out.grow g6)
    clear RK1
    have RK1 := RK19
    clear RK19
    have RK29 := Lib.hid (RK2.out.grow g6)
    clear RK2
    have RK2 := RK29
    clear RK29
    have RK39 := Lib.hid (RK3.out.grow g6)
    clear RK3
    have RK3 := RK39
    clear RK39
    have G9 := Lib.hid (gbT G.out g6)
    clear G
    have G := G9
    clear G9
    clear g6
    have x0 := RK3.out.cell 0
    have x1 := RK3.out.cell 1
    simp at x0 x1
    go_wp2_with fail
    clear x0 x1
    have hcn := CF.out.p.cnt
    refine (implCountGates_c (fin (cP a b)) 4 _ wh2 AK3.out).mono ?_
    rintro e wh3 ⟨rfl, g6⟩
    obtain ⟨q3, hq⟩ : ∃ q, gts (fin (cP a b)).gt 4 (fin (cP a b)).gt.length = q := ⟨_, rfl⟩
    rw [hq] at hcn ⊢
    have hc3 : (q3 : Int) ≤ 16 := by omega
    clear hq hcn
    have T19 := Lib.hid (T1.out.grow g6)
    clear T1
    have T1 := T19
    clear T19
    have T29 := Lib.hid (T2.out.grow g6)
    clear T2
    have T2 := T29
    clear T29
    have T39 := Lib.hid (T3.out.grow g6)
    clear T3
    have T3 := T39
    clear T39
    have AK19 := Lib.hid (AggR.grow AK1.out g6)
    clear AK1
    have AK1 := AK19
    clear AK19
    have AK29 := Lib.hid (AggR.grow AK2.out g6)
    clear AK2
    have AK2 := AK29
    clear AK29
    have AK39 := Lib.hid (AggR.grow AK3.out g6)
    clear AK3
    have AK3 := AK39
    clear AK39
    have RK19 := Lib.hid (RK1.out.grow g6)
    clear RK1
    have RK1 := RK19
    clear RK19
    have RK29 := Lib.hid (RK2.out.grow g6)
    clear RK2
    have RK2 := RK29
    clear RK29
    have RK39 := Lib.hid (RK3.out.grow g6)
    clear RK3
    have RK3 := RK39
    clear RK39
    have G9 := Lib.hid (gbT G.out g6)
    clear G
    have G := G9
    clear G9
    clear g6
    go_wp2_with fail
    go_ret
    exact ⟨rfl, G.out⟩
end Go.Proofs.Ythdfkiaoahpjpaa
