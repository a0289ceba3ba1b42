/-
  Garble of the program.
-/
import Derived.Test.YthdfkiaoahpjpaaMgFnCaught31
namespace Go.Proofs.Ythdfkiaoahpjpaa
open Go.RowKit
set_option linter.unusedVariables false
set_option linter.unusedSimpArgs false
set_option maxHeartbeats 1600000 in
set_option maxRecDepth 100000 in
theorem implGarble_yes (m : CM) (s : Nat) (v : Value) (w0 : World) (h : AggR w0 (ccircuit m) v) (ok : COk m) (hs : s < 4294967296) :
    Calls Try.prog 76 #[v, .agg #[.int .i64 s, .int .i64 0]] w0 fun e w' => ∃ V, e = .returned (.tuple #[V, .bool true]) ∧ aggF w0.heap.size (cgarb (dltN s) (garZ s m.gt m.gt.length) (garT s m.gt m.gt.length)) V w' ∧ w0.grownBy w' none := by
  have HV := Lib.hid h
  obtain ⟨u0, u1, rfl, h1, h2⟩ := ccircuit_open h
  obtain ⟨A, cA, rfl, hc, hm, hF⟩ := plst_rd (s := 3) (fun _ => rfl) (by omega) h1
  obtain ⟨n, hn⟩ : ∃ n, m.gt.length = n := ⟨_, rfl⟩
  rw [hn] at HV hF hc ⊢
  have HN := Lib.hid hn
  have HF := Lib.hid hF
  have OK := Lib.hid ok
  have hn6 : n ≤ 6000 := by have := ok.few; omega
  have d1 : Hid (tapeB (s : Int) 0 = true) := Lib.hid (tape_yes hs (show 0 ≤ 1000000 by omega))
  obtain ⟨dd, hdd⟩ : ∃ dd, dltN s = dd := ⟨_, rfl⟩
  have hd6 : dd < 65536 := by rw [← hdd]; exact dltN_lt s
  have HDD := Lib.hid hdd
  rw [hdd]
  clear h h1 h2 hF ok hn hm hdd
  obtain ⟨w1, hw1⟩ : ∃ x : World, ((w0.alloc (.cells #[.slice A n cA, u1] 28)).alloc (.cells #[.int .i64 s, .int .i64 0] 65)).alloc (.cells #[.int .i64 0, .slice none 0 0, .slice none 0 0] 100) = x := ⟨_, rfl⟩
  have G1 : Hid (w0.grownBy w1 none) := by rw [← hw1]; exact Lib.hid (gbA (gbA (gbA (gbR _ _) _) _) _)
  have D1 : Hid (Blk w1 w0.heap.size 28 #[.slice A n cA, u1]) := by rw [← hw1]; exact Lib.hid ((Blk.new w0 _ _).grow (gbA (gbA (gbR _ _) _) _))
  have T1 : Hid (Blk w1 (w0.heap.size + 1) 65 #[.int .i64 s, .int .i64 0]) := by rw [← hw1]; exact Lib.hid ((Blk.new' _ _ _ _ (by simp)).grow (gbA (gbR _ _) _))
  have R1 : Hid (Blk w1 (w0.heap.size + 1 + 1) 100 #[.int .i64 0, .slice none 0 0, .slice none 0 0]) := by rw [← hw1]; exact Lib.hid (Blk.new' _ _ _ _ (by simp))
  go_enter Try.func76, Try.ntmps76
  have c0 := D1.out.cell 0
  have c1 := D1.out.cell 1
  simp at c0 c1
  go_wp2_with fail
  clear c0 c1 hw1
  refine (implCircuitOk_c m _ w1 (HV.out.grow G1.out)).mono ?_
  rintro e w2 ⟨rfl, g2⟩
  rw [circB_yes OK.out]
  have c0 := (T1.out.grow g2).cell 0
  have c1 := (T1.out.grow g2).cell 1
  simp at c0 c1
  go_wp2_with fail
  clear c0 c1
  refine (implTapeOk_c s 0 _).mono ?_
  rintro e w3 ⟨rfl, g3⟩
  rw [d1.out]
  have G3 := Lib.hid (gbT G1.out (gbT g2 g3))
  have D3 := Lib.hid (D1.out.grow (gbT g2 g3))
  have T3 := Lib.hid (T1.out.grow (gbT g2 g3))
  have R3 := Lib.hid (R1.out.grow (gbT g2 g3))
  clear D1 T1 R1 G1 g2 g3
  obtain ⟨w4, hw4⟩ : ∃ x : World, w3.alloc (.cells #[.int .i64 0, .slice none 0 0, .slice none 0 0] 100) = x := ⟨_, rfl⟩
  have S4 : Hid (sofF w3.heap.size 100 (cgarb 0 [] []) w3.heap.size w4) := by rw [← hw4]; exact Lib.hid (gar_new _ w3)
  have G4 : Hid (w3.grownBy w4 none) := by rw [← hw4]; exact Lib.hid (gbA (gbR _ _) _)
  have HW4 := Lib.hid hw4
  clear hw4
  have t0 := (T3.out.grow (gbA (gbR _ none) (.cells #[.int .i64 0, .slice none 0 0, .slice none 0 0] 100))).cell 0
  have t1 := (T3.out.grow (gbA (gbR _ none) (.cells #[.int .i64 0, .slice none 0 0, .slice none 0 0] 100))).cell 1
  have u0' := T3.out.cell 1
  simp at t0 t1 u0'
  go_wp2_with fail
  clear t0 t1 u0'
  rw [HW4.out]
  refine (implDeltaOf_yes s _ hs).mono ?_
  rintro e w5 ⟨rfl, g5⟩
  rw [HDD.out]
  obtain ⟨p0, p1, S5, hG5⟩ := gar_put (S4.out.grow g5) (Nat.le_refl _) dd
  have HS5 := Lib.hid S5
  have G5 := Lib.hid (hG5 w3 (Nat.le_refl _) (gbT G4.out g5))
  clear S5 hG5 g5 G4 S4
  have c0 := (D3.out.grow G5.out).cell 0
  have c1 := (D3.out.grow G5.out).cell 1
  simp at c0 c1
  go_wp2_with fail
  clear c0 c1
  have e38 : (0 : Int) = ((0 : Nat) : Int) := rfl
  clear e38
  go_loopw [38] (fun i wr => ∃ k : Nat, k ≤ n ∧ i = .int .i64 k ∧ Hid (sofF w3.heap.size 100 (cgarb dd (garZ s m.gt k) (garT s m.gt k)) w3.heap.size wr) ∧ Hid (w3.grownBy wr none)) (fun i _ => n - (intOf i).toNat)
  case atStart => exact ⟨0, Nat.zero_le _, rfl, HS5, G5⟩
  case round =>
    clear HS5 G5
    obtain ⟨k, hk, rfl, SR, GR⟩ := hrel
    by_cases hlt : k < n
    · have i1 : (k : Int) < (n : Int) := by omega
      obtain ⟨b, o, x, y, z, rfl, hbl, hx, q0, q1, q2⟩ := gates_at (FL.grow HF.out (gbT G3.out GR.out)) hlt
      have hX : m.gt.getD k (0, 0, 0) = (x, y, z) := by simp [List.getD_eq_getElem?_getD, hx]
      have hgb : gateB k (x, y, z) = true := by have := OK.out.gates k (by rw [HN.out]; exact hlt); unfold gtAt at this; rwa [hX] at this
      have HX := Lib.hid hX
      have LZ := Lib.hid (garZ_len s m.gt k)
      have LL := Lib.hid (garZ_lab s m.gt k)
      clear hx hX
      obtain ⟨w7, hw7⟩ : ∃ q : World, wr.alloc (.cells #[.int .i64 x, .int .i64 y, .int .i64 z] 41) = q := ⟨_, rfl⟩
      have g7 : wr.grownBy w7 none := by rw [← hw7]; exact gbA (gbR _ _) _
      have BG : Hid (Blk w7 wr.heap.size 41 #[.int .i64 x, .int .i64 y, .int .i64 z]) := by rw [← hw7]; exact Lib.hid (Blk.new wr _ _)
      obtain ⟨F7, hf7, hf8⟩ := SR.out
      have S7 : Hid (sofF w3.heap.size 100 (cgarb dd (garZ s m.gt k) (garT s m.gt k)) w3.heap.size w7) := Lib.hid ⟨F7, hf7.grow g7, hf8⟩
      have G7 := Lib.hid (gbT GR.out g7)
      have T7 := Lib.hid (T3.out.grow G7.out)
      clear g7 SR GR hf7 hf8
      have k0 := BG.out.cell 0
      have k1 := BG.out.cell 1
      have k2 := BG.out.cell 2
      simp at k0 k1 k2
      rcases gateB_kind hgb with ⟨rfl, a, rfl, ha⟩ | ⟨rfl, hy⟩ | ⟨rfl, a, b2, rfl, rfl, ha, hb2⟩ | ⟨rfl, a, b2, rfl, rfl, ha, hb2⟩ | ⟨rfl, a, rfl, ha⟩
      all_goals clear hgb
      · have HGT := Lib.hid (garT_same (s := s) HX.out (by simp))
        have HGZ : Hid (garZ s m.gt (k + 1) = garZ s m.gt k ++ [((inzN s a : Nat) : Int)]) := by rw [garZ_next (s := s) HX.out, zeroN_1]; exact Lib.hid rfl
        have t0 := T7.out.cell 0
        have t1 := T7.out.cell 1
        simp at t0 t1
        go_wp2_with fail
        clear t0 t1 k0 k1 k2 hw7
        refine (implInputZero_at s a _ _ rfl hs (by omega)).mono ?_
        rintro e w8 ⟨rfl, g8⟩
        have S8 := Lib.hid (S7.out.grow g8)
        have G8 := Lib.hid (gbT G7.out g8)
        clear S7 G7 T7 BG g8
        have S7 := S8
        have G7 := G8
        clear S8 G8
        obtain ⟨A1, c1, F1, pc, -, ho1, hpu⟩ := gar_z S7.out LZ.out (Nat.le_refl _)
        have HO1 := Lib.hid ho1
        have HPU := Lib.hid hpu
        clear ho1 hpu
        go_wp2_with (at_builtin; refine wp_pushF w8 w8.heap.size rfl rfl (.tmp 161) (.tmp 163) rfl _ A1 k c1 (garZ s m.gt k) F1 HO1.out LZ.out rfl rfl (by omega) ?_; intro A8 c8 w9 F9 O9 C9 S9; obtain ⟨q1, q2, S10, G10⟩ := HPU.out w9 A8 (k + 1) c8 F9 _ O9.out C9.out S9.out; have S11 := Lib.hid S10; have G11 := Lib.hid (G10 w3 (Nat.le_refl _) G7.out); clear S10 G10 O9 C9 S9 pc HPU HO1 S7 G7)
        go_roundw
        case rel => exact ⟨k + 1, by omega, by go_num, by first | (rw [HGZ.out, HGT.out]; exact S11) | (rw [HGZ.out]; exact S11), G11⟩
        case measure => simp [intOf]; omega
      · have HGT := Lib.hid (garT_same (s := s) HX.out (by simp))
        have HGZ : Hid (garZ s m.gt (k + 1) = garZ s m.gt k ++ [((inzN s (1000 + k) : Nat) : Int)]) := by rw [garZ_next (s := s) HX.out, zeroN_2]; exact Lib.hid rfl
        have t0 := T7.out.cell 0
        have t1 := T7.out.cell 1
        simp at t0 t1
        go_wp2_with fail
        clear t0 t1 k0 k1 k2 hw7
        refine (implInputZero_at s (1000 + k) _ _ (by omega) hs (by omega)).mono ?_
        rintro e w8 ⟨rfl, g8⟩
        have S8 := Lib.hid (S7.out.grow g8)
        have G8 := Lib.hid (gbT G7.out g8)
        clear S7 G7 T7 BG g8
        have S7 := S8
        have G7 := G8
        clear S8 G8
        obtain ⟨A1, c1, F1, pc, -, ho1, hpu⟩ := gar_z S7.out LZ.out (Nat.le_refl _)
        have HO1 := Lib.hid ho1
        have HPU := Lib.hid hpu
        clear ho1 hpu
        go_wp2_with (at_builtin; refine wp_pushF w8 w8.heap.size rfl rfl (.tmp 161) (.tmp 163) rfl _ A1 k c1 (garZ s m.gt k) F1 HO1.out LZ.out rfl rfl (by omega) ?_; intro A8 c8 w9 F9 O9 C9 S9; obtain ⟨q1, q2, S10, G10⟩ := HPU.out w9 A8 (k + 1) c8 F9 _ O9.out C9.out S9.out; have S11 := Lib.hid S10; have G11 := Lib.hid (G10 w3 (Nat.le_refl _) G7.out); clear S10 G10 O9 C9 S9 pc HPU HO1 S7 G7)
        go_roundw
        case rel => exact ⟨k + 1, by omega, by go_num, by first | (rw [HGZ.out, HGT.out]; exact S11) | (rw [HGZ.out]; exact S11), G11⟩
        case measure => simp [intOf]; omega
      · have HGT := Lib.hid (garT_same (s := s) HX.out (by simp))
        have hkp : 0 < k := by omega
        obtain ⟨Az, cz, Fz, pz, io, -, -⟩ := gar_z S7.out LZ.out (Nat.le_refl _)
        obtain ⟨bo, oo, rfl, -, -⟩ := io.at_ hkp
        have ka := io.val ha
        have kb := io.val hb2
        obtain ⟨va, hva, hva6⟩ := lab_get LL.out a
        obtain ⟨vb, hvb, hvb6⟩ := lab_get LL.out b2
        rw [hva] at ka
        rw [hvb] at kb
        have HGZ : Hid (garZ s m.gt (k + 1) = garZ s m.gt k ++ [((va ^^^ vb : Nat) : Int)]) := by rw [garZ_next (s := s) HX.out, zeroN_3 hva hvb]; exact Lib.hid rfl
        have HXO := Lib.hid (xor_nat va vb (by omega) (by omega))
        have ia : (a : Int) < (k : Int) := by omega
        have ib : (b2 : Int) < (k : Int) := by omega
        have K1 := Lib.hid k1
        have K2 := Lib.hid k2
        have KA := Lib.hid ka
        have KB := Lib.hid kb
        have PZ := Lib.hid pz
        clear hva hvb io ka kb pz
        go_wp2_with fail
        clear k0 k1 k2 hw7
        refine region_grow [isV (.pointer (some ⟨w3.heap.size, 1, none⟩)), isV (.slice (some ⟨bo, oo, none⟩) k cz), isV (.pointer (some ⟨wr.heap.size, 1, none⟩)), isV (.int .i64 a), isV (.pointer (some ⟨bo, oo + a, none⟩)), isV (.int .i64 va), isV (.pointer (some ⟨w3.heap.size, 1, none⟩)), isV (.slice (some ⟨bo, oo, none⟩) k cz), isV (.pointer (some ⟨wr.heap.size, 2, none⟩)), isV (.int .i64 b2), isV (.pointer (some ⟨bo, oo + b2, none⟩)), isV (.int .i64 vb), isV (.int .i64 (bits .xor .i64 va vb)), isV (.int .i64 (bits .xor .i64 va vb))] (by kernel_rfl) (by kernel_rfl) (by kernel_rfl) (by simp [stables, isV_st]) ?_ ?_
        · simp only [hops, and_true]
          refine ⟨?_, ?_, ?_, ?_, ?_, ?_, ?_, ?_, ?_, ?_, ?_, ?_, ?_, ?_⟩
          all_goals
            intro f w1 hG hd
            have k0 := gbk (gbT (gbD (gbR _ _)) hG) (PZ.out)
            have k1 := gbk (gbT (gbD (gbR _ _)) hG) (K1.out)
            have k2 := gbk (gbT (gbD (gbR _ _)) hG) (K2.out)
            have k3 := gbk (gbT (gbD (gbR _ _)) hG) (KA.out)
            have k4 := gbk (gbT (gbD (gbR _ _)) hG) (KB.out)
            simp [deps, tAt, isV] at hd
            first | simp [puts, dsts, Act.put, hd] | simp [puts, dsts, Act.put]
            clear hd
            go_wp2_with (fail)
          all_goals exact ⟨_, rfl, by first | with_reducible exact gbR _ _ | exact hw, by first | (simp [tAt, isV]; done) | (simp [tAt, isV]; assumption)⟩
        intro f w8 hG hd
        simp [knows, tAt, isV] at hd
        obtain ⟨h0_, h1_, h2_, h3_, h4_, h5_, h6_, h7_, h8_, h9_, h10_, h11_, h12_, h13_⟩ := hd
        simp only [puts, dsts, Act.put, h0_, h1_, h2_, h3_, h4_, h5_, h6_, h7_, h8_, h9_, h10_, h11_, h12_, h13_, List.filterMap_cons, List.filterMap_nil, List.setIfInBounds_toArray, List.set_cons_zero, List.set_cons_succ]
        clear h0_ h1_ h2_ h3_ h4_ h5_ h6_ h7_ h8_ h9_ h10_ h11_ h12_ h13_
        have g8 := gbT (gbD (gbR _ none)) hG
        clear hG
        rw [HXO.out]
        clear K1 K2 KA KB PZ
        have S8 := Lib.hid (S7.out.grow g8)
        have G8 := Lib.hid (gbT G7.out g8)
        clear S7 G7 T7 BG g8
        have S7 := S8
        have G7 := G8
        clear S8 G8
        obtain ⟨A1, c1, F1, pc, -, ho1, hpu⟩ := gar_z S7.out LZ.out (Nat.le_refl _)
        have HO1 := Lib.hid ho1
        have HPU := Lib.hid hpu
        clear ho1 hpu
        go_wp2_with (at_builtin; refine wp_pushF w8 w8.heap.size rfl rfl (.tmp 161) (.tmp 163) rfl _ A1 k c1 (garZ s m.gt k) F1 HO1.out LZ.out rfl rfl (by omega) ?_; intro A8 c8 w9 F9 O9 C9 S9; obtain ⟨q1, q2, S10, G10⟩ := HPU.out w9 A8 (k + 1) c8 F9 _ O9.out C9.out S9.out; have S11 := Lib.hid S10; have G11 := Lib.hid (G10 w3 (Nat.le_refl _) G7.out); clear S10 G10 O9 C9 S9 pc HPU HO1 S7 G7)
        go_roundw
        case rel => exact ⟨k + 1, by omega, by go_num, by first | (rw [HGZ.out, HGT.out]; exact S11) | (rw [HGZ.out]; exact S11), G11⟩
        case measure => simp [intOf]; omega
      · have LT := Lib.hid (garT_len s m.gt k (by rw [HN.out]; exact hk))
        have hgl : gts m.gt 4 k ≤ k := gts_le m.gt 4 k
        obtain ⟨q, hq⟩ : ∃ q, 2 * gts m.gt 4 k = q := ⟨_, rfl⟩
        have hq6 : q ≤ 12000 := by omega
        rw [hq] at LT
        have hkp : 0 < k := by omega
        obtain ⟨Az, cz, Fz, pz, io, -, -⟩ := gar_z S7.out LZ.out (Nat.le_refl _)
        obtain ⟨bo, oo, rfl, -, -⟩ := io.at_ hkp
        have ka := io.val ha
        have kb := io.val hb2
        obtain ⟨va, hva, hva6⟩ := lab_get LL.out a
        obtain ⟨vb, hvb, hvb6⟩ := lab_get LL.out b2
        rw [hva] at ka
        rw [hvb] at kb
        obtain ⟨h1, hh1⟩ : ∃ q, hshN va (2 * k) = q := ⟨_, rfl⟩
        obtain ⟨h2, hh2⟩ : ∃ q, hshN (va ^^^ dd) (2 * k) = q := ⟨_, rfl⟩
        obtain ⟨h3, hh3⟩ : ∃ q, hshN vb (2 * k + 1) = q := ⟨_, rfl⟩
        obtain ⟨h4, hh4⟩ : ∃ q, hshN (vb ^^^ dd) (2 * k + 1) = q := ⟨_, rfl⟩
        have h16 : h1 < 65536 := by rw [← hh1]; exact hshN_lt _ _
        have h26 : h2 < 65536 := by rw [← hh2]; exact hshN_lt _ _
        have h36 : h3 < 65536 := by rw [← hh3]; exact hshN_lt _ _
        have h46 : h4 < 65536 := by rw [← hh4]; exact hshN_lt _ _
        obtain ⟨tx, htx⟩ : ∃ q, tabX dd k va vb = q := ⟨_, rfl⟩
        obtain ⟨ty, hty⟩ : ∃ q, tabY dd k va vb = q := ⟨_, rfl⟩
        obtain ⟨zz, hzz⟩ : ∃ q, andZ dd k va vb = q := ⟨_, rfl⟩
        have tx6 : tx < 65536 := by rw [← htx]; exact tabX_lt hd6
        have ty6 : ty < 65536 := by rw [← hty]; exact tabY_lt hva6
        have HGZ : Hid (garZ s m.gt (k + 1) = garZ s m.gt k ++ [((zz : Nat) : Int)]) := by rw [garZ_next (s := s) HX.out, zeroN_4 hva hvb, HDD.out, hzz]; exact Lib.hid rfl
        have HGT : Hid (garT s m.gt (k + 1) = garT s m.gt k ++ [(tx : Int), (ty : Int)]) := by rw [garT, HX.out, tabN_4 hva hvb, HDD.out, htx, hty]; exact Lib.hid rfl
        have xd := xor16 hva6 hd6
        have yd := xor16 hvb6 hd6
        have HX1 := Lib.hid (xor_nat va dd (by omega) (by omega))
        have HX2 := Lib.hid (xor_nat vb dd (by omega) (by omega))
        have HK2 : Hid (2 * (k : Int) = ((2 * k : Nat) : Int)) := Lib.hid (by omega)
        have HK3 : Hid (2 * (k : Int) + 1 = ((2 * k + 1 : Nat) : Int)) := Lib.hid (by omega)
        have hba : bitD vb dd < 65536 := bitD_lt hd6
        have hE : bits .and .i64 (vb : Int) 1 = ((vb &&& 1 : Nat) : Int) := and_nat vb 1 (by omega) (by omega)
        have hE2 : bits .and .i64 (va : Int) 1 = ((va &&& 1 : Nat) : Int) := and_nat va 1 (by omega) (by omega)
        obtain ⟨eb, heb⟩ : ∃ q, vb &&& 1 = q := ⟨_, rfl⟩
        obtain ⟨ea, hea⟩ : ∃ q, va &&& 1 = q := ⟨_, rfl⟩
        obtain ⟨p1, hp1⟩ : ∃ q, bitD vb dd = q := ⟨_, rfl⟩
        have yx6 := xor16 ty6 hva6
        obtain ⟨p2, hp2⟩ : ∃ q, bitD va tx = q := ⟨_, rfl⟩
        obtain ⟨p3, hp3⟩ : ∃ q, bitD vb (ty ^^^ va) = q := ⟨_, rfl⟩
        have p16 : p1 < 65536 := by rw [← hp1]; exact hba
        have p26 : p2 < 65536 := by rw [← hp2]; exact bitD_lt tx6
        have p36 : p3 < 65536 := by rw [← hp3]; exact bitD_lt yx6
        have hP1 : (eb : Int) * (dd : Int) = (p1 : Int) := by rw [← hp1, bitD, heb]; simp
        have hP2 : (ea : Int) * (tx : Int) = (p2 : Int) := by rw [← hp2, bitD, hea]; simp
        have hP3 : (eb : Int) * ((ty ^^^ va : Nat) : Int) = (p3 : Int) := by rw [← hp3, bitD, heb]; simp
        rw [heb] at hE
        rw [hea] at hE2
        have HXY := Lib.hid (xor_nat ty va (by omega) (by omega))
        have HTX : Hid (bits .xor .i64 (bits .xor .i64 (h1 : Int) (h2 : Int)) (p1 : Int) = (tx : Int)) := by
          rw [xor_nat h1 h2 (by omega) (by omega), xor_nat _ p1 (by have := xor16 h16 h26; omega) (by omega), ← htx, tabX, hh1, hh2, hp1]
          exact Lib.hid rfl
        have HTY : Hid (bits .xor .i64 (bits .xor .i64 (h3 : Int) (h4 : Int)) (va : Int) = (ty : Int)) := by
          rw [xor_nat h3 h4 (by omega) (by omega), xor_nat _ va (by have := xor16 h36 h46; omega) (by omega), ← hty, tabY, hh3, hh4]
          exact Lib.hid rfl
        have HZZ : Hid (bits .xor .i64 (bits .xor .i64 (bits .xor .i64 (h1 : Int) (h3 : Int)) (p2 : Int)) (p3 : Int) = (zz : Int)) := by
          have a1 := xor16 h16 h36
          have a2 := xor16 a1 p26
          rw [xor_nat h1 h3 (by omega) (by omega), xor_nat _ p2 (by omega) (by omega), xor_nat _ p3 (by omega) (by omega), ← hzz, andZ, htx, hty, hh1, hh3, hp2, hp3]
          exact Lib.hid rfl
        have HE := Lib.hid hE
        have HE2 := Lib.hid hE2
        have HP1 := Lib.hid hP1
        have HP2 := Lib.hid hP2
        have HP3 := Lib.hid hP3
        have HH1 := Lib.hid hh1
        have HH2 := Lib.hid hh2
        have HH3 := Lib.hid hh3
        have HH4 := Lib.hid hh4
        have ia : (a : Int) < (k : Int) := by omega
        have ib : (b2 : Int) < (k : Int) := by omega
        have PD := Lib.hid (gar_d S7.out)
        clear hE hE2 hP1 hP2 hP3 hh1 hh2 hh3 hh4 htx hty hzz hp1 hp2 hp3 heb hea hva hvb io yx6 hba hgl hq
        go_wp2_with fail
        clear k0 k1 k2 hw7 ka kb pz
        have hE := HE.out
        have hP1 := HP1.out
        refine region_grow [isV (.int .i64 va), isV (.int .i64 k), isV (.int .i64 (2 * (k : Int))), isV (.int .i64 h1), isV (.int .i64 va), isV (.pointer (some ⟨w3.heap.size, 0, none⟩)), isV (.int .i64 dd), isV (.int .i64 (bits .xor .i64 va dd)), isV (.int .i64 k), isV (.int .i64 (2 * (k : Int))), isV (.int .i64 h2), isV (.int .i64 (bits .xor .i64 h1 h2)), isV (.int .i64 vb), isV (.int .i64 eb), isV (.pointer (some ⟨w3.heap.size, 0, none⟩)), isV (.int .i64 dd), isV (.int .i64 p1), isV (.int .i64 (bits .xor .i64 (bits .xor .i64 h1 h2) p1)), isV (.int .i64 (bits .xor .i64 (bits .xor .i64 h1 h2) p1))] (by kernel_rfl) (by kernel_rfl) (by kernel_rfl) (by simp [stables, isV_st]) ?_ ?_
        · simp only [hops, and_true]
          refine ⟨?_, ?_, ?_, ?_, ?_, ?_, ?_, ?_, ?_, ?_, ?_, ?_, ?_, ?_, ?_, ?_, ?_, ?_, ?_⟩
          all_goals
            intro f w1 hG hd
            have k0 := gbk (gbT (gbD (gbR _ _)) hG) (PD.out)
            simp [deps, tAt, isV] at hd
            first | simp [puts, dsts, Act.put, hd] | simp [puts, dsts, Act.put]
            clear hd
            go_wp2_with ((go_at_call 106; first | (with_reducible refine (implHash_at va (2 * k) _ _ _ rfl HK2.out hva6 (by omega)).mono ?_; rintro e w6 ⟨rfl, rfl⟩; rw [HH1.out]) | (with_reducible refine (implHash_at (va ^^^ dd) (2 * k) _ _ _ HX1.out HK2.out xd (by omega)).mono ?_; rintro e w6 ⟨rfl, rfl⟩; rw [HH2.out])))
          all_goals exact ⟨_, rfl, by first | with_reducible exact gbR _ _ | exact hw, by first | (simp [tAt, isV]; done) | (simp [tAt, isV]; assumption)⟩
        intro f w8 hG hd
        simp [knows, tAt, isV] at hd
        obtain ⟨h0_, h1_, h2_, h3_, h4_, h5_, h6_, h7_, h8_, h9_, h10_, h11_, h12_, h13_, h14_, h15_, h16_, h17_, h18_⟩ := hd
        simp only [puts, dsts, Act.put, h0_, h1_, h2_, h3_, h4_, h5_, h6_, h7_, h8_, h9_, h10_, h11_, h12_, h13_, h14_, h15_, h16_, h17_, h18_, List.filterMap_cons, List.filterMap_nil, List.setIfInBounds_toArray, List.set_cons_zero, List.set_cons_succ]
        clear h0_ h1_ h2_ h3_ h4_ h5_ h6_ h7_ h8_ h9_ h10_ h11_ h12_ h13_ h14_ h15_ h16_ h17_ h18_
        have g8 := gbT (gbD (gbR _ none)) hG
        clear hG
        rw [HTX.out]
        clear hE hP1
        have S8 := Lib.hid (S7.out.grow g8)
        have G8 := Lib.hid (gbT G7.out g8)
        clear S7 G7 T7 BG g8 PD
        have S7 := S8
        have G7 := G8
        clear S8 G8
        have PD := Lib.hid (gar_d S7.out)
        go_wp2_with fail
        refine region_grow [isV (.int .i64 vb), isV (.int .i64 k), isV (.int .i64 (2 * (k : Int))), isV (.int .i64 (2 * (k : Int) + 1)), isV (.int .i64 h3), isV (.int .i64 vb), isV (.pointer (some ⟨w3.heap.size, 0, none⟩)), isV (.int .i64 dd), isV (.int .i64 (bits .xor .i64 vb dd)), isV (.int .i64 k), isV (.int .i64 (2 * (k : Int))), isV (.int .i64 (2 * (k : Int) + 1)), isV (.int .i64 h4), isV (.int .i64 (bits .xor .i64 h3 h4)), isV (.int .i64 va), isV (.int .i64 (bits .xor .i64 (bits .xor .i64 h3 h4) va)), isV (.int .i64 (bits .xor .i64 (bits .xor .i64 h3 h4) va))] (by kernel_rfl) (by kernel_rfl) (by kernel_rfl) (by simp [stables, isV_st]) ?_ ?_
        · simp only [hops, and_true]
          refine ⟨?_, ?_, ?_, ?_, ?_, ?_, ?_, ?_, ?_, ?_, ?_, ?_, ?_, ?_, ?_, ?_, ?_⟩
          all_goals
            intro f w1 hG hd
            have k0 := gbk (gbT (gbD (gbR _ _)) hG) (PD.out)
            simp [deps, tAt, isV] at hd
            first | simp [puts, dsts, Act.put, hd] | simp [puts, dsts, Act.put]
            clear hd
            go_wp2_with ((go_at_call 106; first | (with_reducible refine (implHash_at vb (2 * k + 1) _ _ _ rfl HK3.out hvb6 (by omega)).mono ?_; rintro e w6 ⟨rfl, rfl⟩; rw [HH3.out]) | (with_reducible refine (implHash_at (vb ^^^ dd) (2 * k + 1) _ _ _ HX2.out HK3.out yd (by omega)).mono ?_; rintro e w6 ⟨rfl, rfl⟩; rw [HH4.out])))
          all_goals exact ⟨_, rfl, by first | with_reducible exact gbR _ _ | exact hw, by first | (simp [tAt, isV]; done) | (simp [tAt, isV]; assumption)⟩
        intro f w10 hG hd
        simp [knows, tAt, isV] at hd
        obtain ⟨h0_, h1_, h2_, h3_, h4_, h5_, h6_, h7_, h8_, h9_, h10_, h11_, h12_, h13_, h14_, h15_, h16_⟩ := hd
        simp only [puts, dsts, Act.put, h0_, h1_, h2_, h3_, h4_, h5_, h6_, h7_, h8_, h9_, h10_, h11_, h12_, h13_, h14_, h15_, h16_, List.filterMap_cons, List.filterMap_nil, List.setIfInBounds_toArray, List.set_cons_zero, List.set_cons_succ]
        clear h0_ h1_ h2_ h3_ h4_ h5_ h6_ h7_ h8_ h9_ h10_ h11_ h12_ h13_ h14_ h15_ h16_
        have g8 := gbT (gbD (gbR _ none)) hG
        clear hG
        rw [HTY.out]
        have S8 := Lib.hid (S7.out.grow g8)
        have G8 := Lib.hid (gbT G7.out g8)
        clear S7 G7 g8 PD
        have S7 := S8
        have G7 := G8
        clear S8 G8
        obtain ⟨A2, c2, F2, pt, -, ho2, hpu⟩ := gar_t S7.out LT.out (Nat.le_refl _)
        have HO2 := Lib.hid ho2
        have HPU := Lib.hid hpu
        clear ho2 hpu
        go_wp2_with (at_builtin; refine wp_pushF2 w10 w10.heap.size rfl rfl (.tmp 132) (.tmp 135) rfl tx ty A2 q c2 (garT s m.gt k) F2 HO2.out LT.out rfl rfl (by omega) ?_; intro A8 c8 w9 F9 O9 C9 S9; obtain ⟨q1, q2, S10, G10⟩ := HPU.out w9 A8 (q + 2) c8 F9 _ O9.out C9.out S9.out; have S11 := Lib.hid S10; have G11 := Lib.hid (G10 w3 (Nat.le_refl _) G7.out); clear S10 G10 O9 C9 S9 pt HPU HO2 S7 G7)
        obtain ⟨wt, hwt⟩ : ∃ x, w9.setCell ⟨w3.heap.size, 2, none⟩ (.slice A8 (q + 2) c8) = x := ⟨_, rfl⟩
        rw [hwt] at S11 G11 ⊢
        clear hwt q1 q2
        rw [← HGT.out] at S11
        have S7 := S11
        have G7 := G11
        clear S11 G11
        refine (implHash_at va (2 * k) _ _ _ rfl HK2.out hva6 (by omega)).mono ?_
        rintro e w8 ⟨rfl, rfl⟩
        rw [HH1.out]
        go_wp2_with fail
        refine (implHash_at vb (2 * k + 1) _ _ _ rfl HK3.out hvb6 (by omega)).mono ?_
        rintro e w8 ⟨rfl, rfl⟩
        rw [HH3.out]
        have hE := HE.out
        have hE2 := HE2.out
        have hP2 := HP2.out
        have hP3 := HP3.out
        have hXY := HXY.out
        have hZZ := HZZ.out
        obtain ⟨A1, c1, F1, pc, -, ho1, hpu⟩ := gar_z S7.out LZ.out (Nat.le_refl _)
        have HO1 := Lib.hid ho1
        have HPU := Lib.hid hpu
        clear ho1 hpu
        go_wp2_with (at_builtin; refine wp_pushF wt wt.heap.size rfl rfl (.tmp 161) (.tmp 163) rfl (zz : Int) A1 k c1 (garZ s m.gt k) F1 HO1.out LZ.out rfl rfl (by omega) ?_; intro A8 c8 w9 F9 O9 C9 S9; obtain ⟨q1, q2, S10, G10⟩ := HPU.out w9 A8 (k + 1) c8 F9 _ O9.out C9.out S9.out; have S11 := Lib.hid S10; have G11 := Lib.hid (G10 w3 (Nat.le_refl _) G7.out); clear S10 G10 O9 C9 S9 pc HPU HO1 S7 G7)
        go_roundw
        case rel => exact ⟨k + 1, by omega, by go_num, by first | (rw [HGZ.out, HGT.out]; exact S11) | (rw [HGZ.out]; exact S11), G11⟩
        case measure => simp [intOf]; omega
      · have HGT := Lib.hid (garT_same (s := s) HX.out (by simp))
        have hkp : 0 < k := by omega
        obtain ⟨Az, cz, Fz, pz, io, -, -⟩ := gar_z S7.out LZ.out (Nat.le_refl _)
        obtain ⟨bo, oo, rfl, -, -⟩ := io.at_ hkp
        have ka := io.val ha
        obtain ⟨va, hva, hva6⟩ := lab_get LL.out a
        rw [hva] at ka
        have HGZ : Hid (garZ s m.gt (k + 1) = garZ s m.gt k ++ [((va ^^^ dd : Nat) : Int)]) := by rw [garZ_next (s := s) HX.out, zeroN_5 hva, HDD.out]; exact Lib.hid rfl
        have HXO := Lib.hid (xor_nat va dd (by omega) (by omega))
        have ia : (a : Int) < (k : Int) := by omega
        have K1 := Lib.hid k1
        have KA := Lib.hid ka
        have PZ := Lib.hid pz
        have PD := Lib.hid (gar_d S7.out)
        clear hva io ka pz
        go_wp2_with fail
        clear k0 k1 k2 hw7
        refine region_grow [isV (.pointer (some ⟨w3.heap.size, 1, none⟩)), isV (.slice (some ⟨bo, oo, none⟩) k cz), isV (.pointer (some ⟨wr.heap.size, 1, none⟩)), isV (.int .i64 a), isV (.pointer (some ⟨bo, oo + a, none⟩)), isV (.int .i64 va), isV (.pointer (some ⟨w3.heap.size, 0, none⟩)), isV (.int .i64 dd), isV (.int .i64 (bits .xor .i64 va dd)), isV (.int .i64 (bits .xor .i64 va dd))] (by kernel_rfl) (by kernel_rfl) (by kernel_rfl) (by simp [stables, isV_st]) ?_ ?_
        · simp only [hops, and_true]
          refine ⟨?_, ?_, ?_, ?_, ?_, ?_, ?_, ?_, ?_, ?_⟩
          all_goals
            intro f w1 hG hd
            have k0 := gbk (gbT (gbD (gbR _ _)) hG) (PZ.out)
            have k1 := gbk (gbT (gbD (gbR _ _)) hG) (K1.out)
            have k2 := gbk (gbT (gbD (gbR _ _)) hG) (KA.out)
            have k3 := gbk (gbT (gbD (gbR _ _)) hG) (PD.out)
            simp [deps, tAt, isV] at hd
            first | simp [puts, dsts, Act.put, hd] | simp [puts, dsts, Act.put]
            clear hd
            go_wp2_with (fail)
          all_goals exact ⟨_, rfl, by first | with_reducible exact gbR _ _ | exact hw, by first | (simp [tAt, isV]; done) | (simp [tAt, isV]; assumption)⟩
        intro f w8 hG hd
        simp [knows, tAt, isV] at hd
        obtain ⟨h0_, h1_, h2_, h3_, h4_, h5_, h6_, h7_, h8_, h9_⟩ := hd
        simp only [puts, dsts, Act.put, h0_, h1_, h2_, h3_, h4_, h5_, h6_, h7_, h8_, h9_, List.filterMap_cons, List.filterMap_nil, List.setIfInBounds_toArray, List.set_cons_zero, List.set_cons_succ]
        clear h0_ h1_ h2_ h3_ h4_ h5_ h6_ h7_ h8_ h9_
        have g8 := gbT (gbD (gbR _ none)) hG
        clear hG
        rw [HXO.out]
        clear K1 KA PZ PD
        have S8 := Lib.hid (S7.out.grow g8)
        have G8 := Lib.hid (gbT G7.out g8)
        clear S7 G7 T7 BG g8
        have S7 := S8
        have G7 := G8
        clear S8 G8
        obtain ⟨A1, c1, F1, pc, -, ho1, hpu⟩ := gar_z S7.out LZ.out (Nat.le_refl _)
        have HO1 := Lib.hid ho1
        have HPU := Lib.hid hpu
        clear ho1 hpu
        go_wp2_with (at_builtin; refine wp_pushF w8 w8.heap.size rfl rfl (.tmp 161) (.tmp 163) rfl _ A1 k c1 (garZ s m.gt k) F1 HO1.out LZ.out rfl rfl (by omega) ?_; intro A8 c8 w9 F9 O9 C9 S9; obtain ⟨q1, q2, S10, G10⟩ := HPU.out w9 A8 (k + 1) c8 F9 _ O9.out C9.out S9.out; have S11 := Lib.hid S10; have G11 := Lib.hid (G10 w3 (Nat.le_refl _) G7.out); clear S10 G10 O9 C9 S9 pc HPU HO1 S7 G7)
        go_roundw
        case rel => exact ⟨k + 1, by omega, by go_num, by first | (rw [HGZ.out, HGT.out]; exact S11) | (rw [HGZ.out]; exact S11), G11⟩
        case measure => simp [intOf]; omega
    · have hkn : k = n := by omega
      subst hkn
      obtain ⟨A1, n1, c1, B1, n2, c2, F1, l0, l1, l2, ho, hF1⟩ := gar_load SR.out
      have R9 := R3.out.grow GR.out
      have z3 := R3.out.lt
      have RS := SOF.store R9 (us := [.int .i64 dd, .slice A1 n1 c1, .slice B1 n2 c2]) rfl ho (fun hx => by have := hF1 _ hx; omega)
      simp only [setCells, Nat.zero_add, Nat.reduceAdd] at RS
      have r0 := R9.cell 0
      have r1 := R9.cell 1
      have r2 := R9.cell 2
      have f0 := R9.frozen 0
      have f1 := R9.frozen 1
      have f2 := R9.frozen 2
      simp at r0 r1 r2 f0 f1 f2
      have GE : Hid (w0.grownBy (setCells wr (w0.heap.size + 1 + 1) 0 [.int .i64 dd, .slice A1 n1 c1, .slice B1 n2 c2]) none) := Lib.hid (gb_chg (gbT G3.out GR.out) (chg_setCells _ _ _ _) (by omega))
      simp only [setCells, Nat.zero_add, Nat.reduceAdd] at GE
      have HRS := Lib.hid RS
      clear RS
      go_wp2_with fail
      obtain ⟨vs, B9, o9⟩ := HRS.out.agg
      have B := ((R9.set_ 0 (.int .i64 dd)).set_ 1 (.slice A1 n1 c1)).set_ 2 (.slice B1 n2 c2)
      have e : some (Obj.cells vs.toArray 100 (0, 0)) = some (Obj.cells #[.int .i64 dd, .slice A1 n1 c1, .slice B1 n2 c2] 100 (0, 0)) := B9.symm.trans B
      injection e with e
      injection e with e _
      rw [e] at o9 B9
      refine ret_ct Try.results76 (by rfl) stGarbled (cs := #[.int .i64 dd, .slice A1 n1 c1, .slice B1 n2 c2]) B9 (by rfl) (by rfl) ?_
      exact ⟨_, rfl, ⟨F1, o9, fun x hx => by have := hF1 _ hx; omega⟩, GE.out⟩
end Go.Proofs.Ythdfkiaoahpjpaa
