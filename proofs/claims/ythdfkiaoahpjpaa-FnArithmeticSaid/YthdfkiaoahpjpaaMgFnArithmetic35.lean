/-
  EvalWires, EvalCircuit of the program.
-/
import Derived.Test.YthdfkiaoahpjpaaMgFnArithmetic34
namespace Go.Proofs.Ythdfkiaoahpjpaa
open Go.RowKit
set_option linter.unusedVariables false
set_option linter.unusedSimpArgs false
theorem gateB_kind {k : Nat} {x y z : Int} (h : gateB k (x, y, z) = true) : (x = 1 ∧ ∃ a : Nat, y = a ∧ a < 80) ∨ (x = 2 ∧ bitI y) ∨ (x = 3 ∧ ∃ a b : Nat, y = a ∧ z = b ∧ a < k ∧ b < k) ∨ (x = 4 ∧ ∃ a b : Nat, y = a ∧ z = b ∧ a < k ∧ b < k) ∨ (x = 5 ∧ ∃ a : Nat, y = a ∧ a < k) := by
  unfold gateB inB at h
  by_cases h1 : x = 1
  · simp [h1] at h
    exact .inl ⟨h1, y.toNat, by omega, by omega⟩
  by_cases h2 : x = 2
  · simp [h2] at h
    exact .inr (.inl ⟨h2, ⟨h.1.1, h.1.2⟩⟩)
  by_cases h3 : x = 3
  · simp [h3] at h
    exact .inr (.inr (.inl ⟨h3, y.toNat, z.toNat, by omega, by omega, by omega, by omega⟩))
  by_cases h4 : x = 4
  · simp [h4] at h
    exact .inr (.inr (.inr (.inl ⟨h4, y.toNat, z.toNat, by omega, by omega, by omega, by omega⟩)))
  by_cases h5 : x = 5
  · simp [h5] at h
    exact .inr (.inr (.inr (.inr ⟨h5, y.toNat, by omega, by omega⟩)))
  · simp [h1, h2, h3, h4, h5] at h
theorem inB_bit {z : Int} (h : inB z 0 1 = true) : bitI z := by
  unfold inB at h
  simp at h
  exact ⟨h.1, h.2⟩
set_option maxHeartbeats 8000000 in
set_option maxRecDepth 100000 in
theorem implEvalWires_yes (m : CM) (v : Value) (B : Option Addr) (d : Nat) (bs : List Int) (w0 : World) (h : AggR w0 (ccircuit m) v) (hb : Ints w0 B 80 bs) (hbit : ∀ z ∈ bs, inB z 0 1 = true) (ok : COk m) :
    Calls Try.prog 57 #[v, .slice B 80 d] w0 fun e w' => ∃ V, e = .returned V ∧ ownF w0.heap.size (cints (wiresTo bs m.gt m.gt.length)) V w' ∧ w0.grownBy w' none := by
  have HV := Lib.hid h
  obtain ⟨u0, u1, rfl, h1, h2⟩ := ccircuit_open h
  obtain ⟨A, cA, rfl, hc, hm, hF⟩ := plst_rd (s := 3) (fun _ => rfl) (by omega) h1
  obtain ⟨bb, ob, rfl, -, -⟩ := hb.at_ (by omega)
  obtain ⟨n, hn⟩ : ∃ n, m.gt.length = n := ⟨_, rfl⟩
  rw [hn] at HV hF hc ⊢
  have HN := Lib.hid hn
  have HF := Lib.hid hF
  have HB := Lib.hid hb
  have HBI := Lib.hid hbit
  have OK := Lib.hid ok
  have hn6 : n ≤ 6000 := by have := ok.few; omega
  clear h h1 h2 hF hb hbit ok hn hm
  obtain ⟨w1, hw1⟩ : ∃ x : World, w0.alloc (.cells #[.slice A n cA, u1] 28) = x := ⟨_, rfl⟩
  have D1 : Hid (Blk w1 w0.heap.size 28 #[.slice A n cA, u1]) := by rw [← hw1]; exact Blk.new w0 _ _
  have G1 : Hid (w0.grownBy w1 none) := by rw [← hw1]; exact gbA (gbR _ _) _
  go_enter Try.func57, Try.ntmps57
  have k0 := D1.out.cell 0
  have k1 := D1.out.cell 1
  simp at k0 k1
  go_wp2_with fail
  clear hw1 k0 k1
  refine (implCircuitOk_c m _ w1 (HV.out.grow G1.out)).mono ?_
  rintro e w2 ⟨rfl, g2⟩
  rw [circB_yes OK.out]
  have D2 := Lib.hid (D1.out.grow g2)
  have G2 := Lib.hid (gbT G1.out g2)
  clear g2 D1 G1
  go_wp2_with fail
  refine (implareBits_yes _ 80 d bs w2 (HB.out.grow G2.out) (by omega) HBI.out).mono ?_
  rintro e w2 ⟨rfl, rfl⟩
  obtain ⟨w3, hw3⟩ : ∃ x : World, w2.alloc (.cells #[] 3) = x := ⟨_, rfl⟩
  have g3 : w2.grownBy w3 none := by rw [← hw3]; exact gbA (gbR _ _) _
  have D3 := Lib.hid (D2.out.grow g3)
  have G3 := Lib.hid (gbT G2.out g3)
  have R3 : Hid (ownF w0.heap.size (cints (wiresTo bs m.gt 0)) (.slice (some ⟨w2.heap.size, 0, none⟩) 0 0) w3) := by
    rw [← hw3]
    exact Lib.hid (ownF.ints (World.ownsRow_made w2 #[] 0 G2.out.size (by simp) rfl))
  have k0 := D3.out.cell 0
  have k1 := D3.out.cell 1
  simp at k0 k1
  clear g3 D2 G2
  go_wp2_with fail
  try rw [hw3]
  clear hw3 k0 k1
  go_loopw [5, 26] (fun t i wr => ∃ k c1 : Nat, ∃ A1 : Option Addr, k ≤ n ∧ i = .int .i64 k ∧ t = .slice A1 k c1 ∧ Hid (ownF w0.heap.size (cints (wiresTo bs m.gt k)) (.slice A1 k c1) wr) ∧ Hid (Blk wr w0.heap.size 28 #[.slice A n cA, u1]) ∧ Hid (w0.grownBy wr none)) (fun _ i _ => n - (intOf i).toNat)
  case atStart => exact ⟨0, 0, _, Nat.zero_le _, rfl, rfl, R3, D3, G3⟩
  case round =>
    clear R3 D3 G3
    obtain ⟨k, c1, A1, hk, rfl, rfl, RO, DR, GR⟩ := hrel
    by_cases hlt : k < n
    · have i1 : (k : Int) < (n : Int) := by omega
      obtain ⟨b, o, x, y, z, rfl, hbl, hx, q0, q1, q2⟩ := gates_at (FL.grow HF.out GR.out) hlt
      have HX : Hid (m.gt.getD k (0, 0, 0) = (x, y, z)) := by simp [Hid, List.getD_eq_getElem?_getD, hx]
      have hgb : gateB k (x, y, z) = true := by have := OK.out.gates k (by rw [HN.out]; exact hlt); unfold gtAt at this; rwa [HX.out] at this
      have hst : wiresTo bs m.gt (k + 1) = wiresTo bs m.gt k ++ [gv bs (wiresTo bs m.gt k) (m.gt.getD k (0, 0, 0))] := rfl
      have HST := Lib.hid hst
      have LW := Lib.hid (wiresTo_len bs m.gt k)
      have WB := Lib.hid (wires_bit (fun x hx => inB_bit (HBI.out x hx)) OK.out k (by rw [HN.out]; omega))
      clear hx hst
      obtain ⟨w7, hw7⟩ : ∃ q : World, wr.alloc (.cells #[.int .i64 x, .int .i64 y, .int .i64 z] 41) = q := ⟨_, rfl⟩
      have g7 : wr.grownBy w7 none := by rw [← hw7]; exact gbA (gbR _ _) _
      have BG : Hid (Blk w7 wr.heap.size 41 #[.int .i64 x, .int .i64 y, .int .i64 z]) := by rw [← hw7]; exact Lib.hid (Blk.new wr _ _)
      have O7 := Lib.hid (RO.out.grow g7)
      have D7 := Lib.hid (DR.out.grow g7)
      have G7 := Lib.hid (gbT GR.out g7)
      have hz7 := g7.size
      clear g7 RO DR GR
      have k0 := BG.out.cell 0
      have k1 := BG.out.cell 1
      have k2 := BG.out.cell 2
      simp at k0 k1 k2
      rcases gateB_kind hgb with ⟨rfl, a, rfl, ha⟩ | ⟨rfl, hy⟩ | ⟨rfl, a, b2, rfl, rfl, ha, hb2⟩ | ⟨rfl, a, b2, rfl, rfl, ha, hb2⟩ | ⟨rfl, a, rfl, ha⟩
      all_goals clear hgb
      · have ia : (a : Int) < 80 := by omega
        have ka := (HB.out.grow G7.out).val ha
        obtain ⟨va, hva⟩ : ∃ q, bs.getD a 0 = q := ⟨_, rfl⟩
        rw [hva] at ka
        have HVA := Lib.hid hva
        clear hva
        go_wp2_with (at_builtin; refine wp_pushI w7 w7.heap.size rfl rfl (.tmp 77) (.tmp 79) rfl va w0.heap.size _ k c1 (wiresTo bs m.gt k) O7.out LW.out rfl rfl (by have := OK.out.few; have := HN.out; omega) (by have := G7.out.size; omega) ?_; intro A8 c8 w9 O9 C9)
        have O10 : Hid (ownF w0.heap.size (cints (wiresTo bs m.gt (k + 1))) (.slice A8 (k + 1) c8) w9) := by
          rw [HST.out, show gv bs (wiresTo bs m.gt k) (m.gt.getD k (0, 0, 0)) = va by rw [HX.out, ← HVA.out]; simp [gv]]
          exact O9
        have G10 := Lib.hid (gbChg G7.out C9.out (fun y hy => hy.1))
        have D10 := Lib.hid (D7.out.chg C9.out (fun hy => by have h1 := D7.out.lt; obtain ⟨_, cur, hc⟩ := hy; unfold Blk at hc; have h2 := D7.out; unfold Blk at h2; rw [h2] at hc; injection hc with hc; injection hc with _ hc; exact absurd hc (by decide)))
        clear O7 C9 O9 G7 D7
        go_roundw
        case rel => exact ⟨k + 1, c8, A8, by omega, by go_num, rfl, O10, D10, G10⟩
        case measure => simp [intOf]; omega
      · skip
        go_wp2_with (at_builtin; refine wp_pushI w7 w7.heap.size rfl rfl (.tmp 77) (.tmp 79) rfl y w0.heap.size _ k c1 (wiresTo bs m.gt k) O7.out LW.out rfl rfl (by have := OK.out.few; have := HN.out; omega) (by have := G7.out.size; omega) ?_; intro A8 c8 w9 O9 C9)
        have O10 : Hid (ownF w0.heap.size (cints (wiresTo bs m.gt (k + 1))) (.slice A8 (k + 1) c8) w9) := by
          rw [HST.out, show gv bs (wiresTo bs m.gt k) (m.gt.getD k (0, 0, 0)) = y by rw [HX.out]; simp [gv]]
          exact O9
        have G10 := Lib.hid (gbChg G7.out C9.out (fun y hy => hy.1))
        have D10 := Lib.hid (D7.out.chg C9.out (fun hy => by have h1 := D7.out.lt; obtain ⟨_, cur, hc⟩ := hy; unfold Blk at hc; have h2 := D7.out; unfold Blk at h2; rw [h2] at hc; injection hc with hc; injection hc with _ hc; exact absurd hc (by decide)))
        clear O7 C9 O9 G7 D7
        go_roundw
        case rel => exact ⟨k + 1, c8, A8, by omega, by go_num, rfl, O10, D10, G10⟩
        case measure => simp [intOf]; omega
      · have hkp : 0 < k := by omega
        have io : Ints w7 A1 k (wiresTo bs m.gt k) := by
          obtain ⟨F, h1, _⟩ := O7.out
          exact (cints_rd' ((cints _).toRd h1)).2.2.2
        obtain ⟨bo, oo, rfl, -, -⟩ := io.at_ hkp
        have ka := Lib.hid (io.val ha)
        have kb := Lib.hid (io.val hb2)
        have hwa := getD_bit WB.out a
        have hwb := getD_bit WB.out b2
        obtain ⟨va, hva⟩ : ∃ q, (wiresTo bs m.gt k).getD a 0 = q := ⟨_, rfl⟩
        obtain ⟨vb, hvb⟩ : ∃ q, (wiresTo bs m.gt k).getD b2 0 = q := ⟨_, rfl⟩
        rw [hva] at ka hwa
        rw [hvb] at kb hwb
        have HVA := Lib.hid hva
        have HVB := Lib.hid hvb
        have HBX := Lib.hid (bx_bits hwa hwb)
        have ia : (a : Int) < (k : Int) := by omega
        have ib : (b2 : Int) < (k : Int) := by omega
        have K1 := Lib.hid k1
        have K2 := Lib.hid k2
        clear hva hvb hwa hwb io
        go_wp2_with fail
        clear k0 k1 k2 hw7
        refine region_grow [isV (.slice (some ⟨bo, oo, none⟩) k c1), isV (.pointer (some ⟨wr.heap.size, 1, none⟩)), isV (.int .i64 a), isV (.pointer (some ⟨bo, oo + a, none⟩)), isV (.int .i64 va), isV (.slice (some ⟨bo, oo, none⟩) k c1), isV (.pointer (some ⟨wr.heap.size, 2, none⟩)), isV (.int .i64 b2), isV (.pointer (some ⟨bo, oo + b2, none⟩)), isV (.int .i64 vb), isV (.int .i64 (bits .xor .i64 va vb)), isV (.int .i64 (bits .xor .i64 va vb))] (by kernel_rfl) (by kernel_rfl) (by kernel_rfl) (by simp [stables, isV_st]) ?_ ?_
        · simp only [hops, and_true]
          refine ⟨?_, ?_, ?_, ?_, ?_, ?_, ?_, ?_, ?_, ?_, ?_, ?_⟩
          all_goals
            intro f w1 hG hd
            have k0 := gbk (gbT (gbD (gbR _ _)) hG) (K1.out)
            have k1 := gbk (gbT (gbD (gbR _ _)) hG) (K2.out)
            have k2 := gbk (gbT (gbD (gbR _ _)) hG) (ka.out)
            have k3 := gbk (gbT (gbD (gbR _ _)) hG) (kb.out)
            simp [deps, tAt, isV] at hd
            first | simp [puts, dsts, Act.put, hd] | simp [puts, dsts, Act.put]
            clear hd
            go_wp2_with (fail)
          all_goals exact ⟨_, rfl, by first | with_reducible exact gbR _ _ | exact hw, by first | (simp [tAt, isV]; done) | (simp [tAt, isV]; assumption)⟩
        intro f w8 hG hd
        simp [knows, tAt, isV] at hd
        obtain ⟨h0_, h1_, h2_, h3_, h4_, h5_, h6_, h7_, h8_, h9_, h10_, h11_⟩ := hd
        simp only [puts, dsts, Act.put, h0_, h1_, h2_, h3_, h4_, h5_, h6_, h7_, h8_, h9_, h10_, h11_, List.filterMap_cons, List.filterMap_nil, List.setIfInBounds_toArray, List.set_cons_zero, List.set_cons_succ]
        clear h0_ h1_ h2_ h3_ h4_ h5_ h6_ h7_ h8_ h9_ h10_ h11_
        have g8 := gbT (gbD (gbR _ none)) hG
        clear hG
        rw [HBX.out]
        have O8 := Lib.hid (O7.out.grow g8)
        have D8 := Lib.hid (D7.out.grow g8)
        have G8 := Lib.hid (gbT G7.out g8)
        clear O7 D7 G7 g8 K1 K2 ka kb
        have O7 := O8
        have D7 := D8
        have G7 := G8
        clear O8 D8 G8
        obtain ⟨A1, hA1⟩ : ∃ q, some (⟨bo, oo, none⟩ : Addr) = q := ⟨_, rfl⟩
        rw [hA1] at O7 ⊢
        clear hA1
        go_wp2_with (at_builtin; refine wp_pushI w8 w8.heap.size rfl rfl (.tmp 77) (.tmp 79) rfl (bx va vb) w0.heap.size _ k c1 (wiresTo bs m.gt k) O7.out LW.out rfl rfl (by have := OK.out.few; have := HN.out; omega) (by have := G7.out.size; omega) ?_; intro A8 c8 w9 O9 C9)
        have O10 : Hid (ownF w0.heap.size (cints (wiresTo bs m.gt (k + 1))) (.slice A8 (k + 1) c8) w9) := by
          rw [HST.out, show gv bs (wiresTo bs m.gt k) (m.gt.getD k (0, 0, 0)) = (bx va vb) by rw [HX.out, ← HVA.out, ← HVB.out]; simp [gv]]
          exact O9
        have G10 := Lib.hid (gbChg G7.out C9.out (fun y hy => hy.1))
        have D10 := Lib.hid (D7.out.chg C9.out (fun hy => by have h1 := D7.out.lt; obtain ⟨_, cur, hc⟩ := hy; unfold Blk at hc; have h2 := D7.out; unfold Blk at h2; rw [h2] at hc; injection hc with hc; injection hc with _ hc; exact absurd hc (by decide)))
        clear O7 C9 O9 G7 D7
        go_roundw
        case rel => exact ⟨k + 1, c8, A8, by omega, by go_num, rfl, O10, D10, G10⟩
        case measure => simp [intOf]; omega
      · have hkp : 0 < k := by omega
        have io : Ints w7 A1 k (wiresTo bs m.gt k) := by
          obtain ⟨F, h1, _⟩ := O7.out
          exact (cints_rd' ((cints _).toRd h1)).2.2.2
        obtain ⟨bo, oo, rfl, -, -⟩ := io.at_ hkp
        have ka := Lib.hid (io.val ha)
        have kb := Lib.hid (io.val hb2)
        have hwa := getD_bit WB.out a
        have hwb := getD_bit WB.out b2
        obtain ⟨va, hva⟩ : ∃ q, (wiresTo bs m.gt k).getD a 0 = q := ⟨_, rfl⟩
        obtain ⟨vb, hvb⟩ : ∃ q, (wiresTo bs m.gt k).getD b2 0 = q := ⟨_, rfl⟩
        rw [hva] at ka hwa
        rw [hvb] at kb hwb
        have HVA := Lib.hid hva
        have HVB := Lib.hid hvb
        have HBX := Lib.hid (ba_bits hwa hwb)
        have ia : (a : Int) < (k : Int) := by omega
        have ib : (b2 : Int) < (k : Int) := by omega
        have K1 := Lib.hid k1
        have K2 := Lib.hid k2
        clear hva hvb hwa hwb io
        go_wp2_with fail
        clear k0 k1 k2 hw7
        refine region_grow [isV (.slice (some ⟨bo, oo, none⟩) k c1), isV (.pointer (some ⟨wr.heap.size, 1, none⟩)), isV (.int .i64 a), isV (.pointer (some ⟨bo, oo + a, none⟩)), isV (.int .i64 va), isV (.slice (some ⟨bo, oo, none⟩) k c1), isV (.pointer (some ⟨wr.heap.size, 2, none⟩)), isV (.int .i64 b2), isV (.pointer (some ⟨bo, oo + b2, none⟩)), isV (.int .i64 vb), isV (.int .i64 (bits .and .i64 va vb)), isV (.int .i64 (bits .and .i64 va vb))] (by kernel_rfl) (by kernel_rfl) (by kernel_rfl) (by simp [stables, isV_st]) ?_ ?_
        · simp only [hops, and_true]
          refine ⟨?_, ?_, ?_, ?_, ?_, ?_, ?_, ?_, ?_, ?_, ?_, ?_⟩
          all_goals
            intro f w1 hG hd
            have k0 := gbk (gbT (gbD (gbR _ _)) hG) (K1.out)
            have k1 := gbk (gbT (gbD (gbR _ _)) hG) (K2.out)
            have k2 := gbk (gbT (gbD (gbR _ _)) hG) (ka.out)
            have k3 := gbk (gbT (gbD (gbR _ _)) hG) (kb.out)
            simp [deps, tAt, isV] at hd
            first | simp [puts, dsts, Act.put, hd] | simp [puts, dsts, Act.put]
            clear hd
            go_wp2_with (fail)
          all_goals exact ⟨_, rfl, by first | with_reducible exact gbR _ _ | exact hw, by first | (simp [tAt, isV]; done) | (simp [tAt, isV]; assumption)⟩
        intro f w8 hG hd
        simp [knows, tAt, isV] at hd
        obtain ⟨h0_, h1_, h2_, h3_, h4_, h5_, h6_, h7_, h8_, h9_, h10_, h11_⟩ := hd
        simp only [puts, dsts, Act.put, h0_, h1_, h2_, h3_, h4_, h5_, h6_, h7_, h8_, h9_, h10_, h11_, List.filterMap_cons, List.filterMap_nil, List.setIfInBounds_toArray, List.set_cons_zero, List.set_cons_succ]
        clear h0_ h1_ h2_ h3_ h4_ h5_ h6_ h7_ h8_ h9_ h10_ h11_
        have g8 := gbT (gbD (gbR _ none)) hG
        clear hG
        rw [HBX.out]
        have O8 := Lib.hid (O7.out.grow g8)
        have D8 := Lib.hid (D7.out.grow g8)
        have G8 := Lib.hid (gbT G7.out g8)
        clear O7 D7 G7 g8 K1 K2 ka kb
        have O7 := O8
        have D7 := D8
        have G7 := G8
        clear O8 D8 G8
        obtain ⟨A1, hA1⟩ : ∃ q, some (⟨bo, oo, none⟩ : Addr) = q := ⟨_, rfl⟩
        rw [hA1] at O7 ⊢
        clear hA1
        go_wp2_with (at_builtin; refine wp_pushI w8 w8.heap.size rfl rfl (.tmp 77) (.tmp 79) rfl (ba va vb) w0.heap.size _ k c1 (wiresTo bs m.gt k) O7.out LW.out rfl rfl (by have := OK.out.few; have := HN.out; omega) (by have := G7.out.size; omega) ?_; intro A8 c8 w9 O9 C9)
        have O10 : Hid (ownF w0.heap.size (cints (wiresTo bs m.gt (k + 1))) (.slice A8 (k + 1) c8) w9) := by
          rw [HST.out, show gv bs (wiresTo bs m.gt k) (m.gt.getD k (0, 0, 0)) = (ba va vb) by rw [HX.out, ← HVA.out, ← HVB.out]; simp [gv]]
          exact O9
        have G10 := Lib.hid (gbChg G7.out C9.out (fun y hy => hy.1))
        have D10 := Lib.hid (D7.out.chg C9.out (fun hy => by have h1 := D7.out.lt; obtain ⟨_, cur, hc⟩ := hy; unfold Blk at hc; have h2 := D7.out; unfold Blk at h2; rw [h2] at hc; injection hc with hc; injection hc with _ hc; exact absurd hc (by decide)))
        clear O7 C9 O9 G7 D7
        go_roundw
        case rel => exact ⟨k + 1, c8, A8, by omega, by go_num, rfl, O10, D10, G10⟩
        case measure => simp [intOf]; omega
      · have hkp : 0 < k := by omega
        have io : Ints w7 A1 k (wiresTo bs m.gt k) := by
          obtain ⟨F, h1, _⟩ := O7.out
          exact (cints_rd' ((cints _).toRd h1)).2.2.2
        obtain ⟨bo, oo, e1, -, -⟩ := io.at_ hkp
        rw [e1] at io
        have ka := io.val ha
        have hwa := getD_bit WB.out a
        obtain ⟨va, hva⟩ : ∃ q, (wiresTo bs m.gt k).getD a 0 = q := ⟨_, rfl⟩
        rw [hva] at ka hwa
        obtain ⟨hwa1, hwa2⟩ := hwa
        have HVA := Lib.hid hva
        have HE1 := Lib.hid e1
        have ia : (a : Int) < (k : Int) := by omega
        clear hva io
        subst e1
        go_wp2_with (at_builtin; refine wp_pushI w7 w7.heap.size rfl rfl (.tmp 77) (.tmp 79) rfl (1 - va) w0.heap.size _ k c1 (wiresTo bs m.gt k) O7.out LW.out rfl rfl (by have := OK.out.few; have := HN.out; omega) (by have := G7.out.size; omega) ?_; intro A8 c8 w9 O9 C9)
        have O10 : Hid (ownF w0.heap.size (cints (wiresTo bs m.gt (k + 1))) (.slice A8 (k + 1) c8) w9) := by
          rw [HST.out, show gv bs (wiresTo bs m.gt k) (m.gt.getD k (0, 0, 0)) = (1 - va) by rw [HX.out, ← HVA.out]; simp [gv]]
          exact O9
        have G10 := Lib.hid (gbChg G7.out C9.out (fun y hy => hy.1))
        have D10 := Lib.hid (D7.out.chg C9.out (fun hy => by have h1 := D7.out.lt; obtain ⟨_, cur, hc⟩ := hy; unfold Blk at hc; have h2 := D7.out; unfold Blk at h2; rw [h2] at hc; injection hc with hc; injection hc with _ hc; exact absurd hc (by decide)))
        clear O7 C9 O9 G7 D7
        go_roundw
        case rel => exact ⟨k + 1, c8, A8, by omega, by go_num, rfl, O10, D10, G10⟩
        case measure => simp [intOf]; omega
    · have hkn : k = n := by omega
      subst hkn
      go_wp2_with fail
      refine bodyPost_ret (by simp [results, Try.results57]; rfl) rfl ?_
      exact ⟨_, rfl, RO.out, GR.out⟩
end Go.Proofs.Ythdfkiaoahpjpaa
