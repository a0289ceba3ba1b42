/-
  CircuitOk: reference and program.
-/
import Derived.Test.YthdfkiaoahpjpaaMgFnConstantCircuits21
namespace Go.Proofs.Ythdfkiaoahpjpaa
open Go.RowKit
set_option linter.unusedVariables false
set_option linter.unusedSimpArgs false
set_option maxRecDepth 100000 in
set_option maxHeartbeats 2000000 in
theorem specCircuitOk_c (m : CM) (v : Value) (w : World) (h : AggR w (ccircuit m) v) :
    Calls Try.prog 61 #[v] w fun e w' => e = .returned (.bool (circB m)) ∧ w.grownBy w' none := by
  obtain ⟨u0, u1, rfl, h1, h2⟩ := ccircuit_open h
  obtain ⟨A, c, rfl, hc, hm, hF⟩ := plst_rd (s := 3) (fun _ => rfl) (by omega) h1
  obtain ⟨B, d, rfl, hd, hm', hI⟩ := cints_rd h2
  clear h h1 h2
  unfold maxLen at hm hm'
  obtain ⟨n, hn⟩ : ∃ n, m.gt.length = n := ⟨_, rfl⟩
  obtain ⟨q, hq⟩ : ∃ q, m.outs.length = q := ⟨_, rfl⟩
  rw [hn] at hF hc ⊢
  rw [hq] at hI hd ⊢
  have HN := Lib.hid hn
  have HQ := Lib.hid hq
  have HF := Lib.hid hF
  have HO := Lib.hid hI
  have A1 := Lib.hid (Blk.new w 28 #[.slice A n c, .slice B q d])
  have G1 := Lib.hid (gbA (gbR w none) (.cells #[.slice A n c, .slice B q d] 28))
  clear hF hI hn hq
  go_enter Try.func61, Try.ntmps61
  go_wp2_with fail
  go_loopw [3] (fun i wr => ∃ k : Nat, k ≤ n ∧ i = .int .i64 k ∧ Hid (∀ j, j < k → gateB j (gtAt m j) = true) ∧ Hid (Blk wr w.heap.size 28 #[.slice A n c, .slice B q d]) ∧ Hid (w.grownBy wr none)) (fun i _ => n - (intOf i).toNat)
  case atStart => exact ⟨0, Nat.zero_le _, rfl, fun j hj => by omega, A1.out, G1.out⟩
  case round =>
    clear A1 G1
    obtain ⟨k, hk, rfl, hall, hB, hG⟩ := hrel
    have c0 := hB.out.cell 0
    have c1 := hB.out.cell 1
    simp at c0 c1
    by_cases hlt : k < n
    · obtain ⟨b, o, x, y, z, rfl, hb, hx, q0, q1, q2⟩ := gates_at (FL.grow HF.out hG.out) hlt
      have i1 : (k : Int) < (n : Int) := by omega
      have HX : Hid (gtAt m k = (x, y, z)) := by simp [Hid, gtAt, List.getD_eq_getElem?_getD, hx]
      clear hx
      generalize hs : gateB k (x, y, z) = s at *
      have HS := Lib.hid hs
      clear hs
      go_wp2_with fail
      refine (specGateOk_c x y z k _ (by omega)).mono ?_
      rintro e w5 ⟨rfl, g5⟩
      rw [HS.out]
      have B5 := Lib.hid (hB.out.grow g5)
      have G5 := Lib.hid (gbT hG.out g5)
      clear hB hG g5
      cases s with
      | false =>
        go_wp2_with fail
        go_ret
        exact ⟨retB (circB_no fun h => by have := h.gates k (by rw [HN.out]; exact hlt); rw [HX.out, HS.out] at this; cases this).symm, G5.out⟩
      | true =>
        go_wp2_with fail
        go_roundw
        case rel => exact ⟨k + 1, by omega, by go_num, fun j hj => by
          by_cases e : j = k
          · subst e; rw [HX.out]; exact HS.out
          · exact hall.out j (by omega), B5.out, G5.out⟩
        case measure => simp [intOf]; omega
    · have hkn : k = n := by omega
      subst hkn
      go_wp2_with fail
      go_loopw [4] (fun i wo => ∃ j : Nat, j ≤ q ∧ i = .int .i64 j ∧ Hid (∀ l, l < j → inB (m.outs.getD l 0) 0 (k - 1) = true) ∧ Hid (Blk wo w.heap.size 28 #[.slice A k c, .slice B q d]) ∧ Hid (w.grownBy wo none)) (fun i _ => q - (intOf i).toNat)
      case atStart => exact ⟨0, Nat.zero_le _, rfl, fun j hj => by omega, hB.out, hG.out⟩
      case round =>
        clear hB hG c0 c1
        obtain ⟨wo, rfl⟩ : ∃ wo : World, wo = wr := ⟨_, rfl⟩
        obtain ⟨j, hj, rfl, hal2, hB, hG⟩ := hrel
        have c0 := hB.out.cell 0
        have c1 := hB.out.cell 1
        simp at c0 c1
        by_cases hlt2 : j < q
        · obtain ⟨b, o, rfl, hb, q0⟩ := (Ints.grow HO.out hG.out).cell hlt2
          have i2 : (j : Int) < (q : Int) := by omega
          generalize hz : m.outs.getD j 0 = z at *
          have HZ := Lib.hid hz
          clear hz
          generalize hs : inB z 0 ((k : Int) - 1) = s at *
          have HS := Lib.hid hs
          clear hs
          go_wp2_with fail
          refine region_grow [isV (.pointer (some ⟨w.heap.size, 1, none⟩)), isV (.slice (some ⟨b, o, none⟩) q d), isV (.int .i64 j), isV (.pointer (some ⟨b, o + j, none⟩)), isV (.int .i64 z), isV (.pointer (some ⟨w.heap.size, 0, none⟩)), isV (.slice A k c), isV (.int .i64 k), isV (.int .i64 ((k : Int) - 1)), isV (.bool s), isV (.bool (!s))] (by kernel_rfl) (by kernel_rfl) (by kernel_rfl) (by simp [stables, isV_st]) ?_ ?_
          · simp only [hops, and_true]
            refine ⟨?_, ?_, ?_, ?_, ?_, ?_, ?_, ?_, ?_, ?_, ?_⟩
            all_goals
              intro f w1 hG hd
              have k0 := gbk (gbT (gbD (gbR _ _)) hG) (c0)
              have k1 := gbk (gbT (gbD (gbR _ _)) hG) (c1)
              have k2 := gbk (gbT (gbD (gbR _ _)) hG) (q0)
              simp [deps, tAt, isV] at hd
              first | simp [puts, dsts, Act.put, hd] | simp [puts, dsts, Act.put]
              clear hd
              go_wp2_with ((go_at_call 62; refine (spec.l01In_q z 0 ((k : Int) - 1) _).mono ?_; rintro e w2 ⟨rfl, rfl⟩; rw [HS.out]))
            all_goals exact ⟨_, rfl, by first | with_reducible exact gbR _ _ | exact hw, by first | (simp [tAt, isV]; done) | (simp [tAt, isV]; assumption)⟩
          intro f w5 hG hd
          simp [knows, tAt, isV] at hd
          obtain ⟨h0_, h1_, h2_, h3_, h4_, h5_, h6_, h7_, h8_, h9_, h10_⟩ := hd
          simp only [puts, dsts, Act.put, h0_, h1_, h2_, h3_, h4_, h5_, h6_, h7_, h8_, h9_, h10_, List.filterMap_cons, List.filterMap_nil, List.setIfInBounds_toArray, List.set_cons_zero, List.set_cons_succ]
          clear h0_ h1_ h2_ h3_ h4_ h5_ h6_ h7_ h8_ h9_ h10_
          have g5 := gbT (gbD (gbR _ none)) hG
          clear hG
          have B5 := Lib.hid (hB.out.grow g5)
          have G5 := Lib.hid (gbT hG.out g5)
          clear hB hG g5
          cases s with
          | false =>
            go_wp2_with fail
            go_ret
            exact ⟨retB (circB_no fun h => by
              have h1 := h.outs (m.outs.getD j 0) (by rw [getI _ _ (by rw [HQ.out]; exact hlt2)]; exact List.getElem_mem _)
              rw [HZ.out, HN.out, HS.out] at h1; cases h1).symm, G5.out⟩
          | true =>
            go_wp2_with fail
            go_roundw
            case rel => exact ⟨j + 1, by omega, by go_num, fun l hl => by
              by_cases e : l = j
              · subst e; rw [HZ.out]; exact HS.out
              · exact hal2.out l (by omega), B5.out, G5.out⟩
            case measure => simp [intOf]; omega
        · have hjq : j = q := by omega
          subst hjq
          go_wp2_with fail
          go_ret
          refine ⟨retB ?_, hG.out⟩
          by_cases h60 : k ≤ 6000
          · rw [circB_yes ⟨by rw [HN.out]; exact h60, fun j hj => hall.out j (by rw [← HN.out]; exact hj), fun z hz => by
              obtain ⟨l, hl, rfl⟩ := List.getElem_of_mem hz
              have h1 := hal2.out l (by rw [← HQ.out]; exact hl)
              rw [getI _ _ hl] at h1
              rw [HN.out]; exact h1⟩]
            simp; omega
          · rw [circB_no fun h => by have := h.few; rw [HN.out] at this; exact h60 this]
            simp; omega
set_option maxRecDepth 100000 in
set_option maxHeartbeats 4000000 in
theorem implCircuitOk_c (m : CM) (v : Value) (w : World) (h : AggR w (ccircuit m) v) :
    Calls Try.prog 55 #[v] w fun e w' => e = .returned (.bool (circB m)) ∧ w.grownBy w' none := by
  obtain ⟨u0, u1, rfl, h1, h2⟩ := ccircuit_open h
  obtain ⟨A, c, rfl, hc, hm, hF⟩ := plst_rd (s := 3) (fun _ => rfl) (by omega) h1
  obtain ⟨B, d, rfl, hd, hm', hI⟩ := cints_rd h2
  clear h h1 h2
  unfold maxLen at hm hm'
  obtain ⟨n, hn⟩ : ∃ n, m.gt.length = n := ⟨_, rfl⟩
  obtain ⟨q, hq⟩ : ∃ q, m.outs.length = q := ⟨_, rfl⟩
  rw [hn] at hF hc ⊢
  rw [hq] at hI hd ⊢
  have HN := Lib.hid hn
  have HQ := Lib.hid hq
  have HF := Lib.hid hF
  have HO := Lib.hid hI
  have A1 := Lib.hid (Blk.new w 28 #[.slice A n c, .slice B q d])
  have G1 := Lib.hid (gbA (gbR w none) (.cells #[.slice A n c, .slice B q d] 28))
  clear hF hI hn hq
  by_cases h60 : 6000 < n
  · have d60' : decide ((6000 : Int) < (n : Int)) = true := by simp; omega
    go_enter Try.func55, Try.ntmps55
    go_wp2_with fail
    go_ret
    exact ⟨retB (circB_no fun h => by have := h.few; rw [HN.out] at this; omega).symm, G1.out⟩
  · have d60' : decide ((6000 : Int) < (n : Int)) = false := by simp; omega
    go_enter Try.func55, Try.ntmps55
    go_wp2_with fail
    go_loopw [14] (fun i wr => ∃ k : Nat, k ≤ n ∧ i = .int .i64 k ∧ Hid (∀ j, j < k → gateB j (gtAt m j) = true) ∧ Hid (Blk wr w.heap.size 28 #[.slice A n c, .slice B q d]) ∧ Hid (w.grownBy wr none)) (fun i _ => n - (intOf i).toNat)
    case atStart => exact ⟨0, Nat.zero_le _, rfl, fun j hj => by omega, A1.out, G1.out⟩
    case round =>
      clear A1 G1 d60'
      obtain ⟨k, hk, rfl, hall, hB, hG⟩ := hrel
      have c0 := hB.out.cell 0
      have c1 := hB.out.cell 1
      simp at c0 c1
      by_cases hlt : k < n
      · obtain ⟨b, o, x, y, z, rfl, hb, hx, q0, q1, q2⟩ := gates_at (FL.grow HF.out hG.out) hlt
        have i1 : (k : Int) < (n : Int) := by omega
        have HX : Hid (gtAt m k = (x, y, z)) := by simp [Hid, gtAt, List.getD_eq_getElem?_getD, hx]
        clear hx
        have hbw : w.heap.size < wr.heap.size := hB.out.lt
        have GA := Lib.hid (gbA hG.out (.cells #[.int .i64 x, .int .i64 y, .int .i64 z] 41))
        have BA := Lib.hid (hB.out.grow (gbA (gbR _ none) (.cells #[.int .i64 x, .int .i64 y, .int .i64 z] 41)))
        cases hs : gateB k (x, y, z)
        all_goals
          have HS := Lib.hid hs
          clear hs
          go_wp2_with fail
          refine (implGateOk_c x y z k _ (by omega)).mono ?_
          rintro e w5 ⟨rfl, g5⟩
          rw [HS.out]
          have B5 := Lib.hid (BA.out.grow g5)
          have G5 := Lib.hid (gbT GA.out g5)
          clear g5
          go_wp2_with fail
          first
            | (go_roundw
               case rel => exact ⟨k + 1, by omega, by go_num, fun j hj => by
                 by_cases e : j = k
                 · subst e; rw [HX.out]; exact HS.out
                 · exact hall.out j (by omega), B5.out, G5.out⟩
               case measure => simp [intOf]; omega)
            | (go_ret
               exact ⟨retB (circB_no fun h => by have := h.gates k (by rw [HN.out]; exact hlt); rw [HX.out, HS.out] at this; cases this).symm, G5.out⟩)
      · have hkn : k = n := by omega
        subst hkn
        go_wp2_with fail
        go_loopw [27] (fun i wo => ∃ j : Nat, j ≤ q ∧ i = .int .i64 j ∧ Hid (∀ l, l < j → inB (m.outs.getD l 0) 0 (k - 1) = true) ∧ Hid (Blk wo w.heap.size 28 #[.slice A k c, .slice B q d]) ∧ Hid (w.grownBy wo none)) (fun i _ => q - (intOf i).toNat)
        case atStart => exact ⟨0, Nat.zero_le _, rfl, fun j hj => by omega, hB.out, hG.out⟩
        case round =>
          clear hB hG c0 c1
          obtain ⟨wo, rfl⟩ : ∃ wo : World, wo = wr := ⟨_, rfl⟩
          obtain ⟨j, hj, rfl, hal2, hB, hG⟩ := hrel
          have c0 := hB.out.cell 0
          simp at c0
          by_cases hlt2 : j < q
          · obtain ⟨b, o, rfl, hb, q0⟩ := (Ints.grow HO.out hG.out).cell hlt2
            have i2 : (j : Int) < (q : Int) := by omega
            generalize hz : m.outs.getD j 0 = z at *
            have HZ := Lib.hid hz
            clear hz
            cases hs : inB z 0 ((k : Int) - 1)
            all_goals
              have HS := Lib.hid hs
              clear hs
              go_wp2_with (go_at_call 54; refine (impl.within_q _ _ _ _).mono ?_; rintro e w1 ⟨rfl, rfl⟩; rw [HS.out])
              first
                | (go_roundw
                   case rel => exact ⟨j + 1, by omega, by go_num, fun l hl => by
                     by_cases e : l = j
                     · subst e; rw [HZ.out]; exact HS.out
                     · exact hal2.out l (by omega), hB.out, hG.out⟩
                   case measure => simp [intOf]; omega)
                | (go_ret
                   exact ⟨retB (circB_no fun h => by
                     have h1 := h.outs (m.outs.getD j 0) (by rw [getI _ _ (by rw [HQ.out]; exact hlt2)]; exact List.getElem_mem _)
                     rw [HZ.out, HN.out, HS.out] at h1; cases h1).symm, hG.out⟩)
          · have hjq : j = q := by omega
            subst hjq
            go_wp2_with fail
            go_ret
            refine ⟨retB ?_, hG.out⟩
            rw [circB_yes ⟨by rw [HN.out]; omega, fun j hj => hall.out j (by rw [← HN.out]; exact hj), fun z hz => by
              obtain ⟨l, hl, rfl⟩ := List.getElem_of_mem hz
              have h1 := hal2.out l (by rw [← HQ.out]; exact hl)
              rw [getI _ _ hl] at h1
              rw [HN.out]; exact h1⟩]
end Go.Proofs.Ythdfkiaoahpjpaa
