/-
  PoolNew, PoolCrash; FnReserved's walk.
-/
import Derived.Test.YtllokfcappfkiaaPoolTakeL
import Derived.Test.YtllokfcappfkiaaSubsets
import Derived.Test.YtllokfcappfkiaaReg
import Derived.Test.YtllokfcappfkiaaXor
import Derived.Deep.DeepCutAuto
namespace Go.Proofs.Ytllokfcappfkiaa
open Go.RowKit
set_option linter.unusedVariables false
theorem implPoolNew_yes (n : Int) (w : World) (h1 : 1 ≤ n) (h2 : n ≤ 1000) :
    Calls Try.prog 66 #[.int .i64 n] w fun e w' => e = .returned (.tuple #[pool n 0 0, .bool true]) ∧ w.grownBy w' none := by
  have d1 : decide (1 ≤ n) = true := by simp; omega
  have d2 : decide (n ≤ 1000) = true := by simp; omega
  go_enter Try.func66, Try.ntmps66
  go_wp2
  refine ret_ct Try.results66 (by rfl) st_pool (Blk.new w _ _) (by rfl) (by rfl) ⟨rfl, gbA (gbR _ _) _⟩
theorem implPoolCrash_yes (s x b : Int) (w : World) (h : poolOk s x b = true) :
    Calls Try.prog 50 #[.agg #[.int .i64 s, .int .i64 x, .int .i64 b]] w fun e w' => e = .returned (.agg #[.int .i64 s, .int .i64 b, .int .i64 b]) ∧ w.grownBy w' none := by
  have HP := Lib.hid h
  clear h
  go_enter Try.func50, Try.ntmps50
  go_wp2_with fail
  refine (implPoolOk_c s x b _).mono ?_
  rintro e w1 ⟨rfl, hw⟩
  rw [HP.out]
  have B0 : Blk w1 w.heap.size 39 #[.int .i64 s, .int .i64 x, .int .i64 b] := Blk.grow ((Blk.new w _ _).grow (gbA (gbR _ _) _)) hw
  have c0 := B0.cell 0
  have c1 := B0.cell 1
  have c2 := B0.cell 2
  have f0 := B0.frozen 0
  have f1 := B0.frozen 1
  simp at c0 c1 c2
  have B1 : Blk w1 (w.heap.size + 1) 39 #[.int .i64 0, .int .i64 0, .int .i64 0] := Blk.grow (Blk.new' (w.alloc _) _ _ _ (by simp)) hw
  have c3 := B1.cell 0
  have c4 := B1.cell 1
  have c5 := B1.cell 2
  have f3 := B1.frozen 0
  have f4 := B1.frozen 1
  have f5 := B1.frozen 2
  simp at c3 c4 c5
  have E1 := Lib.hid ((((B1.far (p := ⟨w.heap.size, 1, none⟩) (by simp) (.int .i64 b)).set_ 0 (.int .i64 s)).set_ 1 (.int .i64 b)).set_ 2 (.int .i64 b))
  clear B0 B1
  go_wp2
  refine ret_c Try.results50 (by rfl) st_pool (cs := #[.int .i64 s, .int .i64 b, .int .i64 b]) ?B (by rfl) (by rfl) ⟨rfl, ?_⟩
  case B => exact E1.out
  exact gbS (gbS (gbS (gbS (gbT (gbA (gbA (gbR _ _) _) _) hw) (by simp) _) (by simp) _) (by simp) _) (by simp) _
set_option maxRecDepth 100000 in
set_option maxHeartbeats 3200000 in
theorem FnReserved.walk (w : World) (A : Option Addr) (n c : Nat) (zs : List Int) (hz : IntsK .u8 w A n zs) (hm : n ≤ maxLen) :
    Calls Try.prog 17 #[.slice A n c] w fun e w' => e = .returned (.bool true) ∧ w.grownBy w' none := by
  unfold maxLen at hm
  by_cases hbig : 1048576 < n
  · have hd : decide (1048576 < n) = true := by simp; omega
    go_enter Try.func17, Try.ntmps17
    go_wp2_with fail
    refine (big_c _ A n c (by omega)).mono ?_
    rintro e w1 ⟨rfl, rfl⟩
    go_wp2_with fail
    go_ret
    exact ⟨rfl, gbR _ _⟩
  · have hd : decide (1048576 < n) = false := by simp; omega
    have H := Lib.hid (bytesIn hz (by omega))
    clear hz
    go_enter Try.func17, Try.ntmps17
    go_wp2_with fail
    refine (big_c _ A n c (by omega)).mono ?_
    rintro e w1 ⟨rfl, rfl⟩
    rw [hd]
    clear hd
    go_wp2_with fail
    refine (DrawPlaces_c _ A n c zs H.out).mono ?_
    rintro e w2 ⟨v, qs, rfl, hown, hq, hg⟩
    obtain ⟨B, d, rfl, _, _⟩ := own_form hown
    have HI := Lib.hid (show Ints w2 B 12 qs from Rd.ofOwn hown)
    obtain ⟨b, o, rfl, hb, hc⟩ := HI.out.at_ (by omega)
    have c0 := hc 0 (by omega)
    rw [Nat.add_zero] at c0
    have C1 := Lib.hid (hc 1 (by omega))
    have q0 := hq.at_ 0 (by omega)
    have q1 := hq.at_ 1 (by omega)
    have G2 := Lib.hid hg
    clear hown hc hg hq HI
    generalize qs.getD 0 0 = y0 at *
    generalize qs.getD 1 0 = y1 at *
    obtain ⟨q00, q01⟩ := q0
    obtain ⟨q10, q11⟩ := q1
    obtain ⟨N, hN⟩ : ∃ N : Int, 1 + y0 % 40 = N := ⟨_, rfl⟩
    have hN1 : 1 ≤ N := by omega
    have hN40 : N ≤ 40 := by omega
    go_wp2_with fail
    refine (implPoolNew_yes N _ hN1 (by omega)).mono ?_
    rintro e w3 ⟨rfl, h3⟩
    have C13 := Lib.hid (gbk h3 C1.out)
    have G3 := Lib.hid (gbT G2.out h3)
    have hb3 : Hid (b < w3.heap.size) := by have := h3.size; unfold Hid; omega
    clear h3 c0 hN C1
    go_wp2_with fail
    refine (implPoolTake_no N 0 0 1 _ (by simp [takeOk])).mono ?_
    rintro e w4 ⟨rfl, h4⟩
    have B4 := Lib.hid ((Blk.new w3 39 #[.int .i64 N, .int .i64 0, .int .i64 0]).grow h4)
    have C14 := Lib.hid (gbk h4 (kA C13.out _))
    have G4 := Lib.hid (gbT (gbA G3.out _) h4)
    clear h4 C13
    have E0 := B4.out.cell 0
    have E1 := B4.out.cell 1
    have E2 := B4.out.cell 2
    simp at E0 E1 E2
    have F0 := fun o o' => kA (kA E0 o) o'
    have F1 := fun o o' => kA (kA E1 o) o'
    have F2 := fun o o' => kA (kA E2 o) o'
    have L4 := B4.out.lt
    have M0 : w3.heap.size ≠ w4.heap.size := by omega
    have M1 : w3.heap.size ≠ w4.heap.size + 1 := by omega
    go_wp2_with fail
    refine (implPoolReserve_yes N 0 0 N _ (by simp [poolOk]; omega) hN1 (by omega) (by omega)).mono ?_
    rintro e w5 ⟨rfl, h5⟩
    rw [Int.zero_add]
    have B5 := Lib.hid (B4.out.grow (gbT (gbA (gbA (gbR w4 none) _) _) h5))
    have C15 := Lib.hid (gbk h5 (kA (kA C14.out _) _))
    have G5 := Lib.hid (gbT (gbA (gbA G4.out _) _) h5)
    clear h5 C14 E0 E1 E2 F0 F1 F2 M0 M1 B4
    have L3 := G3.out.size
    have E0 := B5.out.cell 0
    have E1 := B5.out.cell 1
    have E2 := B5.out.cell 2
    have X0 := B5.out.frozen 0
    have X1 := B5.out.frozen 1
    have X2 := B5.out.frozen 2
    simp at E0 E1 E2
    go_wp2_with fail
    refine (implPoolReserve_no N 0 N 1 _ (by simp [reserveOk]; intros; omega)).mono ?_
    rintro e w6 ⟨rfl, h6⟩
    have B6 := Lib.hid ((((B5.out.set_ 0 (.int .i64 N)).set_ 1 (.int .i64 0)).set_ 2 (.int .i64 N)).grow h6)
    have hne : b ≠ w3.heap.size := by have := hb3.out; omega
    have C16 := Lib.hid (gbk h6 (kS (kS (kS C15.out (q := ⟨w3.heap.size, 0, none⟩) hne _) (q := ⟨w3.heap.size, 1, none⟩) hne _) (q := ⟨w3.heap.size, 2, none⟩) hne _))
    have G6 := Lib.hid (gbT (gbS (gbS (gbS G5.out (p := ⟨w3.heap.size, 0, none⟩) L3 _) (p := ⟨w3.heap.size, 1, none⟩) L3 _) (p := ⟨w3.heap.size, 2, none⟩) L3 _) h6)
    clear h6 C15 E0 E1 E2 X0 X1 X2 B5 G5
    go_upto_region 9 with fail
    have B7 := Lib.hid (B6.out.grow (gbA (gbR w6 none) (.cells #[.int .i64 N, .int .i64 0, .int .i64 N] 39)))
    have C17 := Lib.hid (kA C16.out (.cells #[.int .i64 N, .int .i64 0, .int .i64 N] 39))
    have G7 := Lib.hid (gbA G6.out (.cells #[.int .i64 N, .int .i64 0, .int .i64 N] 39))
    clear B6 C16 G6
    generalize w6.alloc (.cells #[.int .i64 N, .int .i64 0, .int .i64 N] 39) = Z at *
    have E0 := B7.out.cell 0
    have E1 := B7.out.cell 1
    have E2 := B7.out.cell 2
    simp at E0 E1 E2
    have E3 := C17.out
    generalize w3.heap.size = gP at *
    obtain ⟨m, hm2⟩ : ∃ m : Int, 1 + y1 % N = m := ⟨_, rfl⟩
    have hmod0 := Int.emod_nonneg y1 (show N ≠ 0 by omega)
    have hmod1 := Int.emod_lt_of_pos y1 (show 0 < N by omega)
    have t0 : Int.tmod y1 N = y1 % N := tmod_emod q10
    have hm3 : 1 + y1 % N = m := hm2
    have hN0 : N ≠ 0 := by omega
    have hN0' : (N == 0) = false := by simp; omega
    have hm1 : 1 ≤ m := by omega
    have hmN : m ≤ N := by omega
    have HM2 := Lib.hid hm2
    have P1 := Lib.hid (fun w : World => implPoolTake_yes N 0 N m w (by simp [poolOk]; omega) (by omega) (by omega) (by omega))
    have P2 := Lib.hid (fun w : World => implPoolCrash_yes N m N w (by simp [poolOk]; omega))
    have hfld : ∀ w : World, (Instr.field 39 (.agg #[.int .i64 N, .int .i64 N, .int .i64 N]) 1).run Try.prog w = .ok (.int .i64 N) w := fun w => by kernel_rfl
    clear hm2 t0
    refine region_reg [onT 48 (isV (.agg #[.int .i64 N, .int .i64 0, .int .i64 N])), onT 49 (isV (.slice (some ⟨b, o, none⟩) 12 d)), onT 50 (isV (.pointer (some ⟨b, o + 1, none⟩))), onT 51 (isV (.int .i64 y1)), onT 52 (isV (.int .i64 N)), onT 53 (isV (.int .i64 (y1 % N))), onT 54 (isV (.int .i64 m)), onT 55 (isV (.tuple #[.agg #[.int .i64 N, .int .i64 m, .int .i64 N], .agg #[.int .i64 0, .int .i64 m], .bool true])), onT 47 (isV (.tuple #[.agg #[.int .i64 N, .int .i64 m, .int .i64 N], .agg #[.int .i64 0, .int .i64 m], .bool true])), onT 56 (isV (.agg #[.int .i64 N, .int .i64 m, .int .i64 N])), onT 57 (isV (.agg #[.int .i64 0, .int .i64 m])), onT 58 (isV (.bool true)), onT 13 (isRoom Z.heap.size 39 3), onT 14 (isRoom Z.heap.size 53 2), onT 13 (isBox Z.heap.size 39 #[.int .i64 N, .int .i64 m, .int .i64 N]), onT 14 (isBox Z.heap.size 53 #[.int .i64 0, .int .i64 m]), onT 15 (isV (.bool true))] (by kernel_rfl) (by kernel_rfl) (by kernel_rfl) (by simp [stablesF, stableF_on, isV_st, isRoom_st, isBox_st]) ?_ ?_
    · simp only [hopsF, and_true]
      refine ⟨?_, ?_, ?_, ?_, ?_, ?_, ?_, ?_, ?_, ?_, ?_, ?_, ?_, ?_, ?_, ?_, ?_⟩
      rotate_left 14
      · intro f w4 hG hd
        simp [depsF, bindE, List.filter_cons, bd_data, bd_chain, bd_guard, bd_phase, bd_text, bd_gc, fAt, onT_at, isV] at hd
        obtain ⟨⟨g, cs, eg, hlo, hB, hsz⟩, hd⟩ := hd
        obtain ⟨u0, a0⟩ := room_cell hB hsz 0 (by omega)
        obtain ⟨u1, a1⟩ := room_cell hB hsz 1 (by omega)
        obtain ⟨u2, a2⟩ := room_cell hB hsz 2 (by omega)
        have b0 := hB.frozen 0
        have b1 := hB.frozen 1
        have b2 := hB.frozen 2
        have hd56 := hd.1
        clear hd
        simp [puts, dsts, Act.put, eg, hd56]
        go_wp2_with fail
        refine ⟨rfl, ⟨.bool false, ⟨g, eg, hlo, fill3 hB hsz _ _ _⟩⟩, Or.inr ⟨gbS (p := ⟨g, 2, none⟩) (gbS (p := ⟨g, 1, none⟩) (gbS (p := ⟨g, 0, none⟩) hG hlo _) hlo _) hlo _, ?_⟩⟩
        simp [keeps, onT_at, isV]
        refine ⟨fun h => room_set (room_set (room_set h _ _ _) _ _ _) _ _ _, fun h => room_set (room_set (room_set h _ _ _) _ _ _) _ _ _, fun h => ?_⟩
        exact box_far ((hB.set_ 0 _).set_ 1 _) (by decide) (box_far (hB.set_ 0 _) (by decide) (box_far hB (by decide) h _ _) _ _) _ _
      · intro f w4 hG hd
        simp [depsF, bindE, List.filter_cons, bd_data, bd_chain, bd_guard, bd_phase, bd_text, bd_gc, fAt, onT_at, isV] at hd
        obtain ⟨⟨g, cs, eg, hlo, hB, hsz⟩, hd⟩ := hd
        obtain ⟨u0, a0⟩ := room_cell hB hsz 0 (by omega)
        obtain ⟨u1, a1⟩ := room_cell hB hsz 1 (by omega)
        have b0 := hB.frozen 0
        have b1 := hB.frozen 1
        have hd57 := hd.1
        clear hd
        simp [puts, dsts, Act.put, eg, hd57]
        go_wp2_with fail
        refine ⟨rfl, ⟨.bool false, ⟨g, eg, hlo, fill2 hB hsz _ _⟩⟩, Or.inr ⟨gbS (p := ⟨g, 1, none⟩) (gbS (p := ⟨g, 0, none⟩) hG hlo _) hlo _, ?_⟩⟩
        simp [keeps, onT_at, isV]
        refine ⟨fun h => room_set (room_set h _ _ _) _ _ _, fun h => room_set (room_set h _ _ _) _ _ _, fun h => ?_⟩
        exact box_far (hB.set_ 0 _) (by decide) (box_far hB (by decide) h _ _) _ _
      all_goals
        intro f w4 hG hd
        have k0 := gbk hG (kD E0)
        have k1 := gbk hG (kD E1)
        have k2 := gbk hG (kD E2)
        have k3 := gbk hG (kD E3)
        have HG := Lib.hid hG
        clear E0 E1 E2 E3 hG
        simp [depsF, bindE, List.filter_cons, bd_data, bd_chain, bd_guard, bd_phase, bd_text, bd_gc, fAt, onT_at, isV] at hd
        first | simp [puts, dsts, Act.put, hd] | simp [puts, dsts, Act.put]
        go_wp2_with (go_at_call 51; refine (P1.out _).mono ?_; rintro e w5 ⟨rfl, hw⟩)
        first
          | exact ⟨_, rfl, room_new HG.out.size rfl, gbA (gbR _ _) _⟩
          | exact ⟨_, rfl, by first | (simp [fAt, onT_at, upd_some, isV]; done) | (simp [fAt, onT_at, upd_some, isV]; assumption), by first | with_reducible exact gbR _ _ | exact hw⟩
    · intro f w4 hG hd
      have HG := Lib.hid hG
      clear hG
      simp [knowsF, onT_at, isV] at hd
      obtain ⟨h48, h49, h50, h51, h52, h53, h54, h55, h47, h56, h57, h58, _, _, ⟨g1, e1, l1, b1⟩, ⟨g2, e2, l2, b2⟩, h15⟩ := hd
      have c0 := b1.cell 0
      have c1 := b1.cell 1
      have c2 := b1.cell 2
      have c3 := b2.cell 0
      have c4 := b2.cell 1
      simp at c0 c1 c2 c3 c4
      clear b1 b2 E0 E1 E2 E3
      simp only [puts, dsts, Act.put, h48, h49, h50, h51, h52, h53, h54, h55, h47, h56, h57, h58, e1, e2, h15, List.filterMap_cons, List.filterMap_nil, List.setIfInBounds_toArray, List.set_cons_zero, List.set_cons_succ]
      clear h48 h49 h50 h51 h52 h53 h54 h55 h47 h56 h57 h58 e1 e2 h15
      go_wp2_with (go_at_call 50; refine (P2.out _).mono ?_; rintro e w5 ⟨rfl, hw⟩)
      go_ret
      exact ⟨by simp, gbT (gbT (gbD G7.out) HG.out) hw⟩
end Go.Proofs.Ytllokfcappfkiaa
