/-
  CountGates, GarbledCost: reference and program.
-/
import Derived.Test.YtaokichfakolmaaCircOk2
namespace Go.Proofs.Ytaokichfakolmaa
open Go.RowKit
set_option linter.unusedVariables false
/-- How many of the first k gates are of a kind. -/
def gts (st : List Gat) (kd : Int) (k : Nat) : Nat := (st.take k).countP (·.1 == kd)
theorem gts_zero (st : List Gat) (kd : Int) : gts st kd 0 = 0 := by simp [gts]
theorem gts_succ (st : List Gat) (kd : Int) (k : Nat) (x : Gat) (h : st[k]? = some x) : gts st kd (k + 1) = gts st kd k + if x.1 == kd then 1 else 0 := by
  unfold gts
  obtain ⟨hk, rfl⟩ := List.getElem?_eq_some_iff.1 h
  rw [List.take_succ_eq_append_getElem hk, List.countP_append, List.countP_singleton]
theorem gts_le (st : List Gat) (kd : Int) (k : Nat) : gts st kd k ≤ k := Nat.le_trans List.countP_le_length (by rw [List.length_take]; omega)
set_option maxHeartbeats 400000 in
theorem specCountGates_c (m : CM) (kd : Int) (v : Value) (w : World) (h : AggR w (ccircuit m) v) :
    Calls Try.prog 59 #[v, .int .i64 kd] w fun e w' => e = .returned (.int .i64 (gts m.gt kd m.gt.length)) ∧ w.grownBy w' none := by
  obtain ⟨u0, u1, rfl, h1, h2⟩ := ccircuit_open h
  obtain ⟨A, c, rfl, hc, hm, hF⟩ := plst_rd (s := 3) (fun _ => rfl) (by omega) h1
  clear h h1 h2
  unfold maxLen at hm
  generalize m.gt = st at *
  generalize hn : st.length = n at *
  clear hn
  have HF := Lib.hid hF
  have A1 := Lib.hid (Blk.new w 38 #[.slice A n c, u1])
  have G1 := Lib.hid (gbA (gbR w none) (.cells #[.slice A n c, u1] 38))
  clear hF
  go_enter Try.func59, Try.ntmps59
  go_wp2_with fail
  go_loopw [5, 6] (fun s i wr => ∃ k : Nat, k ≤ n ∧ i = .int .i64 k ∧ s = .int .i64 (gts st kd k) ∧ Hid (Blk wr w.heap.size 38 #[.slice A n c, u1]) ∧ Hid (w.grownBy wr none)) (fun _ i _ => n - (intOf i).toNat)
  case atStart => exact ⟨0, Nat.zero_le _, rfl, by rw [gts_zero]; rfl, A1.out, G1.out⟩
  case round =>
    clear A1 G1
    obtain ⟨k, hk, rfl, rfl, hB, hG⟩ := hrel
    have c0 := hB.out.cell 0
    simp at c0
    have hmk := gts_le st kd k
    by_cases hlt : k < n
    · obtain ⟨b, o, x, y, z, rfl, hb, hx, q0, q1, q2⟩ := gates_at (FL.grow HF.out hG.out) hlt
      have HS := Lib.hid (gts_succ st kd k _ hx)
      have i1 : (k : Int) < (n : Int) := by omega
      generalize gts st kd k = q at *
      clear hx
      cases h4 : x == kd
      all_goals
        have HD := Lib.hid h4
        go_wp2_with fail
        go_roundw
        case rel => exact ⟨k + 1, by omega, by go_num, by rw [HS.out, HD.out]; first | rfl | go_num, hB.out, hG.out⟩
        case measure => simp [intOf]; omega
    · have hkn : k = n := by omega
      subst hkn
      go_wp2_with fail
      go_ret
      exact ⟨rfl, hG.out⟩
set_option maxHeartbeats 400000 in
theorem implCountGates_c (m : CM) (kd : Int) (v : Value) (w : World) (h : AggR w (ccircuit m) v) :
    Calls Try.prog 31 #[v, .int .i64 kd] w fun e w' => e = .returned (.int .i64 (gts m.gt kd m.gt.length)) ∧ w.grownBy w' none := by
  obtain ⟨u0, u1, rfl, h1, h2⟩ := ccircuit_open h
  obtain ⟨A, c, rfl, hc, hm, hF⟩ := plst_rd (s := 3) (fun _ => rfl) (by omega) h1
  clear h h1 h2
  unfold maxLen at hm
  generalize m.gt = st at *
  generalize hn : st.length = n at *
  clear hn
  have HF := Lib.hid hF
  have A1 := Lib.hid (Blk.new w 38 #[.slice A n c, u1])
  have G1 := Lib.hid (gbA (gbR w none) (.cells #[.slice A n c, u1] 38))
  clear hF
  go_enter Try.func31, Try.ntmps31
  go_wp2_with fail
  go_loopw [5, 11] (fun s i wr => ∃ k : Nat, k ≤ n ∧ i = .int .i64 k ∧ s = .int .i64 (gts st kd k) ∧ Hid (Blk wr w.heap.size 38 #[.slice A n c, u1]) ∧ Hid (w.grownBy wr none)) (fun _ i _ => n - (intOf i).toNat)
  case atStart => exact ⟨0, Nat.zero_le _, rfl, by rw [gts_zero]; rfl, A1.out, G1.out⟩
  case round =>
    clear A1 G1
    obtain ⟨k, hk, rfl, rfl, hB, hG⟩ := hrel
    have c0 := hB.out.cell 0
    simp at c0
    have hmk := gts_le st kd k
    by_cases hlt : k < n
    · obtain ⟨b, o, x, y, z, rfl, hb, hx, q0, q1, q2⟩ := gates_at (FL.grow HF.out hG.out) hlt
      have HS := Lib.hid (gts_succ st kd k _ hx)
      have i1 : (k : Int) < (n : Int) := by omega
      generalize gts st kd k = q at *
      clear hx
      cases h4 : x == kd
      all_goals
        have HD := Lib.hid h4
        go_wp2_with fail
        go_roundw
        case rel => exact ⟨k + 1, by omega, by go_num, by rw [HS.out, HD.out]; first | rfl | go_num, hB.out.grow (gbA (gbR _ _) _), gbA hG.out _⟩
        case measure => simp [intOf]; omega
    · have hkn : k = n := by omega
      subst hkn
      go_wp2_with fail
      go_ret
      exact ⟨rfl, hG.out⟩
theorem stCost : St Try.prog 34 4 := ⟨⟨_, Try.underlying34, rfl⟩, by kernel_rfl⟩
set_option maxHeartbeats 1000000 in
theorem specGarbledCost_yes (m : CM) (v : Value) (w : World) (h : AggR w (ccircuit m) v) (hok : COk m) :
    Calls Try.prog 15 #[v] w fun e w' => e = .returned (.agg #[.int .i64 2, .int .i64 0, .int .i64 0, .int .i64 (2 * (gts m.gt 4 m.gt.length : Int))]) ∧ w.grownBy w' none := by
  have HV := Lib.hid h
  obtain ⟨u0, u1, rfl, h1, h2⟩ := ccircuit_open h
  have HOK := Lib.hid hok
  have hmu : gts m.gt 4 m.gt.length ≤ 6000 := Nat.le_trans (gts_le _ _ _) hok.few
  clear h h1 h2 hok
  have A1 := Lib.hid ((Blk.new w 38 #[u0, u1]).grow (gbA (gbR _ none) (.cells #[.int .i64 0, .int .i64 0, .int .i64 0, .int .i64 0] 34)))
  have R1 := Lib.hid (Blk.new' (w.alloc (.cells #[u0, u1] 38)) 34 #[.int .i64 0, .int .i64 0, .int .i64 0, .int .i64 0] (w.heap.size + 1) (by simp))
  have G1 := Lib.hid (gbA (gbA (gbR w none) (.cells #[u0, u1] 38)) (.cells #[.int .i64 0, .int .i64 0, .int .i64 0, .int .i64 0] 34))
  go_enter Try.func15, Try.ntmps15
  go_wp2_with fail
  refine (specCircuitOk_c m _ _ (AggR.grow HV.out G1.out)).mono ?_
  rintro e w1 ⟨rfl, g⟩
  rw [circB_yes HOK.out]
  have A2 := Lib.hid (A1.out.grow g)
  have R2 := Lib.hid (R1.out.grow g)
  have G2 := Lib.hid (gbT G1.out g)
  have k0 := A2.out.cell 0
  have k1 := A2.out.cell 1
  simp at k0 k1
  clear g A1 R1 G1
  go_wp2_with fail
  refine (specCountGates_c m 4 _ _ (AggR.grow HV.out G2.out)).mono ?_
  rintro e w2 ⟨rfl, g⟩
  have R4 := Lib.hid (R2.out.grow g)
  have G4 := Lib.hid (gbT G2.out g)
  have s0 := R4.out.cell 0
  have s1 := R4.out.cell 1
  have s2 := R4.out.cell 2
  have s3 := R4.out.cell 3
  have t0 := R4.out.frozen 0
  have t1 := R4.out.frozen 1
  have t2 := R4.out.frozen 2
  have t3 := R4.out.frozen 3
  simp at s0 s1 s2 s3
  clear g k0 k1 A2 R2 G2
  generalize hq : gts m.gt 4 m.gt.length = q at *
  have HQ := Lib.hid hq
  clear hq
  go_wp2_with fail
  refine ret_c Try.results15 (by rfl) stCost (cs := #[.int .i64 2, .int .i64 0, .int .i64 0, .int .i64 (2 * (q : Int))]) ?B (by rfl) (by rfl) ⟨by rw [HQ.out], ?G⟩
  case B => exact (((R4.out.set_ 0 _).set_ 1 _).set_ 2 _).set_ 3 _
  case G => exact gbS (gbS (gbS (gbS G4.out (p := ⟨w.heap.size + 1, 0, none⟩) (by simp) _) (p := ⟨w.heap.size + 1, 1, none⟩) (by simp) _) (p := ⟨w.heap.size + 1, 2, none⟩) (by simp) _) (p := ⟨w.heap.size + 1, 3, none⟩) (by simp) _
theorem specGarbledCost_no (m : CM) (v : Value) (w : World) (h : AggR w (ccircuit m) v) (hok : ¬ COk m) :
    Calls Try.prog 15 #[v] w fun e w' => e = .returned (.agg #[.int .i64 0, .int .i64 0, .int .i64 0, .int .i64 0]) ∧ w.grownBy w' none := by
  have HV := Lib.hid h
  obtain ⟨u0, u1, rfl, h1, h2⟩ := ccircuit_open h
  have HOK := Lib.hid hok
  clear h h1 h2 hok
  have R1 := Lib.hid (Blk.new' (w.alloc (.cells #[u0, u1] 38)) 34 #[.int .i64 0, .int .i64 0, .int .i64 0, .int .i64 0] (w.heap.size + 1) (by simp))
  have G1 := Lib.hid (gbA (gbA (gbR w none) (.cells #[u0, u1] 38)) (.cells #[.int .i64 0, .int .i64 0, .int .i64 0, .int .i64 0] 34))
  go_enter Try.func15, Try.ntmps15
  go_wp2_with fail
  refine (specCircuitOk_c m _ _ (AggR.grow HV.out G1.out)).mono ?_
  rintro e w1 ⟨rfl, g⟩
  rw [circB_no HOK.out]
  have R4 := Lib.hid (R1.out.grow g)
  have G4 := Lib.hid (gbT G1.out g)
  have s0 := R4.out.cell 0
  have s1 := R4.out.cell 1
  have s2 := R4.out.cell 2
  have s3 := R4.out.cell 3
  have t0 := R4.out.frozen 0
  have t1 := R4.out.frozen 1
  have t2 := R4.out.frozen 2
  have t3 := R4.out.frozen 3
  simp at s0 s1 s2 s3
  clear g R1 G1
  go_wp2_with fail
  refine ret_c Try.results15 (by rfl) stCost (cs := #[.int .i64 0, .int .i64 0, .int .i64 0, .int .i64 0]) ?B (by rfl) (by rfl) ⟨rfl, ?G⟩
  case B => exact (((R4.out.set_ 0 _).set_ 1 _).set_ 2 _).set_ 3 _
  case G => exact gbS (gbS (gbS (gbS G4.out (p := ⟨w.heap.size + 1, 0, none⟩) (by simp) _) (p := ⟨w.heap.size + 1, 1, none⟩) (by simp) _) (p := ⟨w.heap.size + 1, 2, none⟩) (by simp) _) (p := ⟨w.heap.size + 1, 3, none⟩) (by simp) _
set_option maxHeartbeats 1000000 in
theorem implGarbledCost_yes (m : CM) (v : Value) (w : World) (h : AggR w (ccircuit m) v) (hok : COk m) :
    Calls Try.prog 17 #[v] w fun e w' => e = .returned (.agg #[.int .i64 2, .int .i64 0, .int .i64 0, .int .i64 (2 * (gts m.gt 4 m.gt.length : Int))]) ∧ w.grownBy w' none := by
  have HV := Lib.hid h
  obtain ⟨u0, u1, rfl, h1, h2⟩ := ccircuit_open h
  have HOK := Lib.hid hok
  have hmu : gts m.gt 4 m.gt.length ≤ 6000 := Nat.le_trans (gts_le _ _ _) hok.few
  clear h h1 h2 hok
  have A1 := Lib.hid ((Blk.new w 38 #[u0, u1]).grow (gbA (gbR _ none) (.cells #[.int .i64 0, .int .i64 0, .int .i64 0, .int .i64 0] 34)))
  have R1 := Lib.hid (Blk.new' (w.alloc (.cells #[u0, u1] 38)) 34 #[.int .i64 0, .int .i64 0, .int .i64 0, .int .i64 0] (w.heap.size + 1) (by simp))
  have G1 := Lib.hid (gbA (gbA (gbR w none) (.cells #[u0, u1] 38)) (.cells #[.int .i64 0, .int .i64 0, .int .i64 0, .int .i64 0] 34))
  go_enter Try.func17, Try.ntmps17
  go_wp2_with fail
  refine (implCircuitOk_c m _ _ (AggR.grow HV.out G1.out)).mono ?_
  rintro e w1 ⟨rfl, g⟩
  rw [circB_yes HOK.out]
  have A2 := Lib.hid (A1.out.grow g)
  have R2 := Lib.hid (R1.out.grow g)
  have G2 := Lib.hid (gbT G1.out g)
  have k0 := A2.out.cell 0
  have k1 := A2.out.cell 1
  simp at k0 k1
  clear g A1 R1 G1
  go_wp2_with fail
  refine (implCountGates_c m 4 _ _ (AggR.grow HV.out G2.out)).mono ?_
  rintro e w2 ⟨rfl, g⟩
  have R4 := Lib.hid (R2.out.grow g)
  have G4 := Lib.hid (gbT G2.out g)
  have s0 := R4.out.cell 0
  have s1 := R4.out.cell 1
  have s2 := R4.out.cell 2
  have s3 := R4.out.cell 3
  have t0 := R4.out.frozen 0
  have t1 := R4.out.frozen 1
  have t2 := R4.out.frozen 2
  have t3 := R4.out.frozen 3
  simp at s0 s1 s2 s3
  clear g k0 k1 A2 R2 G2
  generalize hq : gts m.gt 4 m.gt.length = q at *
  have HQ := Lib.hid hq
  clear hq
  go_wp2_with fail
  refine ret_c Try.results17 (by rfl) stCost (cs := #[.int .i64 2, .int .i64 0, .int .i64 0, .int .i64 (2 * (q : Int))]) ?B (by rfl) (by rfl) ⟨by rw [HQ.out], ?G⟩
  case B => exact (((R4.out.set_ 0 _).set_ 1 _).set_ 2 _).set_ 3 _
  case G => exact gbS (gbS (gbS (gbS G4.out (p := ⟨w.heap.size + 1, 0, none⟩) (by simp) _) (p := ⟨w.heap.size + 1, 1, none⟩) (by simp) _) (p := ⟨w.heap.size + 1, 2, none⟩) (by simp) _) (p := ⟨w.heap.size + 1, 3, none⟩) (by simp) _
theorem implGarbledCost_no (m : CM) (v : Value) (w : World) (h : AggR w (ccircuit m) v) (hok : ¬ COk m) :
    Calls Try.prog 17 #[v] w fun e w' => e = .returned (.agg #[.int .i64 0, .int .i64 0, .int .i64 0, .int .i64 0]) ∧ w.grownBy w' none := by
  have HV := Lib.hid h
  obtain ⟨u0, u1, rfl, h1, h2⟩ := ccircuit_open h
  have HOK := Lib.hid hok
  clear h h1 h2 hok
  have R1 := Lib.hid (Blk.new' (w.alloc (.cells #[u0, u1] 38)) 34 #[.int .i64 0, .int .i64 0, .int .i64 0, .int .i64 0] (w.heap.size + 1) (by simp))
  have G1 := Lib.hid (gbA (gbA (gbR w none) (.cells #[u0, u1] 38)) (.cells #[.int .i64 0, .int .i64 0, .int .i64 0, .int .i64 0] 34))
  go_enter Try.func17, Try.ntmps17
  go_wp2_with fail
  refine (implCircuitOk_c m _ _ (AggR.grow HV.out G1.out)).mono ?_
  rintro e w1 ⟨rfl, g⟩
  rw [circB_no HOK.out]
  have R4 := Lib.hid (R1.out.grow g)
  have G4 := Lib.hid (gbT G1.out g)
  have s0 := R4.out.cell 0
  have s1 := R4.out.cell 1
  have s2 := R4.out.cell 2
  have s3 := R4.out.cell 3
  have t0 := R4.out.frozen 0
  have t1 := R4.out.frozen 1
  have t2 := R4.out.frozen 2
  have t3 := R4.out.frozen 3
  simp at s0 s1 s2 s3
  clear g R1 G1
  go_wp2_with fail
  refine ret_c Try.results17 (by rfl) stCost (cs := #[.int .i64 0, .int .i64 0, .int .i64 0, .int .i64 0]) ?B (by rfl) (by rfl) ⟨rfl, ?G⟩
  case B => exact (((R4.out.set_ 0 _).set_ 1 _).set_ 2 _).set_ 3 _
  case G => exact gbS (gbS (gbS (gbS G4.out (p := ⟨w.heap.size + 1, 0, none⟩) (by simp) _) (p := ⟨w.heap.size + 1, 1, none⟩) (by simp) _) (p := ⟨w.heap.size + 1, 2, none⟩) (by simp) _) (p := ⟨w.heap.size + 1, 3, none⟩) (by simp) _
end Go.Proofs.Ytaokichfakolmaa
