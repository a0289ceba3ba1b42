/-
  Words and tapes: what they compute.
-/
import Derived.Test.YthdfkiaoahpjpaaMgFnCaught11
namespace Go.Proofs.Ythdfkiaoahpjpaa
open Go.RowKit
set_option linter.unusedVariables false
set_option linter.unusedSimpArgs false
def mixS (x : Nat) : Nat := ((x ^^^ x / 65536) * 73244475) &&& 4294967295
def mixTo (x : Nat) : Nat → Nat
  | 0 => x
  | k + 1 => mixS (mixTo x k)
def mixN (x : Nat) : Nat := mixTo x 2 ^^^ mixTo x 2 / 65536
def keyN (k a b : Nat) : Nat := mixN (mixN (mixN k ^^^ a) ^^^ b)
theorem mixS_lt (x : Nat) : mixS x < 4294967296 := by
  unfold mixS
  exact Nat.lt_of_le_of_lt Nat.and_le_right (by omega)
theorem mixTo_lt {x : Nat} (h : x < 4294967296) : ∀ k, mixTo x k < 4294967296
  | 0 => h
  | k + 1 => mixS_lt _
theorem xor_lt {a b : Nat} (ha : a < 4294967296) (hb : b < 4294967296) : a ^^^ b < 4294967296 := Nat.xor_lt_two_pow (n := 32) ha hb
theorem mixN_lt {x : Nat} (h : x < 4294967296) : mixN x < 4294967296 := by
  have := mixTo_lt h 2
  unfold mixN
  exact xor_lt this (by omega)
theorem keyN_lt {k a b : Nat} (hk : k < 4294967296) (ha : a < 4294967296) (hb : b < 4294967296) : keyN k a b < 4294967296 := by
  unfold keyN
  exact mixN_lt (xor_lt (mixN_lt (xor_lt (mixN_lt hk) ha)) hb)
theorem mix_xor {x : Nat} (h : x < 4294967296) : bits .xor .i64 (x : Int) ((x : Int) / 65536) = ((x ^^^ x / 65536 : Nat) : Int) := by
  rw [show (x : Int) / 65536 = ((x / 65536 : Nat) : Int) by omega]
  exact xor_nat x (x / 65536) (by omega) (by omega)
theorem mix_and {y : Nat} (h : y < 4294967296) : bits .and .i64 ((y : Int) * 73244475) 4294967295 = ((y * 73244475 &&& 4294967295 : Nat) : Int) := by
  rw [show (y : Int) * 73244475 = ((y * 73244475 : Nat) : Int) by omega, show (4294967295 : Int) = ((4294967295 : Nat) : Int) by rfl]
  exact and_nat _ _ (by omega) (by omega)
set_option maxHeartbeats 400000 in
theorem implMix_yes (x : Nat) (w : World) (hx : x < 4294967296) :
    Calls Try.prog 136 #[.int .i64 x] w fun e w' => e = .returned (.int .i64 (mixN x)) ∧ w = w' := by
  go_enter Try.func136, Try.ntmps136
  have d1 : decide ((x : Int) ≤ 4294967295) = true := by simp; omega
  go_wp2
  go_loop [0, 3] (fun z i => ∃ k : Nat, k ≤ 2 ∧ i = .int .i64 k ∧ z = .int .i64 (mixTo x k : Nat)) (fun _ i => 2 - (intOf i).toNat)
  case atStart => exact ⟨0, by omega, rfl, rfl⟩
  case round =>
    obtain ⟨k, hk, rfl, rfl⟩ := hrel
    have hl := mixTo_lt hx k
    by_cases hlt : k < 2
    · have i1 : (k : Int) < 2 := by omega
      have HS : Hid (mixTo x (k + 1) = mixS (mixTo x k)) := rfl
      have hx1 := mix_xor hl
      have hy := xor_lt hl (show mixTo x k / 65536 < 4294967296 by omega)
      have hx2 := mix_and hy
      unfold mixS at HS
      generalize mixTo x k = z at *
      generalize z ^^^ z / 65536 = y at *
      generalize y * 73244475 &&& 4294967295 = r at *
      go_wp2_with fail
      go_round
      case rel => exact ⟨k + 1, by omega, by go_num, by rw [HS.out]⟩
      case measure => simp [intOf]; omega
    · have hk2 : k = 2 := by omega
      subst hk2
      have HS : Hid (mixN x = mixTo x 2 ^^^ mixTo x 2 / 65536) := rfl
      have hx1 := mix_xor hl
      generalize mixTo x 2 = z at *
      generalize z ^^^ z / 65536 = y at *
      go_wp2_with fail
      go_ret
      exact ⟨retI (by rw [HS.out]), rfl⟩
set_option maxHeartbeats 400000 in
theorem implKeyed_yes (k a b : Nat) (w : World) (hk : k < 4294967296) (ha : a < 4294967296) (hb : b < 4294967296) :
    Calls Try.prog 125 #[.int .i64 k, .int .i64 a, .int .i64 b] w fun e w' => e = .returned (.int .i64 (keyN k a b)) ∧ w = w' := by
  have d1 : decide ((k : Int) ≤ 4294967295) = true := by simp; omega
  have d2 : decide ((a : Int) ≤ 4294967295) = true := by simp; omega
  have d3 : decide ((b : Int) ≤ 4294967295) = true := by simp; omega
  have m1 := mixN_lt hk
  have e1 := xor_nat (mixN k) a (by omega) (by omega)
  have m2 := mixN_lt (xor_lt m1 ha)
  have e2 := xor_nat (mixN (mixN k ^^^ a)) b (by omega) (by omega)
  have m3 := Lib.hid (xor_lt m2 hb)
  have m4 := Lib.hid (xor_lt m1 ha)
  have HK : Hid (keyN k a b = mixN (mixN (mixN k ^^^ a) ^^^ b)) := rfl
  have q1 := Lib.hid (inQ_yes (z := (k : Int)) (a := 0) (b := 4294967295) (by omega) (by omega))
  have q2 := Lib.hid (inQ_yes (z := (a : Int)) (a := 0) (b := 4294967295) (by omega) (by omega))
  have q3 := Lib.hid (inQ_yes (z := (b : Int)) (a := 0) (b := 4294967295) (by omega) (by omega))
  clear d1 d2 d3
  go_enter Try.func125, Try.ntmps125
  go_wp2_with fail
  refine (implWordq_c k _).mono ?_
  rintro e w1 ⟨rfl, rfl⟩
  rw [q1.out]
  go_wp2_with fail
  refine (implWordq_c a _).mono ?_
  rintro e w1 ⟨rfl, rfl⟩
  rw [q2.out]
  go_wp2_with fail
  refine (implWordq_c b _).mono ?_
  rintro e w1 ⟨rfl, rfl⟩
  rw [q3.out]
  go_wp2_with fail
  refine (implMix_yes k _ hk).mono ?_
  rintro e w1 ⟨rfl, rfl⟩
  generalize mixN k = z1 at *
  go_wp2_with fail
  refine (implMix_yes (z1 ^^^ a) _ m4.out).mono ?_
  rintro e w1 ⟨rfl, rfl⟩
  generalize mixN (z1 ^^^ a) = z2 at *
  go_wp2_with fail
  refine (implMix_yes (z2 ^^^ b) _ m3.out).mono ?_
  rintro e w1 ⟨rfl, rfl⟩
  go_wp2_with fail
  go_ret
  exact ⟨retI (by rw [HK.out]), rfl⟩
def tapeB (s a : Int) : Bool := inQ s 0 4294967295 && inQ a 0 1000000
theorem tape_yes {s a : Nat} (hs : s < 4294967296) (ha : a ≤ 1000000) : tapeB s a = true := by
  unfold tapeB; rw [inQ_yes (by omega) (by omega), inQ_yes (by omega) (by omega)]; rfl
theorem stTape : St Try.prog 65 2 := ⟨⟨_, Try.underlying65, rfl⟩, by kernel_rfl⟩
theorem implTapeOk_c (s a : Int) (w : World) :
    Calls Try.prog 103 #[.agg #[.int .i64 s, .int .i64 a]] w fun e w' => e = .returned (.bool (tapeB s a)) ∧ w.grownBy w' none := by
  cases d1 : inQ s 0 4294967295
  · have HT : Hid (tapeB s a = false) := by unfold Hid tapeB; rw [d1]; rfl
    go_enter Try.func103, Try.ntmps103
    go_wp2_with fail
    refine (implWordq_c s _).mono ?_
    rintro e w1 ⟨rfl, rfl⟩
    rw [d1]
    go_wp2_with fail
    go_ret
    exact ⟨retB (by rw [HT.out]), gbA (gbR _ _) _⟩
  · have HT : Hid (tapeB s a = inQ a 0 1000000) := by unfold Hid tapeB; rw [d1]; rfl
    go_enter Try.func103, Try.ntmps103
    go_wp2_with fail
    refine (implWordq_c s _).mono ?_
    rintro e w1 ⟨rfl, rfl⟩
    rw [d1]
    go_wp2_with fail
    refine (implInq_c a 0 1000000 _).mono ?_
    rintro e w1 ⟨rfl, rfl⟩
    go_wp2_with fail
    go_ret
    exact ⟨retB (by rw [HT.out]), gbA (gbR _ _) _⟩
set_option maxHeartbeats 400000 in
theorem implTapeWord_yes (s a : Nat) (w : World) (hs : s < 4294967296) (ha : a < 1000000) :
    Calls Try.prog 135 #[.agg #[.int .i64 s, .int .i64 a]] w fun e w' => e = .returned (.tuple #[.int .i64 (keyN s 7 a), .agg #[.int .i64 s, .int .i64 ((a : Int) + 1)]]) ∧ w.grownBy w' none := by
  have d1 := Lib.hid (tape_yes hs (show a ≤ 1000000 by omega))
  have d3 : ((a : Int) == 1000000) = false := by simp; omega
  have m := keyN_lt (k := s) (a := 7) (b := a) hs (by omega) (by omega)
  go_enter Try.func135, Try.ntmps135
  go_wp2_with fail
  refine (implTapeOk_c s a _).mono ?_
  rintro e w1 ⟨rfl, g1⟩
  rw [d1.out]
  have B0 := Lib.hid (Blk.grow ((Blk.new w 65 #[.int .i64 s, .int .i64 a]).grow (gbA (gbR _ _) _)) g1)
  have B1 := Lib.hid (Blk.grow (Blk.new' (w.alloc (.cells #[.int .i64 s, .int .i64 a] 65)) 65 #[.int .i64 0, .int .i64 0] (w.heap.size + 1) (by simp)) g1)
  have G1 := Lib.hid (gbT (gbA (gbA (gbR w none) (.cells #[.int .i64 s, .int .i64 a] 65)) (.cells #[.int .i64 0, .int .i64 0] 65)) g1)
  have c0 := B0.out.cell 0
  have c1 := B0.out.cell 1
  have b0 := B1.out.cell 0
  have b1 := B1.out.cell 1
  have f0 := B1.out.frozen 0
  have f1 := B1.out.frozen 1
  simp at c0 c1 b0 b1
  clear g1
  go_wp2_with fail
  refine region_chain [.rd (.pointer (some ⟨w.heap.size, 0, none⟩)), .rd (.int .i64 s), .rd (.pointer (some ⟨w.heap.size, 1, none⟩)), .rd (.int .i64 a), .rd (.int .i64 (keyN s 7 a)), .rd (.pointer (some ⟨w.heap.size, 0, none⟩)), .rd (.int .i64 s), .rd (.pointer (some ⟨w.heap.size, 1, none⟩)), .rd (.int .i64 a), .rd (.int .i64 ((a : Int) + 1)), .rd (.agg #[.int .i64 s, .int .i64 ((a : Int) + 1)]), .rd (.int .i64 (keyN s 7 a)), .ch] (fun _ => False) [⟨[], fun _ w' => w' = w1.drew⟩, ⟨[], fun _ w' => Blk w' (w.heap.size + 1) 65 #[.int .i64 s, .int .i64 ((a : Int) + 1)] ∧ Chg (fun y => y = w.heap.size + 1) w1.drew w'⟩] (by kernel_rfl) (by kernel_rfl) (by kernel_rfl) 1 (by kernel_rfl) (by simp only [flOk, and_true]) rfl rfl ?_ ?_
  · simp only [hopsK, hopK, Kd.next, and_true]
    refine ⟨?_, ?_, ?_, ?_, ?_, ?_, ?_, ?_, ?_, ?_, ?_, ?_, ?_⟩
    rotate_left 12
    · intro f w4 hG hI hd
      have hI : w4 = w1.drew := hI
      subst hI
      (try simp [depsC, dstAt, kAt, bindE, List.filter_cons, bd_data, bd_chain, bd_guard, bd_phase, bd_text, bd_gc] at hd)
      have R4 := (B1.out).grow (gbD (gbR _ none))
      have rf0 := R4.frozen 0
      have rg0 := (B1.out).frozen 0
      have rb0 := R4.cell 0
      have rf1 := R4.frozen 1
      have rg1 := (B1.out).frozen 1
      have rb1 := R4.cell 1
      simp at rb0 rb1
      have RS := Lib.hid (blk_setCells R4 [.int .i64 s, .int .i64 ((a : Int) + 1)] rfl)
      clear R4
      first | simp [puts, dsts, Act.put, hd] | simp [puts, dsts, Act.put]
      clear hd
      go_wp2_with fail
      exact ⟨rfl, .bool false, RS.out, chg_setCells (w.heap.size + 1) [.int .i64 s, .int .i64 ((a : Int) + 1)] 0 w1.drew⟩
    all_goals
      intro f w4 hG hd
      have k0 := gbk (gbT (gbD (gbR _ none)) (chgF hG)) (c0)
      have k1 := gbk (gbT (gbD (gbR _ none)) (chgF hG)) (c1)
      (try simp [depsC, dstAt, kAt, bindE, List.filter_cons, bd_data, bd_chain, bd_guard, bd_phase, bd_text, bd_gc] at hd)
      (first | simp [puts, dsts, Act.put, hd] | simp [puts, dsts, Act.put])
      clear hd
      go_wp2_with (go_at_call 125; refine (implKeyed_yes s 7 a _ hs (by omega) (by omega)).mono ?_; rintro e w1 ⟨rfl, rfl⟩)
      exact ⟨rfl, rfl⟩
  intro f w5 hI hd
  obtain ⟨hBS, hCH⟩ := hI
  have hCH := chgD hCH
  simp [knowsC, dstAt] at hd
  obtain ⟨h0_, h1_, h2_, h3_, h4_, h5_, h6_, h7_, h8_, h9_, h10_, h11_⟩ := hd
  simp only [puts, dsts, Act.put, h0_, h1_, h2_, h3_, h4_, h5_, h6_, h7_, h8_, h9_, h10_, h11_, List.filterMap_cons, List.filterMap_nil, List.setIfInBounds_toArray, List.set_cons_zero, List.set_cons_succ]
  clear h0_ h1_ h2_ h3_ h4_ h5_ h6_ h7_ h8_ h9_ h10_ h11_
  go_wp2_with fail
  refine ret_tc Try.results135 (by rfl) stTape (cs := #[.int .i64 s, .int .i64 ((a : Int) + 1)]) hBS (by rfl) (by rfl) ?_
  exact ⟨rfl, gb_chg G1.out hCH (by omega)⟩
end Go.Proofs.Ythdfkiaoahpjpaa
