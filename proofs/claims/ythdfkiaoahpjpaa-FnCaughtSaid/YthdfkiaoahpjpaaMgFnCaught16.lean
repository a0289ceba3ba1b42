/-
  Labels: delta, zero labels of inputs, hashes, labels of values (reference and program).
-/
import Derived.Test.YthdfkiaoahpjpaaMgFnCaught15
namespace Go.Proofs.Ythdfkiaoahpjpaa
open Go.RowKit
set_option linter.unusedVariables false
set_option linter.unusedSimpArgs false
theorem or_nat (a b : Nat) (ha : a < 9223372036854775808) (hb : b < 9223372036854775808) : bits .or .i64 (a : Int) (b : Int) = ((a ||| b : Nat) : Int) := by
  have hx : a ||| b < 2 ^ 63 := Nat.or_lt_two_pow (by omega) (by omega)
  show IntKind.i64.wrap ((BitVec.ofInt 64 (a : Int) ||| BitVec.ofInt 64 (b : Int)).toNat : Int) = _
  rw [BitVec.toNat_or, ofInt_i64 a ha, ofInt_i64 b hb, IntKind.wrap_i64]
  omega
def dltN (s : Nat) : Nat := belN s 0 65536 ||| 1
theorem dltN_lt (s : Nat) : dltN s < 65536 := Nat.or_lt_two_pow (n := 16) (belN_lt (by omega)) (by omega)
def inzN (s k : Nat) : Nat := belN (keyN s 9 k) 0 65536
theorem inzN_lt (s k : Nat) : inzN s k < 65536 := belN_lt (by omega)
def hshN (x n : Nat) : Nat := keyN 77 n x % 65536
theorem hshN_lt (x n : Nat) : hshN x n < 65536 := Nat.mod_lt _ (by omega)
set_option maxHeartbeats 1000000 in
theorem implDeltaOf_yes (s : Nat) (w : World) (hs : s < 4294967296) :
    Calls Try.prog 104 #[.agg #[.int .i64 s, .int .i64 0]] w fun e w' => e = .returned (.tuple #[.int .i64 (dltN s), .agg #[.int .i64 s, .int .i64 1]]) ∧ w.grownBy w' none := by
  have d1 : Hid (tapeB (s : Int) 0 = true) := Lib.hid (tape_yes hs (show 0 ≤ 1000000 by omega))
  obtain ⟨x, hx⟩ : ∃ x, belN s 0 65536 = x := ⟨_, rfl⟩
  have hx6 : x < 65536 := by rw [← hx]; exact belN_lt (by omega)
  have HO : Hid (bits .or .i64 (x : Int) 1 = ((dltN s : Nat) : Int)) := by
    unfold dltN
    rw [hx]
    exact Lib.hid (or_nat x 1 (by omega) (by omega))
  have HX := Lib.hid hx
  obtain ⟨dd, hdd⟩ : ∃ dd, dltN s = dd := ⟨_, rfl⟩
  rw [hdd] at HO ⊢
  clear hx hdd
  go_enter Try.func104, Try.ntmps104
  have B0 := Lib.hid ((Blk.new w 65 #[.int .i64 s, .int .i64 0]).grow (gbA (gbR _ _) (.cells #[.int .i64 0, .int .i64 0] 65)))
  have B1 := Lib.hid (Blk.new' (w.alloc (.cells #[.int .i64 s, .int .i64 0] 65)) 65 #[.int .i64 0, .int .i64 0] (w.heap.size + 1) (by simp))
  have G1 := Lib.hid (gbA (gbA (gbR w none) (.cells #[.int .i64 s, .int .i64 0] 65)) (.cells #[.int .i64 0, .int .i64 0] 65))
  go_wp2_with fail
  refine (implTapeOk_c s 0 _).mono ?_
  rintro e w1 ⟨rfl, g1⟩
  rw [d1.out]
  have E0 := Lib.hid (B0.out.grow g1)
  have E1 := Lib.hid (B1.out.grow g1)
  have H1 := Lib.hid (gbT G1.out g1)
  have z1 : w.heap.size + 2 ≤ w1.heap.size := by have := g1.size; simp at this; omega
  clear g1 B0 B1 G1
  have c0 := E0.out.cell 0
  have c1 := E0.out.cell 1
  simp at c0 c1
  go_wp2_with fail
  clear c0 c1
  refine (implTapeBelow_yes s 0 65536 _ hs (by omega) (by omega) (by omega)).mono ?_
  rintro e w2 ⟨rfl, g2⟩
  rw [HX.out]
  obtain ⟨w3, hw3⟩ : ∃ q : World, w2.alloc (.cells #[.int .i64 s, .int .i64 1] 65) = q := ⟨_, rfl⟩
  have g3 : w2.grownBy w3 none := by rw [← hw3]; exact gbA (gbR _ _) _
  have B5 : Hid (Blk w3 w2.heap.size 65 #[.int .i64 s, .int .i64 1]) := by rw [← hw3]; exact Lib.hid (Blk.new w2 _ _)
  have B3 := Lib.hid (E1.out.grow (gbT g2 g3))
  have G3 := Lib.hid (gbT H1.out (gbT g2 g3))
  clear E0 E1 H1 g2 g3
  go_wp2_with fail
  try rw [hw3]
  clear hw3
  have c0 := B5.out.cell 0
  have c1 := B5.out.cell 1
  simp at c0 c1
  refine region_chain [.rd (.int .i64 x), .rd (.int .i64 (bits .or .i64 (x : Int) 1)), .rd (.agg #[.int .i64 s, .int .i64 1]), .rd (.int .i64 (bits .or .i64 (x : Int) 1)), .ch] (fun _ => False) [⟨[], fun _ w' => w' = w3.drew⟩, ⟨[], fun _ w' => Blk w' (w.heap.size + 1) 65 #[.int .i64 s, .int .i64 1] ∧ Chg (fun y => y = w.heap.size + 1) w3.drew w'⟩] (by kernel_rfl) (by kernel_rfl) (by kernel_rfl) 1 (by kernel_rfl) (by simp only [flOk, and_true]) rfl rfl ?_ ?_
  · simp only [hopsK, hopK, Kd.next, and_true]
    refine ⟨?_, ?_, ?_, ?_, ?_⟩
    rotate_left 4
    · intro f w4 hG hI hd
      have hI : w4 = w3.drew := hI
      subst hI
      (try simp [depsC, dstAt, kAt, bindE, List.filter_cons, bd_data, bd_chain, bd_guard, bd_phase, bd_text, bd_gc] at hd)
      have R4 := (B3.out).grow (gbD (gbR _ none))
      have rf0 := R4.frozen 0
      have rg0 := (B3.out).frozen 0
      have rb0 := R4.cell 0
      have rf1 := R4.frozen 1
      have rg1 := (B3.out).frozen 1
      have rb1 := R4.cell 1
      simp at rb0 rb1
      have RS := Lib.hid (blk_setCells R4 [.int .i64 s, .int .i64 1] rfl)
      clear R4
      first | simp [puts, dsts, Act.put, hd] | simp [puts, dsts, Act.put]
      clear hd
      go_wp2_with fail
      exact ⟨rfl, .bool false, RS.out, chg_setCells (w.heap.size + 1) [.int .i64 s, .int .i64 1] 0 w3.drew⟩
    all_goals
      intro f w4 hG hd
      have k0 := gbk (gbT (gbD (gbR _ none)) (chgF hG)) (c0)
      have k1 := gbk (gbT (gbD (gbR _ none)) (chgF hG)) (c1)
      (try simp [depsC, dstAt, kAt, bindE, List.filter_cons, bd_data, bd_chain, bd_guard, bd_phase, bd_text, bd_gc] at hd)
      (first | simp [puts, dsts, Act.put, hd] | simp [puts, dsts, Act.put])
      clear hd
      go_wp2_with (fail)
      exact ⟨rfl, rfl⟩
  intro f w5 hI hd
  obtain ⟨hBS, hCH⟩ := hI
  have hCH := chgD hCH
  simp [knowsC, dstAt] at hd
  obtain ⟨h0_, h1_, h2_, h3_⟩ := hd
  simp only [puts, dsts, Act.put, h0_, h1_, h2_, h3_, List.filterMap_cons, List.filterMap_nil, List.setIfInBounds_toArray, List.set_cons_zero, List.set_cons_succ]
  clear h0_ h1_ h2_ h3_
  rw [HO.out]
  go_wp2_with fail
  refine ret_tc Try.results104 (by rfl) stTape (cs := #[.int .i64 s, .int .i64 1]) hBS (by rfl) (by rfl) ?_
  exact ⟨rfl, gb_chg G3.out hCH (by omega)⟩
set_option maxHeartbeats 1000000 in
theorem implInputZero_yes (s k : Nat) (w : World) (hs : s < 4294967296) (hk : k ≤ 1000000) :
    Calls Try.prog 105 #[.agg #[.int .i64 s, .int .i64 0], .int .i64 k] w fun e w' => e = .returned (.int .i64 (inzN s k)) ∧ w.grownBy w' none := by
  have d1 : Hid (tapeB (s : Int) 0 = true) := Lib.hid (tape_yes hs (show 0 ≤ 1000000 by omega))
  have q1 := Lib.hid (inQ_yes (z := (k : Int)) (a := 0) (b := 1000000) (by omega) (by omega))
  have HI : Hid (belN (keyN s 9 k) 0 65536 = inzN s k) := rfl
  have hk4 : keyN s 9 k < 4294967296 := keyN_lt hs (by omega) (by omega)
  obtain ⟨kk, hkk⟩ : ∃ kk, keyN s 9 k = kk := ⟨_, rfl⟩
  rw [hkk] at HI hk4
  obtain ⟨iz, hiz⟩ : ∃ iz, inzN s k = iz := ⟨_, rfl⟩
  rw [hiz] at HI ⊢
  have HKK := Lib.hid hkk
  clear hkk hiz
  go_enter Try.func105, Try.ntmps105
  have B0 := Lib.hid (Blk.new w 65 #[.int .i64 s, .int .i64 0])
  have G0 := Lib.hid (gbA (gbR w none) (.cells #[.int .i64 s, .int .i64 0] 65))
  go_wp2_with fail
  refine (implTapeOk_c s 0 _).mono ?_
  rintro e w1 ⟨rfl, g1⟩
  rw [d1.out]
  have B1 := Lib.hid (B0.out.grow g1)
  have G1 := Lib.hid (gbT G0.out g1)
  clear g1 B0 G0
  go_wp2_with fail
  refine (implInq_c k 0 1000000 _).mono ?_
  rintro e w1 ⟨rfl, rfl⟩
  rw [q1.out]
  have c0 := B1.out.cell 0
  have c1 := B1.out.cell 1
  simp at c0 c1
  go_wp2_with fail
  clear c0 c1
  refine (implTapeFork_yes s 0 k _ hs (by omega) hk).mono ?_
  rintro e w2 ⟨rfl, g2⟩
  rw [HKK.out]
  have G2 := Lib.hid (gbT G1.out g2)
  clear g2
  go_wp2_with fail
  refine (implTapeBelow_yes kk 0 65536 _ hk4 (by omega) (by omega) (by omega)).mono ?_
  rintro e w3 ⟨rfl, g3⟩
  rw [HI.out]
  have G3 := Lib.hid (gbT G2.out g3)
  clear g3
  go_wp2_with fail
  go_ret
  exact ⟨rfl, gbA G3.out _⟩
theorem implIsLabel_c (x : Int) (w : World) : Calls Try.prog 124 #[.int .i64 x] w fun e w' => e = .returned (.bool (inQ x 0 65535)) ∧ w = w' := by
  go_enter Try.func124, Try.ntmps124
  go_wp2_with fail
  refine (implInq_c x 0 65535 _).mono ?_
  rintro e w1 ⟨rfl, rfl⟩
  go_wp2_with fail
  go_ret
  exact ⟨rfl, rfl⟩
set_option maxHeartbeats 1000000 in
theorem implHashLabel_yes (x n : Nat) (w : World) (hx : x < 65536) (hn : n ≤ 1000000) :
    Calls Try.prog 106 #[.int .i64 x, .int .i64 n] w fun e w' => e = .returned (.int .i64 (hshN x n)) ∧ w = w' := by
  have q1 := Lib.hid (inQ_yes (z := (x : Int)) (a := 0) (b := 65535) (by omega) (by omega))
  have q2 := Lib.hid (inQ_yes (z := (n : Int)) (a := 0) (b := 1000000) (by omega) (by omega))
  have hk4 : keyN 77 n x < 4294967296 := keyN_lt (by omega) (by omega) (by omega)
  have HH : Hid (hshN x n = keyN 77 n x % 65536) := rfl
  obtain ⟨kk, hkk⟩ : ∃ kk, keyN 77 n x = kk := ⟨_, rfl⟩
  rw [hkk] at HH hk4
  have HKK := Lib.hid hkk
  clear hkk
  go_enter Try.func106, Try.ntmps106
  go_wp2_with fail
  refine (implIsLabel_c x _).mono ?_
  rintro e w1 ⟨rfl, rfl⟩
  rw [q1.out]
  go_wp2_with fail
  refine (implInq_c n 0 1000000 _).mono ?_
  rintro e w1 ⟨rfl, rfl⟩
  rw [q2.out]
  go_wp2_with fail
  refine (implKeyed_yes 77 n x _ (by omega) (by omega) (by omega)).mono ?_
  rintro e w1 ⟨rfl, rfl⟩
  rw [HKK.out]
  go_wp2_with fail
  go_ret
  rw [HH.out]
  exact ⟨retI (by simp), rfl⟩
end Go.Proofs.Ythdfkiaoahpjpaa
