/-
  TapeBelow, TapeFork: what they compute.
-/
import Derived.Test.YthdfkiaoahpjpaaMgFnCaught12
import Derived.IntWalk
namespace Go.Proofs.Ythdfkiaoahpjpaa
open Go.RowKit
set_option linter.unusedVariables false
set_option linter.unusedSimpArgs false
def belN (s a n : Nat) : Nat := keyN s 7 a / 256 % n
theorem belN_lt {s a n : Nat} (h : 0 < n) : belN s a n < n := Nat.mod_lt _ h
set_option maxHeartbeats 400000 in
theorem implTapeBelow_yes (s a n : Nat) (w : World) (hs : s < 4294967296) (ha : a < 1000000) (hn1 : 1 ≤ n) (hn : n ≤ 65536) :
    Calls Try.prog 122 #[.agg #[.int .i64 s, .int .i64 a], .int .i64 n] w fun e w' => e = .returned (.tuple #[.int .i64 (belN s a n), .agg #[.int .i64 s, .int .i64 ((a : Int) + 1)]]) ∧ w.grownBy w' none := by
  have q1 := Lib.hid (inQ_yes (z := (n : Int)) (a := 1) (b := 65536) (by omega) (by omega))
  have d1 := Lib.hid (tape_yes hs (show a ≤ 1000000 by omega))
  have d3 : ((a : Int) == 1000000) = false := by simp; omega
  have m := keyN_lt (k := s) (a := 7) (b := a) hs (by omega) (by omega)
  have HB : Hid (belN s a n = keyN s 7 a / 256 % n) := rfl
  have n0 : ¬ (n : Int) = 0 := by omega
  have n1 : ¬ n = 0 := by omega
  go_enter Try.func122, Try.ntmps122
  have B0 := Lib.hid ((Blk.new w 65 #[.int .i64 s, .int .i64 a]).grow (gbA (gbR _ _) (.cells #[.int .i64 0, .int .i64 0] 65)))
  have B1 := Lib.hid (Blk.new' (w.alloc (.cells #[.int .i64 s, .int .i64 a] 65)) 65 #[.int .i64 0, .int .i64 0] (w.heap.size + 1) (by simp))
  have G1 := Lib.hid (gbA (gbA (gbR w none) (.cells #[.int .i64 s, .int .i64 a] 65)) (.cells #[.int .i64 0, .int .i64 0] 65))
  go_wp2_with fail
  refine (implInq_c n 1 65536 _).mono ?_
  rintro e w1 ⟨rfl, rfl⟩
  rw [q1.out]
  go_wp2_with fail
  refine (implTapeOk_c s a _).mono ?_
  rintro e w1 ⟨rfl, g1⟩
  rw [d1.out]
  have B0 := Lib.hid (B0.out.grow g1)
  have B1 := Lib.hid (B1.out.grow g1)
  have G1 := Lib.hid (gbT G1.out g1)
  clear g1
  have c0 := B0.out.cell 0
  have c1 := B0.out.cell 1
  simp at c0 c1
  go_wp2_with fail
  refine (implTapeWord_yes s a _ hs ha).mono ?_
  rintro e w2 ⟨rfl, g2⟩
  have z2 := g2.size
  have B2 := Lib.hid (B1.out.grow g2)
  have G2 := Lib.hid (gbT G1.out g2)
  have L2 := B2.out.lt
  clear g2 B0 B1
  try clear c0 c1
  go_wp2_with fail
  obtain ⟨w3, hw3⟩ : ∃ x : World, w2.alloc (.cells #[.int .i64 s, .int .i64 ((a : Int) + 1)] 65) = x := ⟨_, rfl⟩
  have B3 : Hid (Blk w3 (w.heap.size + 1) 65 #[.int .i64 0, .int .i64 0]) := by rw [← hw3]; exact B2.out.grow (gbA (gbR _ _) _)
  have N3 : Hid (Blk w3 w2.heap.size 65 #[.int .i64 s, .int .i64 ((a : Int) + 1)]) := by rw [← hw3]; exact Blk.new _ _ _
  have G3 : Hid (w.grownBy w3 none) := by rw [← hw3]; exact gbA G2.out _
  rw [hw3]
  clear hw3
  have c0 := N3.out.cell 0
  have c1 := N3.out.cell 1
  simp at c0 c1
  obtain ⟨kn, hkn⟩ : ∃ x, keyN s 7 a = x := ⟨_, rfl⟩
  rw [hkn] at HB m ⊢
  have HB2 : Hid (((kn : Int) / 256 % (n : Int)) = ((kn / 256 % n : Nat) : Int)) := by unfold Hid; simp
  clear hkn
  refine region_chain [.rd (.int .i64 kn), .rd (.int .i64 ((kn : Int) / 256)), .rd (.int .i64 n), .rd (.int .i64 ((kn : Int) / 256 % (n : Int))), .rd (.agg #[.int .i64 s, .int .i64 ((a : Int) + 1)]), .rd (.int .i64 ((kn : Int) / 256 % (n : Int))), .ch] (fun _ => False) [⟨[], fun _ w' => w' = w3.drew⟩, ⟨[], fun _ w' => Blk w' (w.heap.size + 1) 65 #[.int .i64 s, .int .i64 ((a : Int) + 1)] ∧ Chg (fun y => y = w.heap.size + 1) w3.drew w'⟩] (by kernel_rfl) (by kernel_rfl) (by kernel_rfl) 1 (by kernel_rfl) (by simp only [flOk, and_true]) rfl rfl ?_ ?_
  · simp only [hopsK, hopK, Kd.next, and_true]
    refine ⟨?_, ?_, ?_, ?_, ?_, ?_, ?_⟩
    rotate_left 6
    · intro f w4 hG hI hd
      have hI : w4 = w3.drew := hI
      subst hI
      (try simp [depsC, dstAt, kAt, bindE, List.filter_cons, bd_data, bd_chain, bd_guard, bd_phase, bd_text, bd_gc] at hd)
      have R4 := (B3.out).grow (gbD (gbR _ none))
      have rf0 := R4.frozen 0
      have rg0 := (B3.out).frozen 0
      have rb0 := R4.cell 0
      have rf1 := R4.frozen 1
      have rg1 := (B3.out).frozen 1
      have rb1 := R4.cell 1
      simp at rb0 rb1
      have RS := Lib.hid (blk_setCells R4 [.int .i64 s, .int .i64 ((a : Int) + 1)] rfl)
      clear R4
      first | simp [puts, dsts, Act.put, hd] | simp [puts, dsts, Act.put]
      clear hd
      go_wp2_with fail
      exact ⟨rfl, .bool false, RS.out, chg_setCells (w.heap.size + 1) [.int .i64 s, .int .i64 ((a : Int) + 1)] 0 w3.drew⟩
    all_goals
      intro f w4 hG hd
      have k0 := gbk (gbT (gbD (gbR _ none)) (chgF hG)) (c0)
      have k1 := gbk (gbT (gbD (gbR _ none)) (chgF hG)) (c1)
      (try simp [depsC, dstAt, kAt, bindE, List.filter_cons, bd_data, bd_chain, bd_guard, bd_phase, bd_text, bd_gc] at hd)
      (first | simp [puts, dsts, Act.put, hd] | simp [puts, dsts, Act.put])
      clear hd
      go_wp2_with (fail)
      exact ⟨rfl, rfl⟩
  intro f w5 hI hd
  obtain ⟨hBS, hCH⟩ := hI
  have hCH := chgD hCH
  simp [knowsC, dstAt] at hd
  obtain ⟨h0_, h1_, h2_, h3_, h4_, h5_⟩ := hd
  simp only [puts, dsts, Act.put, h0_, h1_, h2_, h3_, h4_, h5_, List.filterMap_cons, List.filterMap_nil, List.setIfInBounds_toArray, List.set_cons_zero, List.set_cons_succ]
  clear h0_ h1_ h2_ h3_ h4_ h5_
  go_wp2_with fail
  refine ret_tc Try.results122 (by rfl) stTape (cs := #[.int .i64 s, .int .i64 ((a : Int) + 1)]) hBS (by rfl) (by rfl) ?_
  refine ⟨?_, gb_chg G3.out hCH (by omega)⟩
  simp only [HB.out, ← HB2.out]
  rfl
set_option maxHeartbeats 400000 in
theorem implTapeFork_yes (s a n : Nat) (w : World) (hs : s < 4294967296) (ha : a ≤ 1000000) (hn : n ≤ 1000000) :
    Calls Try.prog 123 #[.agg #[.int .i64 s, .int .i64 a], .int .i64 n] w fun e w' => e = .returned (.agg #[.int .i64 (keyN s 9 n), .int .i64 0]) ∧ w.grownBy w' none := by
  obtain ⟨kn, hkn⟩ : ∃ x, keyN s 9 n = x := ⟨_, rfl⟩
  rw [hkn]
  have q1 := Lib.hid (inQ_yes (z := (n : Int)) (a := 0) (b := 1000000) (by omega) (by omega))
  have d1 := Lib.hid (tape_yes hs ha)
  go_enter Try.func123, Try.ntmps123
  have B0 := Lib.hid ((Blk.new w 65 #[.int .i64 s, .int .i64 a]).grow (gbA (gbR _ _) (.cells #[.int .i64 0, .int .i64 0] 65)))
  have B1 := Lib.hid (Blk.new' (w.alloc (.cells #[.int .i64 s, .int .i64 a] 65)) 65 #[.int .i64 0, .int .i64 0] (w.heap.size + 1) (by simp))
  have G1 := Lib.hid (gbA (gbA (gbR w none) (.cells #[.int .i64 s, .int .i64 a] 65)) (.cells #[.int .i64 0, .int .i64 0] 65))
  go_wp2_with fail
  refine (implTapeOk_c s a _).mono ?_
  rintro e w1 ⟨rfl, g1⟩
  rw [d1.out]
  have B0 := Lib.hid (B0.out.grow g1)
  have B1 := Lib.hid (B1.out.grow g1)
  have G1 := Lib.hid (gbT G1.out g1)
  clear g1
  have c0 := B0.out.cell 0
  have c1 := B0.out.cell 1
  have b0 := B1.out.cell 0
  have b1 := B1.out.cell 1
  have f0 := B1.out.frozen 0
  have f1 := B1.out.frozen 1
  simp at c0 c1 b0 b1
  go_wp2_with fail
  refine (implInq_c n 0 1000000 _).mono ?_
  rintro e w2 ⟨rfl, rfl⟩
  rw [q1.out]
  go_wp2_with fail
  refine (implKeyed_yes s 9 n _ hs (by omega) (by omega)).mono ?_
  rintro e w2 ⟨rfl, rfl⟩
  rw [hkn]
  have RS := Lib.hid (blk_setCells B1.out [.int .i64 (kn), .int .i64 0] rfl)
  have CH := Lib.hid (chg_setCells (w.heap.size + 1) [.int .i64 (kn), .int .i64 0] 0 w1)
  go_wp2_with fail
  refine ret_c Try.results123 (by rfl) stTape (cs := #[.int .i64 (kn), .int .i64 0]) RS.out (by rfl) (by rfl) ?_
  exact ⟨rfl, gb_chg G1.out CH.out (by omega)⟩
end Go.Proofs.Ythdfkiaoahpjpaa
/-
  TapeList: what it computes.
-/
namespace Go.Proofs.Ythdfkiaoahpjpaa
open Go.RowKit
set_option linter.unusedVariables false
set_option linter.unusedSimpArgs false
end Go.Proofs.Ythdfkiaoahpjpaa
/-
  FieldOk and FieldBits: reference and program.
-/
namespace Go.Proofs.Ythdfkiaoahpjpaa
open Go.RowKit
set_option linter.unusedVariables false
set_option linter.unusedSimpArgs false
end Go.Proofs.Ythdfkiaoahpjpaa
/-
  Elements of a field: IsElement, l03Both, areElements, l03All, FAdd, FSub.
-/
namespace Go.Proofs.Ythdfkiaoahpjpaa
open Go.RowKit
set_option linter.unusedVariables false
set_option linter.unusedSimpArgs false
def elemB (p a : Int) : Bool := fieldB p && decide (0 ≤ a) && decide (a ≤ p - 1)
def elemsB (p : Int) (zs : List Int) : Bool := fieldB p && zs.all fun a => decide (0 ≤ a) && decide (a ≤ p - 1)
end Go.Proofs.Ythdfkiaoahpjpaa
/-
  XorField, XorAll: reference and program, and their exact laws.
-/
namespace Go.Proofs.Ythdfkiaoahpjpaa
open Go.RowKit
set_option linter.unusedVariables false
set_option linter.unusedSimpArgs false
end Go.Proofs.Ythdfkiaoahpjpaa
/-
  XorAll: reference and program, and its exact law.
-/
namespace Go.Proofs.Ythdfkiaoahpjpaa
open Go.RowKit
set_option linter.unusedVariables false
set_option linter.unusedSimpArgs false
end Go.Proofs.Ythdfkiaoahpjpaa
/-
  DotBits and NumberOf: reference and program, and their exact laws.
-/
namespace Go.Proofs.Ythdfkiaoahpjpaa
open Go.RowKit
set_option linter.unusedVariables false
set_option linter.unusedSimpArgs false
end Go.Proofs.Ythdfkiaoahpjpaa
/-
  BitsOf, ChosenBy, FieldOk, FieldBits: reference and program, and the laws that hold them together.
-/
namespace Go.Proofs.Ythdfkiaoahpjpaa
open Go.RowKit
set_option linter.unusedVariables false
set_option linter.unusedSimpArgs false
def bitAt (x : Nat) (i : Nat) : Int := ((x / 2 ^ i % 2 : Nat) : Int)
theorem bit_and (x k : Nat) : bits .and .i64 ((x : Int) / 2 ^ k) 1 = bitAt x k := by
  have e : ((x : Int) / 2 ^ k) = ((x / 2 ^ k : Nat) : Int) := by simp
  rw [e]
  unfold bitAt
  generalize x / 2 ^ k = y
  show IntKind.i64.wrap ((BitVec.ofInt 64 (y : Int) &&& BitVec.ofInt 64 1).toNat : Int) = _
  rw [BitVec.toNat_and, show (BitVec.ofInt 64 1).toNat = 1 from rfl, BitVec.ofInt_natCast, BitVec.toNat_ofNat, Nat.and_one_is_mod, IntKind.wrap_i64]
  omega
end Go.Proofs.Ythdfkiaoahpjpaa
