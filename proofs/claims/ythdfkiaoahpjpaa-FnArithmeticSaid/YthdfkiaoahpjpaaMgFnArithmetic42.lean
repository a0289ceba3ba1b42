/-
  The program's circuits for words: constants, comparison.
-/
import Derived.Test.YthdfkiaoahpjpaaMgFnArithmetic39
namespace Go.Proofs.Ythdfkiaoahpjpaa
open Go.RowKit
set_option linter.unusedVariables false
set_option linter.unusedSimpArgs false
set_option maxHeartbeats 4000000 in
set_option maxRecDepth 100000 in
theorem implWordConst_c (m : CM) (n : Nat) (v : Value) (w0 : World) (h : AggR w0 (ccircuit m) v) (ask : WAsk m) (hn : n ≤ 15) :
    Calls Try.prog 11 #[v, .int .i64 n] w0 fun e w' => ∃ V U, e = .returned (.tuple #[V, U]) ∧ aggF w0.heap.size (ccircuit (constTo m n 4).2) V w' ∧ ownF w0.heap.size (cints (constTo m n 4).1) U w' ∧ w0.grownBy w' none := by
  obtain ⟨u0, u1, rfl, h1, h2⟩ := ccircuit_open h
  obtain ⟨w1, hw1⟩ : ∃ q : World, (w0.alloc (.cells #[u0, u1] 28)).alloc (.cells #[.slice none 0 0, .slice none 0 0] 28) = q := ⟨_, rfl⟩
  have G1 : Hid (w0.grownBy w1 none) := by rw [← hw1]; exact gbA (gbA (gbR _ _) _) _
  have z1 : w0.heap.size + 2 ≤ w1.heap.size := by rw [← hw1]; simp
  have D1 : Hid (Blk w1 w0.heap.size 28 #[u0, u1]) := by rw [← hw1]; exact (Blk.new w0 _ _).grow (gbA (gbR _ _) _)
  have DR : Hid (Blk w1 (w0.heap.size + 1) 28 #[.slice none 0 0, .slice none 0 0]) := by rw [← hw1]; exact Blk.new' _ _ _ _ (by simp)
  have HV := Lib.hid h
  have ASK := Lib.hid ask
  clear h h1 h2 ask
  go_enter Try.func11, Try.ntmps11
  have k0 := D1.out.cell 0
  have k1 := D1.out.cell 1
  simp at k0 k1
  go_wp2_with fail
  clear hw1 k0 k1
  refine (implcopyCircuit_c m _ w1 (HV.out.grow G1.out) (by have := ASK.out.few; omega) (by have := ASK.out.outs; omega)).mono ?_
  rintro e w2 ⟨v2, rfl, o2, g2⟩
  obtain ⟨A2, n2, c2, B2, m2, d2, rfl⟩ := ccircuit_oform o2.choose_spec.1
  have z2 := g2.size
  obtain ⟨w3, hw3⟩ : ∃ q : World, w2.alloc (.cells #[.slice A2 n2 c2, .slice B2 m2 d2] 77) = q := ⟨_, rfl⟩
  have g3 : w2.grownBy w3 none := by rw [← hw3]; exact gbA (gbR _ _) _
  have B3 : Hid (BS 77 w0.heap.size (w2.heap.size + 1) m w2.heap.size w3) := by rw [← hw3]; exact Lib.hid (BS.made (o2.lo (by omega)) (by omega))
  have G3 := Lib.hid (gbT G1.out (gbT g2 g3))
  have D3 := Lib.hid (D1.out.grow (gbT g2 g3))
  have R3 := Lib.hid (DR.out.grow (gbT g2 g3))
  have z3 : w3.heap.size = w2.heap.size + 1 := by rw [← hw3]; simp
  have Z3 := Lib.hid z3
  have k0 := D3.out.cell 0
  have k1 := D3.out.cell 1
  simp at k0 k1
  clear G1 D1 DR o2 g2 g3
  clear z3
  go_wp2_with fail
  refine (implisWordOf_yes m _ [] none 0 0 w3 (HV.out.grow G3.out) ⟨[], rfl, fun i cd v hc hv => by simp at hv, rfl, fun h => absurd h (by omega)⟩ ASK.out.ok ASK.out.few (fun r hr => by cases hr) (by omega)).mono ?_
  rintro e w4 ⟨rfl, g4⟩
  have G4 := Lib.hid (gbT G3.out g4)
  have B4 := Lib.hid (B3.out.grow g4)
  have R4 := Lib.hid (R3.out.grow g4)
  have z4 : w2.heap.size + 1 ≤ w4.heap.size := by have := g4.size; have := Z3.out; omega
  clear g4 B3 G3 R3 D3 hw3 k0 k1 Z3
  obtain ⟨w5, hw5⟩ : ∃ q : World, w4.alloc (.cells #[.int .i64 n] 3) = q := ⟨_, rfl⟩
  have g35 : w4.grownBy w5 none := by rw [← hw5]; exact gbA (gbR _ _) _
  have IN : Hid (Ints w5 (some ⟨w4.heap.size, 0, none⟩) 1 [(n : Int)]) := by rw [← hw5]; exact Lib.hid (ints_new w4 _ [(n : Int)])
  have B5 := Lib.hid (B4.out.grow g35)
  have G5 := Lib.hid (gbT G4.out g35)
  have R5 := Lib.hid (R4.out.grow g35)
  have z5 : w2.heap.size + 1 ≤ w5.heap.size := by have := g35.size; omega
  clear g35 B4 G4 R4 z4
  go_wp2_with fail
  clear hw5
  refine (implareNibbles_yes _ 1 1 _ w5 IN.out (by omega) (fun z hz => by simp at hz; subst hz; unfold inB; simp; omega)).mono ?_
  rintro e w5 ⟨rfl, rfl⟩
  clear IN
  obtain ⟨w6, hw6⟩ : ∃ q : World, w5.alloc (.cells #[] 3) = q := ⟨_, rfl⟩
  have G6 : Hid (w5.grownBy w6 none) := by rw [← hw6]; exact Lib.hid (gbA (gbR _ _) _)
  have R1 : Hid (ownF w5.heap.size (cints (constTo m n 0).1) (.slice (some ⟨w5.heap.size, 0, none⟩) 0 0) w6) := by
    rw [← hw6]
    exact Lib.hid (ownF.ints (World.ownsRow_made w5 #[] 0 (Nat.le_refl _) (by simp) rfl))
  have BL : Hid (Bld 77 w0.heap.size (w2.heap.size + 1) (constTo m n 0).2 w2.heap.size w5 w6) := Lib.hid ⟨B5.out.grow G6.out, GBT.grow G6.out⟩
  clear G6 B5
  go_wp2_with fail
  try rw [hw6]
  clear hw6
  go_loopw [7, 8] (fun t i wr => ∃ k c1 : Nat, ∃ A1 : Option Addr, k ≤ 4 ∧ i = .int .i64 k ∧ t = .slice A1 k c1 ∧ Hid (ownF w5.heap.size (cints (constTo m n k).1) (.slice A1 k c1) wr) ∧ Hid (Bld 77 w0.heap.size (w2.heap.size + 1) (constTo m n k).2 w2.heap.size w5 wr)) (fun _ i _ => 4 - (intOf i).toNat)
  case atStart => exact ⟨0, 0, _, Nat.zero_le _, rfl, rfl, R1, BL⟩
  case round =>
    clear R1 BL
    obtain ⟨k, c1, A1, hk, rfl, rfl, RO, BL⟩ := hrel
    obtain ⟨l1, l2⟩ := constTo_len m n k
    have hst : constTo m n (k + 1) = ((constTo m n k).1 ++ [((constTo m n k).2.gt.length : Int)], (constTo m n k).2.put 2 (bitAt n k) 0) := rfl
    obtain ⟨p, hp⟩ : ∃ p, constTo m n k = p := ⟨_, rfl⟩
    rw [hp] at l1 l2 RO BL hst
    have HST := Lib.hid hst
    have HP := Lib.hid hp
    have L1 := Lib.hid l1
    have L2 := Lib.hid l2
    have hz := BL.out.2.size
    clear hst hp l1 l2
    by_cases hlt : k < 4
    · have i1 : (k : Int) < 4 := by omega
      go_wp2_with fail
      refine (implgate_c p.2 w2.heap.size w0.heap.size (w2.heap.size + 1) 2 _ 0 wr BL.out.1 (by have := L2.out; have := ASK.out.few; omega) (by omega)).mono ?_
      rintro e w7 ⟨rfl, b7⟩
      rw [bit_and] at b7
      have O7 := Lib.hid (GBT.ownF b7.2 hT9 RO.out)
      have B7 := Lib.hid (BL.out.trans b7)
      have hz7 := b7.2.size
      clear b7 RO BL
      go_wp2_with (at_builtin; refine wp_pushI w7 w7.heap.size rfl rfl (.tmp 31) (.tmp 38) rfl p.2.gt.length w5.heap.size A1 k c1 p.1 O7.out L1.out rfl rfl (by omega) (by omega) ?_; intro A8 c8 w8 O8 C8)
      have O9 : Hid (ownF w5.heap.size (cints (constTo m n (k + 1)).1) (.slice A8 (k + 1) c8) w8) := by rw [HST.out]; exact O8
      have B9 : Hid (Bld 77 w0.heap.size (w2.heap.size + 1) (constTo m n (k + 1)).2 w2.heap.size w5 w8) := by rw [HST.out]; exact Lib.hid (B7.out.push C8.out (by omega) (Nat.le_refl _))
      clear O7 B7 O8 C8
      go_roundw
      case rel => exact ⟨k + 1, c8, A8, by omega, by go_num, rfl, O9, B9⟩
      case measure => simp [intOf]; omega
    · have hk4 : k = 4 := by omega
      subst hk4
      have R6 := R5.out.gbt BL.out.2 (by decide) (by decide)
      obtain ⟨A7, n7, c7, B7, m7, d7, hBg, hBr, hV, hG, hO⟩ := BS.fin BL.out.1 (GBT.base G5.out BL.out.2) R6 (by omega)
      have hz9 := BL.out.2.size
      simp only [setCells, Nat.zero_add, Nat.reduceAdd] at hBr hV hG
      have k0 := hBg.cell 0
      have k1 := hBg.cell 1
      have r0 := R6.cell 0
      have r1 := R6.cell 1
      have f0 := R6.frozen 0
      have f1 := R6.frozen 1
      simp at k0 k1 r0 r1
      have HO7 := Lib.hid (by have := hO _ _ _ RO.out; simp only [setCells, Nat.zero_add, Nat.reduceAdd] at this; exact this.lo (show w0.heap.size ≤ w5.heap.size by omega))
      have HBR := Lib.hid hBr
      have HV7 := Lib.hid hV
      have HG7 := Lib.hid hG
      clear hBg hBr hV hG hO R6
      go_wp2_with fail
      refine ret_ct Try.results11 (by rfl) stCircuit HBR.out rfl (by rfl) ?_
      rw [HP.out]
      exact ⟨_, _, rfl, HV7.out, HO7.out, HG7.out⟩
end Go.Proofs.Ythdfkiaoahpjpaa
