/-
  Drawn tapes.
-/
import Derived.Test.YthncoohkdmjcaaaMgFnSharedBits34
import Derived.Test.YthncoohkdmjcaaaMgFnSharedBits19
namespace Go.Proofs.Ythncoohkdmjcaaa
open Go.RowKit
set_option linter.unusedVariables false
set_option linter.unusedSimpArgs false
set_option maxHeartbeats 400000 in
theorem l04Tape_c (w : World) (g : Nat) (A : Option Addr) (n c : Nat) (bs : List Int) (hc : Cur w g A n c bs) :
    Calls Try.prog 84 #[.pointer (some ⟨g, 0, none⟩)] w fun e w' => ∃ s a : Nat, e = .returned (.agg #[.int .i64 s, .int .i64 a]) ∧ s < 4294967296 ∧ a < 50 ∧ Cur w' g A n c bs ∧ w.grownBy w' (some g) := by
  have HC := Lib.hid (hc.grow (gbA (gbR w none) (.cells #[.int .i64 0, .int .i64 0] 72)))
  have hgl := hc.lt
  have HL : Hid (0 < n → ∀ a, A = some a → a.block ≠ w.heap.size) := Lib.hid (hc.old (Nat.le_refl _))
  clear hc
  go_enter Try.func84, Try.ntmps84
  go_wp2_with fail
  refine (l02Word_c _ g A n c bs HC.out).mono ?_
  rintro e w1 ⟨x, rfl, hx, hc1, g1⟩
  have H1 := Lib.hid hc1
  have B1 := Lib.hid ((Blk.new w 72 #[.int .i64 0, .int .i64 0]).grown g1 (by simp; omega))
  have G1 := Lib.hid (gbT (gbW (r := some g) (gbA (gbR w none) _)) g1)
  obtain ⟨S, hS⟩ : ∃ S : Nat, x = S := ⟨x.toNat, by omega⟩
  subst hS
  clear hc1 g1
  go_wp2_with fail
  refine (l01Below_c _ 50 (by omega) g A n c bs H1.out).mono ?_
  rintro e w2 ⟨y, rfl, hy0, hy1, hc2, g2⟩
  have H2 := Lib.hid hc2
  have B2 := B1.out.grown g2 (by simp; omega)
  have G2 := Lib.hid (gbT G1.out g2)
  have hy1 := hy1 (by omega)
  obtain ⟨T, hT⟩ : ∃ T : Nat, y = T := ⟨y.toNat, by omega⟩
  subst hT
  have f0 := B2.frozen 0
  have f1 := B2.frozen 1
  have b0 := B2.cell 0
  have b1 := B2.cell 1
  simp at b0 b1
  have RS := Lib.hid (blk_setCells B2 [.int .i64 S, .int .i64 T] rfl)
  have CH := Lib.hid (chg_setCells w.heap.size [.int .i64 S, .int .i64 T] 0 w2)
  have lB := B2.lt
  clear B2 hc2 g2
  go_wp2_with fail
  refine ret_c Try.results84 (by rfl) stTape (cs := #[.int .i64 S, .int .i64 T]) RS.out (by rfl) (by rfl) ?_
  refine ⟨S, T, rfl, by omega, by omega, H2.out.kept CH.out (CH.out.block g H2.out.lt (fun e => by have e : g = w.heap.size := e; omega)) (fun hn a ha e => HL.out hn a ha e), ?_⟩
  refine ⟨CH.out.os.trans G2.out.os, CH.out.tape.trans G2.out.tape, CH.out.output.trans G2.out.output, Nat.le_trans G2.out.size CH.out.size, fun i hi hr => ?_⟩
  exact (CH.out.block i (Nat.lt_of_lt_of_le hi G2.out.size) (fun e => by have e : i = w.heap.size := e; omega)).trans (G2.out.block i hi hr)
theorem DrawTape_c (w : World) (A : Option Addr) (n c : Nat) (bs : List Int) (h : BytesIn w A n bs) :
    Calls Try.prog 48 #[.slice A n c] w fun e w' => ∃ s a : Nat, e = .returned (.agg #[.int .i64 s, .int .i64 a]) ∧ s < 4294967296 ∧ a < 50 ∧ w.grownBy w' none := by
  have H := Lib.hid h
  clear h
  go_enter Try.func48, Try.ntmps48
  go_wp2_with fail
  refine (l01New_c _ A n c bs (H.out.grow (gbA (gbR _ _) _))).mono ?_
  rintro e w1 ⟨rfl, hc1, hg1, hz1⟩
  simp at hc1 hz1
  have HC := Lib.hid hc1
  have B1 := Lib.hid ((Blk.new w 72 #[.int .i64 0, .int .i64 0]).grow hg1)
  have G1 := Lib.hid (gbT (gbA (gbR w none) (.cells #[.int .i64 0, .int .i64 0] 72)) hg1)
  clear hc1 hg1 hz1
  go_wp2_with fail
  refine (l04Tape_c _ _ A n c bs HC.out).mono ?_
  rintro e w2 ⟨s, a, rfl, hs, ha, hc2, hg2⟩
  have B2 := B1.out.grown hg2 (by simp)
  have G2 := Lib.hid (gbN G1.out hg2 (fun b e => by injection e with e; omega))
  have f0 := B2.frozen 0
  have f1 := B2.frozen 1
  have b0 := B2.cell 0
  have b1 := B2.cell 1
  simp at b0 b1
  have RS := Lib.hid (blk_setCells B2 [.int .i64 s, .int .i64 a] rfl)
  have CH := Lib.hid (chg_setCells w.heap.size [.int .i64 s, .int .i64 a] 0 w2)
  clear B2 hc2 hg2
  go_wp2_with fail
  refine ret_c Try.results48 (by rfl) stTape (cs := #[.int .i64 s, .int .i64 a]) RS.out (by rfl) (by rfl) ?_
  exact ⟨s, a, rfl, hs, ha, gb_chg G2.out CH.out (Nat.le_refl _)⟩
end Go.Proofs.Ythncoohkdmjcaaa
