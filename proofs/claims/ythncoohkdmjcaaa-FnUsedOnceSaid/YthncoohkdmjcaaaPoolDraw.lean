/-
  A drawn pool; what a reservation and a withdrawal hand back, whether they fit or not.
-/
import Derived.Test.YthncoohkdmjcaaaReserved
import Derived.Test.YthncoohkdmjcaaaTicketsS
namespace Go.Proofs.Ythncoohkdmjcaaa
open Go.RowKit
set_option linter.unusedVariables false
set_option maxHeartbeats 800000 in
theorem l26Pool_c (w : World) (g : Nat) (A : Option Addr) (n c : Nat) (bs : List Int) (hc : Cur w g A n c bs) :
    Calls Try.prog 81 #[.pointer (some ⟨g, 0, none⟩)] w fun e w' => ∃ s x b : Int, e = .returned (.agg #[.int .i64 s, .int .i64 x, .int .i64 b]) ∧ poolOk s x b = true ∧ w.grownBy w' (some g) := by
  have HC := Lib.hid hc
  have hlt := hc.lt
  clear hc
  go_enter Try.func81, Try.ntmps81
  go_wp2_with fail
  refine (l01Below_c _ 40 (by omega) g A n c bs (HC.out.grow (gbA (gbR _ _) _))).mono ?_
  rintro e w1 ⟨y0, rfl, hy0, hy1, hc1, hg1⟩
  have hy1' := hy1 (by omega)
  have H1 := Lib.hid (hc1.grow (gbA (gbR w1 none) (.cells #[.int .i64 (1 + y0), .int .i64 0, .int .i64 0] 55)))
  have R1 := Lib.hid (Blk.grown (Blk.new w 55 #[.int .i64 0, .int .i64 0, .int .i64 0]) hg1 (by simp; omega))
  have G1 := Lib.hid (gbT (gbW (r := some g) (gbA (gbR w none) (.cells #[.int .i64 0, .int .i64 0, .int .i64 0] 55))) hg1)
  have L1 := G1.out.size
  have L1' := R1.out.lt
  clear hc1 hg1 hy1
  go_wp2_with fail
  refine (l01Below_c _ (1 + y0 + 1) (by omega) g A n c bs H1.out).mono ?_
  rintro e w2 ⟨y1, rfl, hz0, hz1, hc2, hg2⟩
  have hz1' := hz1 (by omega)
  have B2 := Blk.grown (Blk.new w1 55 #[.int .i64 (1 + y0), .int .i64 0, .int .i64 0]) hg2 (by simp; omega)
  have R2 := Lib.hid (Blk.grown (R1.out.grow (gbA (gbR w1 none) _)) hg2 (by simp; omega))
  have G2 := Lib.hid (gbT (gbA G1.out _) hg2)
  have c0 := B2.cell 0
  have c1 := B2.cell 1
  have c2 := B2.cell 2
  have f2 := B2.frozen 2
  simp at c0 c1 c2
  have HB2 := Lib.hid (B2.set_ 2 (.int .i64 y1))
  have HC2 := Lib.hid hc2
  have hne : g ≠ w1.heap.size := by omega
  clear hc2 hg2 hz1 B2
  go_wp2_with fail
  have hcur : Cur (w2.setCell ⟨w1.heap.size, 2, none⟩ (.int .i64 y1)) g A n c bs := by
    obtain ⟨⟨i, k, hi, hb⟩, h2, h3, h4, h5⟩ := HC2.out
    refine ⟨⟨i, k, hi, hb.far (p := ⟨w1.heap.size, 2, none⟩) hne _⟩, ?_, h3, h4, h5⟩
    have hgs : w2.grownBy (w2.setCell ⟨w1.heap.size, 2, none⟩ (.int .i64 y1)) (some w1.heap.size) := gbO (gbR w2 _) _
    refine h2.grown' hgs fun hn a ha e => ?_
    obtain ⟨b', o', e1, hb', _⟩ := HC.out.bytes.2 hn
    rw [e1] at ha
    injection ha with ha
    subst ha
    injection e with e
    simp at e
    omega
  refine (l01Below_c _ (y1 + 1) (by omega) g A n c bs hcur).mono ?_
  rintro e w3 ⟨y2, rfl, hv0, hv1, hc3, hg3⟩
  have hv1' := hv1 (by omega)
  have B3 := Blk.grown (show Blk _ w1.heap.size 55 #[.int .i64 (1 + y0), .int .i64 0, .int .i64 y1] from HB2.out) hg3 (by simp; omega)
  have R3 := Lib.hid (Blk.grown (R2.out.far (p := ⟨w1.heap.size, 2, none⟩) (by simp; omega) (.int .i64 y1)) hg3 (by simp; omega))
  have G3 := Lib.hid (gbT (gbS (p := ⟨w1.heap.size, 2, none⟩) G2.out (by simp; omega) (.int .i64 y1)) hg3)
  have d0 := B3.cell 0
  have d1 := B3.cell 1
  have d2 := B3.cell 2
  have e1 := B3.frozen 1
  simp at d0 d1 d2
  have s0 := R3.out.cell 0
  have s1 := R3.out.cell 1
  have s2 := R3.out.cell 2
  have t0 := R3.out.frozen 0
  have t1 := R3.out.frozen 1
  have t2 := R3.out.frozen 2
  simp at s0 s1 s2
  have F1 := Lib.hid (R3.out.far (p := ⟨w1.heap.size, 1, none⟩) (by simp; omega) (.int .i64 y2))
  clear hc3 hg3 hv1 B3 hcur
  have hne2 : w1.heap.size ≠ w.heap.size := by omega
  have hne3 : w.heap.size ≠ w1.heap.size := by omega
  go_wp2_with fail
  refine ret_c Try.results81 (by rfl) st_pool (cs := #[.int .i64 (1 + y0), .int .i64 y2, .int .i64 y1]) ?B (by rfl) (by rfl) ⟨_, _, _, rfl, by simp [poolOk]; omega, ?G⟩
  case B => exact ((F1.out.set_ 0 _).set_ 1 _).set_ 2 _
  case G => exact gbS (gbS (gbS (gbS G3.out (p := ⟨w1.heap.size, 1, none⟩) (by simp; omega) _) (p := ⟨w.heap.size, 0, none⟩) (by simp) _) (p := ⟨w.heap.size, 1, none⟩) (by simp) _) (p := ⟨w.heap.size, 2, none⟩) (by simp) _
end Go.Proofs.Ythncoohkdmjcaaa
