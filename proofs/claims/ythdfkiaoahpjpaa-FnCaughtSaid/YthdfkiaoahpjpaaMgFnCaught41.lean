/-
  A drawn gate: it is well-formed.
-/
import Derived.Test.YthdfkiaoahpjpaaMgFnCaught34
namespace Go.Proofs.Ythdfkiaoahpjpaa
open Go.RowKit
set_option linter.unusedVariables false
set_option linter.unusedSimpArgs false
def GateJ (w : World) (i g : Nat) (A : Option Addr) (n c : Nat) (bs : List Int) (e : Ending) (w' : World) : Prop :=
  ∃ k x y : Int, e = .returned (.agg #[.int .i64 k, .int .i64 x, .int .i64 y]) ∧ gateB i (k, x, y) = true ∧ Cur w' g A n c bs ∧ w.grownBy w' (some g)
set_option maxHeartbeats 4000000 in
set_option maxRecDepth 100000 in
theorem l13Gate_c (w : World) (i g : Nat) (hi : i ≤ 1048576) (A : Option Addr) (n c : Nat) (bs : List Int) (hc : Cur w g A n c bs) :
    Calls Try.prog 112 #[.pointer (some ⟨g, 0, none⟩), .int .i64 i] w (GateJ w i g A n c bs) := by
  have HC := Lib.hid (hc.grow (gbA (gbR w none) (.cells #[.int .i64 0, .int .i64 0, .int .i64 0] 41)))
  have hgl := hc.lt
  have HL : Hid (0 < n → ∀ a, A = some a → a.block ≠ w.heap.size) := Lib.hid (hc.old (Nat.le_refl _))
  clear hc
  go_enter Try.func112, Try.ntmps112
  go_wp2_with fail
  refine (l01Below_c _ 7 (by omega) g A n c bs HC.out).mono ?_
  rintro e w1 ⟨x, rfl, hx0, hx1, hc1, g1⟩
  have H1 := Lib.hid hc1
  have B1 := Lib.hid ((Blk.new w 41 #[.int .i64 0, .int .i64 0, .int .i64 0]).grown g1 (by simp; omega))
  have G1 := Lib.hid (gbT (gbW (r := some g) (gbA (gbR w none) _)) g1)
  have hx1 := hx1 (by omega)
  clear hc1 g1 HC
  have hxc : x = 0 ∨ x = 1 ∨ x = 2 ∨ x = 3 ∨ x = 4 ∨ x = 5 ∨ x = 6 := by omega
  rcases Nat.eq_zero_or_pos i with hi0 | hip
  · have d0 : ((i : Int) == 0) = true := by simp; omega
    rcases hxc with rfl | rfl | rfl | rfl | rfl | rfl | rfl
    · skip
      go_wp2_with fail
      refine (l01Below_c _ 20 (by omega) g A n c bs H1.out).mono ?_
      rintro e wz ⟨y, rfl, y0, y1, hc2, g2⟩
      have H2 := Lib.hid hc2
      have B2 := B1.out.grown g2 (by simp; omega)
      have G2 := Lib.hid (gbT G1.out g2)
      have y1 := y1 (by omega)
      clear H1 B1 G1 hc2 g2
      have RS := Lib.hid (blk_setCells B2 [.int .i64 1, .int .i64 y, .int .i64 0] rfl)
      have CH := Lib.hid (chg_setCells w.heap.size [.int .i64 1, .int .i64 y, .int .i64 0] 0 wz)
      have f0 := B2.frozen 0
      have f1 := B2.frozen 1
      have f2 := B2.frozen 2
      have b0 := B2.cell 0
      have b1 := B2.cell 1
      have b2 := B2.cell 2
      simp at b0 b1 b2
      clear B2
      go_wp2_with fail
      refine ret_c Try.results112 (by rfl) stGate (cs := #[.int .i64 1, .int .i64 y, .int .i64 0]) RS.out (by rfl) (by rfl) ?_
      refine ⟨1, y, 0, rfl, ?_, H2.out.kept CH.out (CH.out.block g H2.out.lt (fun e => by have e : g = w.heap.size := e; omega)) (fun hn a ha e => HL.out hn a ha e), ?_⟩
      rotate_left
      · refine ⟨CH.out.os.trans G2.out.os, CH.out.tape.trans G2.out.tape, CH.out.output.trans G2.out.output, Nat.le_trans G2.out.size CH.out.size, fun i hi hr => ?_⟩
        exact (CH.out.block i (Nat.lt_of_lt_of_le hi G2.out.size) (fun e => by have e : i = w.heap.size := e; omega)).trans (G2.out.block i hi hr)
      simp [gateB, inB]; omega
    · skip
      go_wp2_with fail
      refine (l01Below_c _ 2 (by omega) g A n c bs H1.out).mono ?_
      rintro e wz ⟨y, rfl, y0, y1, hc2, g2⟩
      have H2 := Lib.hid hc2
      have B2 := B1.out.grown g2 (by simp; omega)
      have G2 := Lib.hid (gbT G1.out g2)
      have y1 := y1 (by omega)
      clear H1 B1 G1 hc2 g2
      have RS := Lib.hid (blk_setCells B2 [.int .i64 2, .int .i64 y, .int .i64 0] rfl)
      have CH := Lib.hid (chg_setCells w.heap.size [.int .i64 2, .int .i64 y, .int .i64 0] 0 wz)
      have f0 := B2.frozen 0
      have f1 := B2.frozen 1
      have f2 := B2.frozen 2
      have b0 := B2.cell 0
      have b1 := B2.cell 1
      have b2 := B2.cell 2
      simp at b0 b1 b2
      clear B2
      go_wp2_with fail
      refine ret_c Try.results112 (by rfl) stGate (cs := #[.int .i64 2, .int .i64 y, .int .i64 0]) RS.out (by rfl) (by rfl) ?_
      refine ⟨2, y, 0, rfl, ?_, H2.out.kept CH.out (CH.out.block g H2.out.lt (fun e => by have e : g = w.heap.size := e; omega)) (fun hn a ha e => HL.out hn a ha e), ?_⟩
      rotate_left
      · refine ⟨CH.out.os.trans G2.out.os, CH.out.tape.trans G2.out.tape, CH.out.output.trans G2.out.output, Nat.le_trans G2.out.size CH.out.size, fun i hi hr => ?_⟩
        exact (CH.out.block i (Nat.lt_of_lt_of_le hi G2.out.size) (fun e => by have e : i = w.heap.size := e; omega)).trans (G2.out.block i hi hr)
      simp [gateB, inB]; omega
    · skip
      go_wp2_with fail
      refine (l01Below_c _ 20 (by omega) g A n c bs H1.out).mono ?_
      rintro e wz ⟨y, rfl, y0, y1, hc2, g2⟩
      have H2 := Lib.hid hc2
      have B2 := B1.out.grown g2 (by simp; omega)
      have G2 := Lib.hid (gbT G1.out g2)
      have y1 := y1 (by omega)
      clear H1 B1 G1 hc2 g2
      have RS := Lib.hid (blk_setCells B2 [.int .i64 1, .int .i64 y, .int .i64 0] rfl)
      have CH := Lib.hid (chg_setCells w.heap.size [.int .i64 1, .int .i64 y, .int .i64 0] 0 wz)
      have f0 := B2.frozen 0
      have f1 := B2.frozen 1
      have f2 := B2.frozen 2
      have b0 := B2.cell 0
      have b1 := B2.cell 1
      have b2 := B2.cell 2
      simp at b0 b1 b2
      clear B2
      go_wp2_with fail
      refine ret_c Try.results112 (by rfl) stGate (cs := #[.int .i64 1, .int .i64 y, .int .i64 0]) RS.out (by rfl) (by rfl) ?_
      refine ⟨1, y, 0, rfl, ?_, H2.out.kept CH.out (CH.out.block g H2.out.lt (fun e => by have e : g = w.heap.size := e; omega)) (fun hn a ha e => HL.out hn a ha e), ?_⟩
      rotate_left
      · refine ⟨CH.out.os.trans G2.out.os, CH.out.tape.trans G2.out.tape, CH.out.output.trans G2.out.output, Nat.le_trans G2.out.size CH.out.size, fun i hi hr => ?_⟩
        exact (CH.out.block i (Nat.lt_of_lt_of_le hi G2.out.size) (fun e => by have e : i = w.heap.size := e; omega)).trans (G2.out.block i hi hr)
      simp [gateB, inB]; omega
    · skip
      go_wp2_with fail
      refine (l01Below_c _ 20 (by omega) g A n c bs H1.out).mono ?_
      rintro e wz ⟨y, rfl, y0, y1, hc2, g2⟩
      have H2 := Lib.hid hc2
      have B2 := B1.out.grown g2 (by simp; omega)
      have G2 := Lib.hid (gbT G1.out g2)
      have y1 := y1 (by omega)
      clear H1 B1 G1 hc2 g2
      have RS := Lib.hid (blk_setCells B2 [.int .i64 1, .int .i64 y, .int .i64 0] rfl)
      have CH := Lib.hid (chg_setCells w.heap.size [.int .i64 1, .int .i64 y, .int .i64 0] 0 wz)
      have f0 := B2.frozen 0
      have f1 := B2.frozen 1
      have f2 := B2.frozen 2
      have b0 := B2.cell 0
      have b1 := B2.cell 1
      have b2 := B2.cell 2
      simp at b0 b1 b2
      clear B2
      go_wp2_with fail
      refine ret_c Try.results112 (by rfl) stGate (cs := #[.int .i64 1, .int .i64 y, .int .i64 0]) RS.out (by rfl) (by rfl) ?_
      refine ⟨1, y, 0, rfl, ?_, H2.out.kept CH.out (CH.out.block g H2.out.lt (fun e => by have e : g = w.heap.size := e; omega)) (fun hn a ha e => HL.out hn a ha e), ?_⟩
      rotate_left
      · refine ⟨CH.out.os.trans G2.out.os, CH.out.tape.trans G2.out.tape, CH.out.output.trans G2.out.output, Nat.le_trans G2.out.size CH.out.size, fun i hi hr => ?_⟩
        exact (CH.out.block i (Nat.lt_of_lt_of_le hi G2.out.size) (fun e => by have e : i = w.heap.size := e; omega)).trans (G2.out.block i hi hr)
      simp [gateB, inB]; omega
    · skip
      go_wp2_with fail
      refine (l01Below_c _ 20 (by omega) g A n c bs H1.out).mono ?_
      rintro e wz ⟨y, rfl, y0, y1, hc2, g2⟩
      have H2 := Lib.hid hc2
      have B2 := B1.out.grown g2 (by simp; omega)
      have G2 := Lib.hid (gbT G1.out g2)
      have y1 := y1 (by omega)
      clear H1 B1 G1 hc2 g2
      have RS := Lib.hid (blk_setCells B2 [.int .i64 1, .int .i64 y, .int .i64 0] rfl)
      have CH := Lib.hid (chg_setCells w.heap.size [.int .i64 1, .int .i64 y, .int .i64 0] 0 wz)
      have f0 := B2.frozen 0
      have f1 := B2.frozen 1
      have f2 := B2.frozen 2
      have b0 := B2.cell 0
      have b1 := B2.cell 1
      have b2 := B2.cell 2
      simp at b0 b1 b2
      clear B2
      go_wp2_with fail
      refine ret_c Try.results112 (by rfl) stGate (cs := #[.int .i64 1, .int .i64 y, .int .i64 0]) RS.out (by rfl) (by rfl) ?_
      refine ⟨1, y, 0, rfl, ?_, H2.out.kept CH.out (CH.out.block g H2.out.lt (fun e => by have e : g = w.heap.size := e; omega)) (fun hn a ha e => HL.out hn a ha e), ?_⟩
      rotate_left
      · refine ⟨CH.out.os.trans G2.out.os, CH.out.tape.trans G2.out.tape, CH.out.output.trans G2.out.output, Nat.le_trans G2.out.size CH.out.size, fun i hi hr => ?_⟩
        exact (CH.out.block i (Nat.lt_of_lt_of_le hi G2.out.size) (fun e => by have e : i = w.heap.size := e; omega)).trans (G2.out.block i hi hr)
      simp [gateB, inB]; omega
    · skip
      go_wp2_with fail
      refine (l01Below_c _ 20 (by omega) g A n c bs H1.out).mono ?_
      rintro e wz ⟨y, rfl, y0, y1, hc2, g2⟩
      have H2 := Lib.hid hc2
      have B2 := B1.out.grown g2 (by simp; omega)
      have G2 := Lib.hid (gbT G1.out g2)
      have y1 := y1 (by omega)
      clear H1 B1 G1 hc2 g2
      have RS := Lib.hid (blk_setCells B2 [.int .i64 1, .int .i64 y, .int .i64 0] rfl)
      have CH := Lib.hid (chg_setCells w.heap.size [.int .i64 1, .int .i64 y, .int .i64 0] 0 wz)
      have f0 := B2.frozen 0
      have f1 := B2.frozen 1
      have f2 := B2.frozen 2
      have b0 := B2.cell 0
      have b1 := B2.cell 1
      have b2 := B2.cell 2
      simp at b0 b1 b2
      clear B2
      go_wp2_with fail
      refine ret_c Try.results112 (by rfl) stGate (cs := #[.int .i64 1, .int .i64 y, .int .i64 0]) RS.out (by rfl) (by rfl) ?_
      refine ⟨1, y, 0, rfl, ?_, H2.out.kept CH.out (CH.out.block g H2.out.lt (fun e => by have e : g = w.heap.size := e; omega)) (fun hn a ha e => HL.out hn a ha e), ?_⟩
      rotate_left
      · refine ⟨CH.out.os.trans G2.out.os, CH.out.tape.trans G2.out.tape, CH.out.output.trans G2.out.output, Nat.le_trans G2.out.size CH.out.size, fun i hi hr => ?_⟩
        exact (CH.out.block i (Nat.lt_of_lt_of_le hi G2.out.size) (fun e => by have e : i = w.heap.size := e; omega)).trans (G2.out.block i hi hr)
      simp [gateB, inB]; omega
    · skip
      go_wp2_with fail
      refine (l01Below_c _ 20 (by omega) g A n c bs H1.out).mono ?_
      rintro e wz ⟨y, rfl, y0, y1, hc2, g2⟩
      have H2 := Lib.hid hc2
      have B2 := B1.out.grown g2 (by simp; omega)
      have G2 := Lib.hid (gbT G1.out g2)
      have y1 := y1 (by omega)
      clear H1 B1 G1 hc2 g2
      have RS := Lib.hid (blk_setCells B2 [.int .i64 1, .int .i64 y, .int .i64 0] rfl)
      have CH := Lib.hid (chg_setCells w.heap.size [.int .i64 1, .int .i64 y, .int .i64 0] 0 wz)
      have f0 := B2.frozen 0
      have f1 := B2.frozen 1
      have f2 := B2.frozen 2
      have b0 := B2.cell 0
      have b1 := B2.cell 1
      have b2 := B2.cell 2
      simp at b0 b1 b2
      clear B2
      go_wp2_with fail
      refine ret_c Try.results112 (by rfl) stGate (cs := #[.int .i64 1, .int .i64 y, .int .i64 0]) RS.out (by rfl) (by rfl) ?_
      refine ⟨1, y, 0, rfl, ?_, H2.out.kept CH.out (CH.out.block g H2.out.lt (fun e => by have e : g = w.heap.size := e; omega)) (fun hn a ha e => HL.out hn a ha e), ?_⟩
      rotate_left
      · refine ⟨CH.out.os.trans G2.out.os, CH.out.tape.trans G2.out.tape, CH.out.output.trans G2.out.output, Nat.le_trans G2.out.size CH.out.size, fun i hi hr => ?_⟩
        exact (CH.out.block i (Nat.lt_of_lt_of_le hi G2.out.size) (fun e => by have e : i = w.heap.size := e; omega)).trans (G2.out.block i hi hr)
      simp [gateB, inB]; omega
  · have d0 : ((i : Int) == 0) = false := by simp; omega
    rcases hxc with rfl | rfl | rfl | rfl | rfl | rfl | rfl
    · skip
      go_wp2_with fail
      refine (l01Below_c _ 20 (by omega) g A n c bs H1.out).mono ?_
      rintro e wz ⟨y, rfl, y0, y1, hc2, g2⟩
      have H2 := Lib.hid hc2
      have B2 := B1.out.grown g2 (by simp; omega)
      have G2 := Lib.hid (gbT G1.out g2)
      have y1 := y1 (by omega)
      clear H1 B1 G1 hc2 g2
      have RS := Lib.hid (blk_setCells B2 [.int .i64 1, .int .i64 y, .int .i64 0] rfl)
      have CH := Lib.hid (chg_setCells w.heap.size [.int .i64 1, .int .i64 y, .int .i64 0] 0 wz)
      have f0 := B2.frozen 0
      have f1 := B2.frozen 1
      have f2 := B2.frozen 2
      have b0 := B2.cell 0
      have b1 := B2.cell 1
      have b2 := B2.cell 2
      simp at b0 b1 b2
      clear B2
      go_wp2_with fail
      refine ret_c Try.results112 (by rfl) stGate (cs := #[.int .i64 1, .int .i64 y, .int .i64 0]) RS.out (by rfl) (by rfl) ?_
      refine ⟨1, y, 0, rfl, ?_, H2.out.kept CH.out (CH.out.block g H2.out.lt (fun e => by have e : g = w.heap.size := e; omega)) (fun hn a ha e => HL.out hn a ha e), ?_⟩
      rotate_left
      · refine ⟨CH.out.os.trans G2.out.os, CH.out.tape.trans G2.out.tape, CH.out.output.trans G2.out.output, Nat.le_trans G2.out.size CH.out.size, fun i hi hr => ?_⟩
        exact (CH.out.block i (Nat.lt_of_lt_of_le hi G2.out.size) (fun e => by have e : i = w.heap.size := e; omega)).trans (G2.out.block i hi hr)
      simp [gateB, inB]; omega
    · skip
      go_wp2_with fail
      refine (l01Below_c _ 2 (by omega) g A n c bs H1.out).mono ?_
      rintro e wz ⟨y, rfl, y0, y1, hc2, g2⟩
      have H2 := Lib.hid hc2
      have B2 := B1.out.grown g2 (by simp; omega)
      have G2 := Lib.hid (gbT G1.out g2)
      have y1 := y1 (by omega)
      clear H1 B1 G1 hc2 g2
      have RS := Lib.hid (blk_setCells B2 [.int .i64 2, .int .i64 y, .int .i64 0] rfl)
      have CH := Lib.hid (chg_setCells w.heap.size [.int .i64 2, .int .i64 y, .int .i64 0] 0 wz)
      have f0 := B2.frozen 0
      have f1 := B2.frozen 1
      have f2 := B2.frozen 2
      have b0 := B2.cell 0
      have b1 := B2.cell 1
      have b2 := B2.cell 2
      simp at b0 b1 b2
      clear B2
      go_wp2_with fail
      refine ret_c Try.results112 (by rfl) stGate (cs := #[.int .i64 2, .int .i64 y, .int .i64 0]) RS.out (by rfl) (by rfl) ?_
      refine ⟨2, y, 0, rfl, ?_, H2.out.kept CH.out (CH.out.block g H2.out.lt (fun e => by have e : g = w.heap.size := e; omega)) (fun hn a ha e => HL.out hn a ha e), ?_⟩
      rotate_left
      · refine ⟨CH.out.os.trans G2.out.os, CH.out.tape.trans G2.out.tape, CH.out.output.trans G2.out.output, Nat.le_trans G2.out.size CH.out.size, fun i hi hr => ?_⟩
        exact (CH.out.block i (Nat.lt_of_lt_of_le hi G2.out.size) (fun e => by have e : i = w.heap.size := e; omega)).trans (G2.out.block i hi hr)
      simp [gateB, inB]; omega
    · skip
      go_wp2_with fail
      refine (l01Below_c _ (i : Int) (by omega) g A n c bs H1.out).mono ?_
      rintro e wy ⟨y, rfl, y0, y1, hc2, g2⟩
      have H2 := Lib.hid hc2
      have B2 := B1.out.grown g2 (by simp; omega)
      have G2 := Lib.hid (gbT G1.out g2)
      have y1 := y1 (by omega)
      clear H1 B1 G1 hc2 g2
      have H1 := H2
      have B1 := Lib.hid B2
      have G1 := G2
      clear H2 B2 G2
      go_wp2_with fail
      refine (l01Below_c _ (i : Int) (by omega) g A n c bs H1.out).mono ?_
      rintro e wz ⟨z, rfl, z0, z1, hc2, g2⟩
      have H2 := Lib.hid hc2
      have B2 := B1.out.grown g2 (by simp; omega)
      have G2 := Lib.hid (gbT G1.out g2)
      have z1 := z1 (by omega)
      clear H1 B1 G1 hc2 g2
      have RS := Lib.hid (blk_setCells B2 [.int .i64 3, .int .i64 y, .int .i64 z] rfl)
      have CH := Lib.hid (chg_setCells w.heap.size [.int .i64 3, .int .i64 y, .int .i64 z] 0 wz)
      have f0 := B2.frozen 0
      have f1 := B2.frozen 1
      have f2 := B2.frozen 2
      have b0 := B2.cell 0
      have b1 := B2.cell 1
      have b2 := B2.cell 2
      simp at b0 b1 b2
      clear B2
      go_wp2_with fail
      refine ret_c Try.results112 (by rfl) stGate (cs := #[.int .i64 3, .int .i64 y, .int .i64 z]) RS.out (by rfl) (by rfl) ?_
      refine ⟨3, y, z, rfl, ?_, H2.out.kept CH.out (CH.out.block g H2.out.lt (fun e => by have e : g = w.heap.size := e; omega)) (fun hn a ha e => HL.out hn a ha e), ?_⟩
      rotate_left
      · refine ⟨CH.out.os.trans G2.out.os, CH.out.tape.trans G2.out.tape, CH.out.output.trans G2.out.output, Nat.le_trans G2.out.size CH.out.size, fun i hi hr => ?_⟩
        exact (CH.out.block i (Nat.lt_of_lt_of_le hi G2.out.size) (fun e => by have e : i = w.heap.size := e; omega)).trans (G2.out.block i hi hr)
      simp [gateB, inB]; omega
    · skip
      go_wp2_with fail
      refine (l01Below_c _ (i : Int) (by omega) g A n c bs H1.out).mono ?_
      rintro e wy ⟨y, rfl, y0, y1, hc2, g2⟩
      have H2 := Lib.hid hc2
      have B2 := B1.out.grown g2 (by simp; omega)
      have G2 := Lib.hid (gbT G1.out g2)
      have y1 := y1 (by omega)
      clear H1 B1 G1 hc2 g2
      have H1 := H2
      have B1 := Lib.hid B2
      have G1 := G2
      clear H2 B2 G2
      go_wp2_with fail
      refine (l01Below_c _ (i : Int) (by omega) g A n c bs H1.out).mono ?_
      rintro e wz ⟨z, rfl, z0, z1, hc2, g2⟩
      have H2 := Lib.hid hc2
      have B2 := B1.out.grown g2 (by simp; omega)
      have G2 := Lib.hid (gbT G1.out g2)
      have z1 := z1 (by omega)
      clear H1 B1 G1 hc2 g2
      have RS := Lib.hid (blk_setCells B2 [.int .i64 4, .int .i64 y, .int .i64 z] rfl)
      have CH := Lib.hid (chg_setCells w.heap.size [.int .i64 4, .int .i64 y, .int .i64 z] 0 wz)
      have f0 := B2.frozen 0
      have f1 := B2.frozen 1
      have f2 := B2.frozen 2
      have b0 := B2.cell 0
      have b1 := B2.cell 1
      have b2 := B2.cell 2
      simp at b0 b1 b2
      clear B2
      go_wp2_with fail
      refine ret_c Try.results112 (by rfl) stGate (cs := #[.int .i64 4, .int .i64 y, .int .i64 z]) RS.out (by rfl) (by rfl) ?_
      refine ⟨4, y, z, rfl, ?_, H2.out.kept CH.out (CH.out.block g H2.out.lt (fun e => by have e : g = w.heap.size := e; omega)) (fun hn a ha e => HL.out hn a ha e), ?_⟩
      rotate_left
      · refine ⟨CH.out.os.trans G2.out.os, CH.out.tape.trans G2.out.tape, CH.out.output.trans G2.out.output, Nat.le_trans G2.out.size CH.out.size, fun i hi hr => ?_⟩
        exact (CH.out.block i (Nat.lt_of_lt_of_le hi G2.out.size) (fun e => by have e : i = w.heap.size := e; omega)).trans (G2.out.block i hi hr)
      simp [gateB, inB]; omega
    · skip
      go_wp2_with fail
      refine (l01Below_c _ (i : Int) (by omega) g A n c bs H1.out).mono ?_
      rintro e wz ⟨y, rfl, y0, y1, hc2, g2⟩
      have H2 := Lib.hid hc2
      have B2 := B1.out.grown g2 (by simp; omega)
      have G2 := Lib.hid (gbT G1.out g2)
      have y1 := y1 (by omega)
      clear H1 B1 G1 hc2 g2
      have RS := Lib.hid (blk_setCells B2 [.int .i64 5, .int .i64 y, .int .i64 0] rfl)
      have CH := Lib.hid (chg_setCells w.heap.size [.int .i64 5, .int .i64 y, .int .i64 0] 0 wz)
      have f0 := B2.frozen 0
      have f1 := B2.frozen 1
      have f2 := B2.frozen 2
      have b0 := B2.cell 0
      have b1 := B2.cell 1
      have b2 := B2.cell 2
      simp at b0 b1 b2
      clear B2
      go_wp2_with fail
      refine ret_c Try.results112 (by rfl) stGate (cs := #[.int .i64 5, .int .i64 y, .int .i64 0]) RS.out (by rfl) (by rfl) ?_
      refine ⟨5, y, 0, rfl, ?_, H2.out.kept CH.out (CH.out.block g H2.out.lt (fun e => by have e : g = w.heap.size := e; omega)) (fun hn a ha e => HL.out hn a ha e), ?_⟩
      rotate_left
      · refine ⟨CH.out.os.trans G2.out.os, CH.out.tape.trans G2.out.tape, CH.out.output.trans G2.out.output, Nat.le_trans G2.out.size CH.out.size, fun i hi hr => ?_⟩
        exact (CH.out.block i (Nat.lt_of_lt_of_le hi G2.out.size) (fun e => by have e : i = w.heap.size := e; omega)).trans (G2.out.block i hi hr)
      simp [gateB, inB]; omega
    · skip
      go_wp2_with fail
      refine (l01Below_c _ 20 (by omega) g A n c bs H1.out).mono ?_
      rintro e wz ⟨y, rfl, y0, y1, hc2, g2⟩
      have H2 := Lib.hid hc2
      have B2 := B1.out.grown g2 (by simp; omega)
      have G2 := Lib.hid (gbT G1.out g2)
      have y1 := y1 (by omega)
      clear H1 B1 G1 hc2 g2
      have RS := Lib.hid (blk_setCells B2 [.int .i64 1, .int .i64 y, .int .i64 0] rfl)
      have CH := Lib.hid (chg_setCells w.heap.size [.int .i64 1, .int .i64 y, .int .i64 0] 0 wz)
      have f0 := B2.frozen 0
      have f1 := B2.frozen 1
      have f2 := B2.frozen 2
      have b0 := B2.cell 0
      have b1 := B2.cell 1
      have b2 := B2.cell 2
      simp at b0 b1 b2
      clear B2
      go_wp2_with fail
      refine ret_c Try.results112 (by rfl) stGate (cs := #[.int .i64 1, .int .i64 y, .int .i64 0]) RS.out (by rfl) (by rfl) ?_
      refine ⟨1, y, 0, rfl, ?_, H2.out.kept CH.out (CH.out.block g H2.out.lt (fun e => by have e : g = w.heap.size := e; omega)) (fun hn a ha e => HL.out hn a ha e), ?_⟩
      rotate_left
      · refine ⟨CH.out.os.trans G2.out.os, CH.out.tape.trans G2.out.tape, CH.out.output.trans G2.out.output, Nat.le_trans G2.out.size CH.out.size, fun i hi hr => ?_⟩
        exact (CH.out.block i (Nat.lt_of_lt_of_le hi G2.out.size) (fun e => by have e : i = w.heap.size := e; omega)).trans (G2.out.block i hi hr)
      simp [gateB, inB]; omega
    · skip
      go_wp2_with fail
      refine (l01Below_c _ (i : Int) (by omega) g A n c bs H1.out).mono ?_
      rintro e wy ⟨y, rfl, y0, y1, hc2, g2⟩
      have H2 := Lib.hid hc2
      have B2 := B1.out.grown g2 (by simp; omega)
      have G2 := Lib.hid (gbT G1.out g2)
      have y1 := y1 (by omega)
      clear H1 B1 G1 hc2 g2
      have H1 := H2
      have B1 := Lib.hid B2
      have G1 := G2
      clear H2 B2 G2
      go_wp2_with fail
      refine (l01Below_c _ (i : Int) (by omega) g A n c bs H1.out).mono ?_
      rintro e wz ⟨z, rfl, z0, z1, hc2, g2⟩
      have H2 := Lib.hid hc2
      have B2 := B1.out.grown g2 (by simp; omega)
      have G2 := Lib.hid (gbT G1.out g2)
      have z1 := z1 (by omega)
      clear H1 B1 G1 hc2 g2
      have RS := Lib.hid (blk_setCells B2 [.int .i64 4, .int .i64 y, .int .i64 z] rfl)
      have CH := Lib.hid (chg_setCells w.heap.size [.int .i64 4, .int .i64 y, .int .i64 z] 0 wz)
      have f0 := B2.frozen 0
      have f1 := B2.frozen 1
      have f2 := B2.frozen 2
      have b0 := B2.cell 0
      have b1 := B2.cell 1
      have b2 := B2.cell 2
      simp at b0 b1 b2
      clear B2
      go_wp2_with fail
      refine ret_c Try.results112 (by rfl) stGate (cs := #[.int .i64 4, .int .i64 y, .int .i64 z]) RS.out (by rfl) (by rfl) ?_
      refine ⟨4, y, z, rfl, ?_, H2.out.kept CH.out (CH.out.block g H2.out.lt (fun e => by have e : g = w.heap.size := e; omega)) (fun hn a ha e => HL.out hn a ha e), ?_⟩
      rotate_left
      · refine ⟨CH.out.os.trans G2.out.os, CH.out.tape.trans G2.out.tape, CH.out.output.trans G2.out.output, Nat.le_trans G2.out.size CH.out.size, fun i hi hr => ?_⟩
        exact (CH.out.block i (Nat.lt_of_lt_of_le hi G2.out.size) (fun e => by have e : i = w.heap.size := e; omega)).trans (G2.out.block i hi hr)
      simp [gateB, inB]; omega
end Go.Proofs.Ythdfkiaoahpjpaa
