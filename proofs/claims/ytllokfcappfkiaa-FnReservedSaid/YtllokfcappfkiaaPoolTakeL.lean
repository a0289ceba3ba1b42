/-
  FnExactPoolTake's walk.
-/
import Derived.Test.YtllokfcappfkiaaPoolTake
namespace Go.Proofs.Ytllokfcappfkiaa
open Go.RowKit
set_option linter.unusedVariables false
theorem eqTicket_c (a b : Int) (w : World) :
    Calls Try.prog 60 #[.agg #[.int .i64 a, .int .i64 b], .agg #[.int .i64 a, .int .i64 b]] w fun e w' => e = .returned (.bool true) ∧ w.grownBy w' none := by
  go_enter Try.func60, Try.ntmps60
  go_wp2_with fail
  all_goals
    go_ret
    exact ⟨rfl, by repeat (first | exact gbR _ _ | refine gbA ?_ _)⟩
set_option maxHeartbeats 400000 in
theorem FnExactPoolTake.core (w : World) (s x b n : Int) (r t u : Int) (ok : Bool)
    (hs : ∀ w, Calls Try.prog 59 #[.agg #[.int .i64 s, .int .i64 x, .int .i64 b], .int .i64 n] w fun e w' => e = .returned (.tuple #[.agg #[.int .i64 s, .int .i64 r, .int .i64 b], .agg #[.int .i64 t, .int .i64 u], .bool ok]) ∧ w.grownBy w' none)
    (hi : ∀ w, Calls Try.prog 51 #[.agg #[.int .i64 s, .int .i64 x, .int .i64 b], .int .i64 n] w fun e w' => e = .returned (.tuple #[.agg #[.int .i64 s, .int .i64 r, .int .i64 b], .agg #[.int .i64 t, .int .i64 u], .bool ok]) ∧ w.grownBy w' none) :
    Calls Try.prog 13 #[.agg #[.int .i64 s, .int .i64 x, .int .i64 b], .int .i64 n] w fun e w' => e = .returned (.bool true) ∧ w.grownBy w' none := by
  have HS := Lib.hid hs
  have HI := Lib.hid hi
  clear hs hi
  go_enter Try.func13, Try.ntmps13
  go_wp2_with fail
  refine (toPool_c s x b _).mono ?_
  rintro e w1 ⟨rfl, h1⟩
  obtain ⟨hcl1, hfz1, hlt1⟩ := gcell h1
  go_wp2_with fail
  refine (HS.out _).mono ?_
  rintro e w2 ⟨rfl, h2⟩
  have E0 : w2.cell? ⟨w.heap.size, 0, none⟩ = some (.int .i64 s) := gbk h2 (gbk h1 (by simp))
  have E1 : w2.cell? ⟨w.heap.size, 1, none⟩ = some (.int .i64 x) := gbk h2 (gbk h1 (by simp))
  have E2 : w2.cell? ⟨w.heap.size, 2, none⟩ = some (.int .i64 b) := gbk h2 (gbk h1 (by simp))
  have G2 := Lib.hid (gbT (gbT (gbA (gbR w none) _) h1) h2)
  have L2 := h2.size
  have L1 := h1.size
  simp at L1
  have LL : w.heap.size ≠ w2.heap.size := by omega
  have LL2 : w.heap.size ≠ w2.heap.size + 1 := by omega
  have F0 := fun o o' => kA (kA E0 o) o'
  have F1 := fun o o' => kA (kA E1 o) o'
  have F2 := fun o o' => kA (kA E2 o) o'
  have F0' := fun o => kA E0 o
  have F1' := fun o => kA E1 o
  have F2' := fun o => kA E2 o
  clear hcl1 hfz1 hlt1 h1 h2
  go_wp2_with fail
  refine (toPool_c s x b _).mono ?_
  rintro e w3 ⟨rfl, h3⟩
  go_wp2_with fail
  refine (HI.out _).mono ?_
  rintro e w4 ⟨rfl, h4⟩
  have R0 : w4.cell? ⟨w2.heap.size, 0, none⟩ = some (.int .i64 s) := gbk h4 (gbk h3 (by simp))
  have R1 : w4.cell? ⟨w2.heap.size, 1, none⟩ = some (.int .i64 r) := gbk h4 (gbk h3 (by simp))
  have R2 : w4.cell? ⟨w2.heap.size, 2, none⟩ = some (.int .i64 b) := gbk h4 (gbk h3 (by simp))
  have R3 : w4.cell? ⟨w2.heap.size + 1, 0, none⟩ = some (.int .i64 t) := gbk h4 (gbk h3 (by simp))
  have R4 : w4.cell? ⟨w2.heap.size + 1, 1, none⟩ = some (.int .i64 u) := gbk h4 (gbk h3 (by simp))
  have S0 := fun o o' => kA (kA R0 o) o'
  have S1 := fun o o' => kA (kA R1 o) o'
  have S2 := fun o o' => kA (kA R2 o) o'
  have S3 := fun o o' => kA (kA R3 o) o'
  have S4 := fun o o' => kA (kA R4 o) o'
  have L3 := h3.size
  have L4 := h4.size
  simp at L3
  have M0 : w2.heap.size ≠ w4.heap.size := by omega
  have M1 : w2.heap.size ≠ w4.heap.size + 1 := by omega
  have M2 : w2.heap.size + 1 ≠ w4.heap.size := by omega
  have M3 : w2.heap.size + 1 ≠ w4.heap.size + 1 := by omega
  have G4 := Lib.hid (gbT (gbT (gbA (gbA G2.out _) _) h3) h4)
  clear h3 h4 F0 F1 F2 E0 E1 E2 F0' F1' F2'
  go_wp2_with fail
  refine (eqPool_c s r b _).mono ?_
  rintro e w5 ⟨rfl, h5⟩
  have T3 : w5.cell? ⟨w2.heap.size + 1, 0, none⟩ = some (.int .i64 t) := gbk h5 (S3 _ _)
  have T4 : w5.cell? ⟨w2.heap.size + 1, 1, none⟩ = some (.int .i64 u) := gbk h5 (S4 _ _)
  have T5 : w5.cell? ⟨w4.heap.size + 1, 0, none⟩ = some (.int .i64 t) := gbk h5 (by simp)
  have T6 : w5.cell? ⟨w4.heap.size + 1, 1, none⟩ = some (.int .i64 u) := gbk h5 (by simp)
  have G5 := Lib.hid (gbT (gbA (gbA G4.out _) _) h5)
  clear h5 S0 S1 S2 S3 S4 R0 R1 R2 R3 R4
  go_wp2_with fail
  refine (eqTicket_c t u _).mono ?_
  rintro e w6 ⟨rfl, h6⟩
  have G6 := Lib.hid (gbT G5.out h6)
  clear h6
  go_wp2_with fail
  go_ret
  exact ⟨by simp, G6.out⟩
theorem FnExactPoolTake.walk (w : World) (s : Int) (ws : (Lit.int .i64 s).wf = true) (x : Int) (wx : (Lit.int .i64 x).wf = true) (b : Int) (wb : (Lit.int .i64 b).wf = true) (n : Int) (wn : (Lit.int .i64 n).wf = true) :
    Calls Try.prog 13 #[.agg #[.int .i64 s, .int .i64 x, .int .i64 b], .int .i64 n] w fun e w' => e = .returned (.bool true) ∧ w.grownBy w' none := by
  cases h : takeOk s x b n with
  | true =>
    simp only [takeOk, Bool.and_eq_true, decide_eq_true_eq] at h
    obtain ⟨⟨⟨h0, h1⟩, h2⟩, h3⟩ := h
    exact FnExactPoolTake.core w s x b n _ _ _ _ (fun w => specPoolTake_yes s x b n w h0 h1 h2 h3) (fun w => implPoolTake_yes s x b n w h0 h1 h2 h3)
  | false => exact FnExactPoolTake.core w s x b n _ _ _ _ (fun w => specPoolTake_no s x b n w h) (fun w => implPoolTake_no s x b n w h)
end Go.Proofs.Ytllokfcappfkiaa
