/-
  PoolReserve: the walks and the law's.
-/
import Derived.Test.YtllokfcappfkiaaPool
namespace Go.Proofs.Ytllokfcappfkiaa
open Go.RowKit
set_option linter.unusedVariables false
abbrev pool (s x b : Int) : Value := .agg #[.int .i64 s, .int .i64 x, .int .i64 b]
theorem eqPool_c (s x b : Int) (w : World) :
    Calls Try.prog 42 #[.agg #[.int .i64 s, .int .i64 x, .int .i64 b], .agg #[.int .i64 s, .int .i64 x, .int .i64 b]] w fun e w' => e = .returned (.bool true) ∧ w.grownBy w' none := by
  go_enter Try.func42, Try.ntmps42
  go_wp2_with fail
  all_goals
    go_ret
    exact ⟨rfl, by repeat (first | exact gbR _ _ | refine gbA ?_ _)⟩
/-- What PoolReserve hands back. -/
def reserveOk (s x b n : Int) : Bool := poolOk s x b && decide (1 ≤ n) && decide (n ≤ 1000) && decide (b + n ≤ s)
theorem specPoolReserve_yes (s x b n : Int) (w : World) (h : poolOk s x b = true) (h1 : 1 ≤ n) (h2 : n ≤ 1000) (h3 : b + n ≤ s) :
    Calls Try.prog 39 #[.agg #[.int .i64 s, .int .i64 x, .int .i64 b], .int .i64 n] w fun e w' => e = .returned (.tuple #[.agg #[.int .i64 s, .int .i64 x, .int .i64 (b + n)], .bool true]) ∧ w.grownBy w' none := by
  obtain ⟨k1, k2, k3, k4, k5⟩ := poolOk_is h
  have d1 : decide (1 ≤ n) = true := by simp; omega
  have d2 : decide (n ≤ 1000) = true := by simp; omega
  have hb0 : 0 ≤ b := by omega
  clear h
  go_enter Try.func39, Try.ntmps39
  go_wp2
  exact bodyPost_ret (v := .tuple #[.agg #[.int .i64 s, .int .i64 x, .int .i64 (b + n)], .bool true]) (by simp [results, Try.results39, go_sem]) rfl ⟨rfl, by repeat (first | exact gbR _ _ | refine gbA ?_ _)⟩
theorem specPoolReserve_no (s x b n : Int) (w : World) (h : reserveOk s x b n = false) :
    Calls Try.prog 39 #[.agg #[.int .i64 s, .int .i64 x, .int .i64 b], .int .i64 n] w fun e w' => e = .returned (.tuple #[.agg #[.int .i64 s, .int .i64 x, .int .i64 b], .bool false]) ∧ w.grownBy w' none := by
  cases hp : poolOk s x b with
  | false =>
    have HP := Lib.hid hp
    clear h hp
    go_enter Try.func39, Try.ntmps39
    go_wp2_with fail
    refine (specPoolOk_c s x b _).mono ?_
    rintro e w1 ⟨rfl, hw⟩
    rw [HP.out]
    obtain ⟨hcl, hfz, hlt⟩ := gcell hw
    have hz := hw.size
    simp at hz
    have hl0 : w.heap.size < w1.heap.size := by omega
    have hl1 : w.heap.size + 1 < w1.heap.size := by omega
    go_wp2
    exact bodyPost_ret (v := .tuple #[.agg #[.int .i64 s, .int .i64 x, .int .i64 b], .bool false]) (by simp [results, Try.results39, go_sem, hcl]) rfl
      ⟨rfl, by repeat (first | exact gbR _ _ | refine gbA ?_ _ | refine gbS ?_ (by show _ ≤ w.heap.size + 1; omega) _ | refine gbT ?_ hw)⟩
  | true =>
    obtain ⟨k1, k2, k3, k4, k5⟩ := poolOk_is hp
    have hb0 : 0 ≤ b := by omega
    have hr : reserveOk s x b n = (decide (1 ≤ n) && decide (n ≤ 1000) && decide (b + n ≤ s)) := by simp [reserveOk, hp]
    rw [hr] at h
    clear hr hp
    by_cases h1 : 1 ≤ n
    · by_cases h2 : n ≤ 1000
      · have h3 : s < b + n := by simp [h1, h2] at h; omega
        have d1 : decide (1 ≤ n) = true := by simp; omega
        have d2 : decide (n ≤ 1000) = true := by simp; omega
        clear h
        go_enter Try.func39, Try.ntmps39
        go_wp2
        exact bodyPost_ret (v := .tuple #[.agg #[.int .i64 s, .int .i64 x, .int .i64 b], .bool false]) (by simp [results, Try.results39, go_sem]) rfl ⟨rfl, by repeat (first | exact gbR _ _ | refine gbA ?_ _)⟩
      · have d1 : decide (1 ≤ n) = true := by simp; omega
        have d2 : decide (n ≤ 1000) = false := by simp; omega
        clear h
        go_enter Try.func39, Try.ntmps39
        go_wp2
        exact bodyPost_ret (v := .tuple #[.agg #[.int .i64 s, .int .i64 x, .int .i64 b], .bool false]) (by simp [results, Try.results39, go_sem]) rfl ⟨rfl, by repeat (first | exact gbR _ _ | refine gbA ?_ _)⟩
    · have d1 : decide (1 ≤ n) = false := by simp; omega
      clear h
      go_enter Try.func39, Try.ntmps39
      go_wp2
      exact bodyPost_ret (v := .tuple #[.agg #[.int .i64 s, .int .i64 x, .int .i64 b], .bool false]) (by simp [results, Try.results39, go_sem]) rfl ⟨rfl, by repeat (first | exact gbR _ _ | refine gbA ?_ _)⟩
theorem implPoolReserve_yes (s x b n : Int) (w : World) (h : poolOk s x b = true) (h1 : 1 ≤ n) (h2 : n ≤ 1000) (h3 : b + n ≤ s) :
    Calls Try.prog 41 #[.agg #[.int .i64 s, .int .i64 x, .int .i64 b], .int .i64 n] w fun e w' => e = .returned (.tuple #[.agg #[.int .i64 s, .int .i64 x, .int .i64 (b + n)], .bool true]) ∧ w.grownBy w' none := by
  obtain ⟨k1, k2, k3, k4, k5⟩ := poolOk_is h
  have d1 : decide (1 ≤ n) = true := by simp; omega
  have d2 : decide (n ≤ 1000) = true := by simp; omega
  have hb0 : 0 ≤ b := by omega
  clear h
  go_enter Try.func41, Try.ntmps41
  go_wp2
  exact bodyPost_ret (v := .tuple #[.agg #[.int .i64 s, .int .i64 x, .int .i64 (b + n)], .bool true]) (by simp [results, Try.results41, go_sem]) rfl ⟨rfl, by repeat (first | exact gbR _ _ | refine gbA ?_ _)⟩
theorem implPoolReserve_no (s x b n : Int) (w : World) (h : reserveOk s x b n = false) :
    Calls Try.prog 41 #[.agg #[.int .i64 s, .int .i64 x, .int .i64 b], .int .i64 n] w fun e w' => e = .returned (.tuple #[.agg #[.int .i64 s, .int .i64 x, .int .i64 b], .bool false]) ∧ w.grownBy w' none := by
  cases hp : poolOk s x b with
  | false =>
    have HP := Lib.hid hp
    clear h hp
    go_enter Try.func41, Try.ntmps41
    go_wp2_with fail
    refine (implPoolOk_c s x b _).mono ?_
    rintro e w1 ⟨rfl, hw⟩
    rw [HP.out]
    obtain ⟨hcl, hfz, hlt⟩ := gcell hw
    have hz := hw.size
    simp at hz
    have hl0 : w.heap.size < w1.heap.size := by omega
    have hl1 : w.heap.size + 1 < w1.heap.size := by omega
    go_wp2
    exact bodyPost_ret (v := .tuple #[.agg #[.int .i64 s, .int .i64 x, .int .i64 b], .bool false]) (by simp [results, Try.results41, go_sem, hcl]) rfl
      ⟨rfl, by repeat (first | exact gbR _ _ | refine gbA ?_ _ | refine gbS ?_ (by show _ ≤ w.heap.size + 1; omega) _ | refine gbT ?_ hw)⟩
  | true =>
    obtain ⟨k1, k2, k3, k4, k5⟩ := poolOk_is hp
    have hb0 : 0 ≤ b := by omega
    have hr : reserveOk s x b n = (decide (1 ≤ n) && decide (n ≤ 1000) && decide (b + n ≤ s)) := by simp [reserveOk, hp]
    rw [hr] at h
    clear hr hp
    by_cases h1 : 1 ≤ n
    · by_cases h2 : n ≤ 1000
      · have h3 : s < b + n := by simp [h1, h2] at h; omega
        have d1 : decide (1 ≤ n) = true := by simp; omega
        have d2 : decide (n ≤ 1000) = true := by simp; omega
        clear h
        go_enter Try.func41, Try.ntmps41
        go_wp2
        exact bodyPost_ret (v := .tuple #[.agg #[.int .i64 s, .int .i64 x, .int .i64 b], .bool false]) (by simp [results, Try.results41, go_sem]) rfl ⟨rfl, by repeat (first | exact gbR _ _ | refine gbA ?_ _)⟩
      · have d1 : decide (1 ≤ n) = true := by simp; omega
        have d2 : decide (n ≤ 1000) = false := by simp; omega
        clear h
        go_enter Try.func41, Try.ntmps41
        go_wp2
        exact bodyPost_ret (v := .tuple #[.agg #[.int .i64 s, .int .i64 x, .int .i64 b], .bool false]) (by simp [results, Try.results41, go_sem]) rfl ⟨rfl, by repeat (first | exact gbR _ _ | refine gbA ?_ _)⟩
    · have d1 : decide (1 ≤ n) = false := by simp; omega
      clear h
      go_enter Try.func41, Try.ntmps41
      go_wp2
      exact bodyPost_ret (v := .tuple #[.agg #[.int .i64 s, .int .i64 x, .int .i64 b], .bool false]) (by simp [results, Try.results41, go_sem]) rfl ⟨rfl, by repeat (first | exact gbR _ _ | refine gbA ?_ _)⟩
theorem FnExactPoolReserve.core (w : World) (s x b n : Int) (r : Int) (ok : Bool)
    (hs : ∀ w, Calls Try.prog 39 #[.agg #[.int .i64 s, .int .i64 x, .int .i64 b], .int .i64 n] w fun e w' => e = .returned (.tuple #[.agg #[.int .i64 s, .int .i64 x, .int .i64 r], .bool ok]) ∧ w.grownBy w' none)
    (hi : ∀ w, Calls Try.prog 41 #[.agg #[.int .i64 s, .int .i64 x, .int .i64 b], .int .i64 n] w fun e w' => e = .returned (.tuple #[.agg #[.int .i64 s, .int .i64 x, .int .i64 r], .bool ok]) ∧ w.grownBy w' none) :
    Calls Try.prog 8 #[.agg #[.int .i64 s, .int .i64 x, .int .i64 b], .int .i64 n] w fun e w' => e = .returned (.bool true) ∧ w.grownBy w' none := by
  have HS := Lib.hid hs
  have HI := Lib.hid hi
  clear hs hi
  go_enter Try.func8, Try.ntmps8
  go_wp2_with fail
  refine (toPool_c s x b _).mono ?_
  rintro e w1 ⟨rfl, h1⟩
  obtain ⟨hcl1, hfz1, hlt1⟩ := gcell h1
  go_wp2_with fail
  refine (HS.out _).mono ?_
  rintro e w2 ⟨rfl, h2⟩
  have E0 : w2.cell? ⟨w.heap.size, 0, none⟩ = some (.int .i64 s) := gbk h2 (gbk h1 (by simp))
  have E1 : w2.cell? ⟨w.heap.size, 1, none⟩ = some (.int .i64 x) := gbk h2 (gbk h1 (by simp))
  have E2 : w2.cell? ⟨w.heap.size, 2, none⟩ = some (.int .i64 b) := gbk h2 (gbk h1 (by simp))
  have G2 := Lib.hid (gbT (gbT (gbA (gbR w none) _) h1) h2)
  have L2 := h2.size
  have L1 := h1.size
  simp at L1
  have LL : w.heap.size ≠ w2.heap.size := by omega
  have F0 := fun o => kA E0 o
  have F1 := fun o => kA E1 o
  have F2 := fun o => kA E2 o
  clear hcl1 hfz1 hlt1 h1 h2
  go_wp2_with fail
  refine (toPool_c s x b _).mono ?_
  rintro e w3 ⟨rfl, h3⟩
  go_wp2_with fail
  refine (HI.out _).mono ?_
  rintro e w4 ⟨rfl, h4⟩
  have R0 : w4.cell? ⟨w2.heap.size, 0, none⟩ = some (.int .i64 s) := gbk h4 (gbk h3 (by simp))
  have R1 : w4.cell? ⟨w2.heap.size, 1, none⟩ = some (.int .i64 x) := gbk h4 (gbk h3 (by simp))
  have R2 : w4.cell? ⟨w2.heap.size, 2, none⟩ = some (.int .i64 r) := gbk h4 (gbk h3 (by simp))
  have S0 := fun o => kA R0 o
  have S1 := fun o => kA R1 o
  have S2 := fun o => kA R2 o
  have G4 := Lib.hid (gbT (gbT (gbA G2.out _) h3) h4)
  clear h3 h4 F0 F1 F2 E0 E1 E2
  go_wp2_with fail
  refine (eqPool_c s x r _).mono ?_
  rintro e w5 ⟨rfl, h5⟩
  go_wp2_with fail
  go_ret
  exact ⟨by simp, gbT (gbA G4.out _) h5⟩
theorem FnExactPoolReserve.walk (w : World) (s : Int) (ws : (Lit.int .i64 s).wf = true) (x : Int) (wx : (Lit.int .i64 x).wf = true) (b : Int) (wb : (Lit.int .i64 b).wf = true) (n : Int) (wn : (Lit.int .i64 n).wf = true) :
    Calls Try.prog 8 #[.agg #[.int .i64 s, .int .i64 x, .int .i64 b], .int .i64 n] w fun e w' => e = .returned (.bool true) ∧ w.grownBy w' none := by
  cases h : reserveOk s x b n with
  | true =>
    simp only [reserveOk, Bool.and_eq_true, decide_eq_true_eq] at h
    obtain ⟨⟨⟨h0, h1⟩, h2⟩, h3⟩ := h
    exact FnExactPoolReserve.core w s x b n _ _ (fun w => specPoolReserve_yes s x b n w h0 h1 h2 h3) (fun w => implPoolReserve_yes s x b n w h0 h1 h2 h3)
  | false => exact FnExactPoolReserve.core w s x b n _ _ (fun w => specPoolReserve_no s x b n w h) (fun w => implPoolReserve_no s x b n w h)
end Go.Proofs.Ytllokfcappfkiaa
