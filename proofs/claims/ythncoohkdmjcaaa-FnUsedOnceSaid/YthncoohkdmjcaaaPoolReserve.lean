/-
  PoolReserve: the walks and the law's.
-/
import Derived.Test.YthncoohkdmjcaaaPool
namespace Go.Proofs.Ythncoohkdmjcaaa
open Go.RowKit
set_option linter.unusedVariables false
abbrev pool (s x b : Int) : Value := .agg #[.int .i64 s, .int .i64 x, .int .i64 b]
/-- What PoolReserve hands back. -/
def reserveOk (s x b n : Int) : Bool := poolOk s x b && decide (1 ≤ n) && decide (n ≤ 1000) && decide (b + n ≤ s)
theorem implPoolReserve_yes (s x b n : Int) (w : World) (h : poolOk s x b = true) (h1 : 1 ≤ n) (h2 : n ≤ 1000) (h3 : b + n ≤ s) :
    Calls Try.prog 41 #[.agg #[.int .i64 s, .int .i64 x, .int .i64 b], .int .i64 n] w fun e w' => e = .returned (.tuple #[.agg #[.int .i64 s, .int .i64 x, .int .i64 (b + n)], .bool true]) ∧ w.grownBy w' none := by
  obtain ⟨k1, k2, k3, k4, k5⟩ := poolOk_is h
  have d1 : decide (1 ≤ n) = true := by simp; omega
  have d2 : decide (n ≤ 1000) = true := by simp; omega
  have hb0 : 0 ≤ b := by omega
  clear h
  go_enter Try.func41, Try.ntmps41
  go_wp2
  exact bodyPost_ret (v := .tuple #[.agg #[.int .i64 s, .int .i64 x, .int .i64 (b + n)], .bool true]) (by simp [results, Try.results41, go_sem]) rfl ⟨rfl, by repeat (first | exact gbR _ _ | refine gbA ?_ _)⟩
theorem implPoolReserve_no (s x b n : Int) (w : World) (h : reserveOk s x b n = false) :
    Calls Try.prog 41 #[.agg #[.int .i64 s, .int .i64 x, .int .i64 b], .int .i64 n] w fun e w' => e = .returned (.tuple #[.agg #[.int .i64 s, .int .i64 x, .int .i64 b], .bool false]) ∧ w.grownBy w' none := by
  cases hp : poolOk s x b with
  | false =>
    have HP := Lib.hid hp
    clear h hp
    go_enter Try.func41, Try.ntmps41
    go_wp2_with fail
    refine (implPoolOk_c s x b _).mono ?_
    rintro e w1 ⟨rfl, hw⟩
    rw [HP.out]
    obtain ⟨hcl, hfz, hlt⟩ := gcell hw
    have hz := hw.size
    simp at hz
    have hl0 : w.heap.size < w1.heap.size := by omega
    have hl1 : w.heap.size + 1 < w1.heap.size := by omega
    go_wp2
    exact bodyPost_ret (v := .tuple #[.agg #[.int .i64 s, .int .i64 x, .int .i64 b], .bool false]) (by simp [results, Try.results41, go_sem, hcl]) rfl
      ⟨rfl, by repeat (first | exact gbR _ _ | refine gbA ?_ _ | refine gbS ?_ (by show _ ≤ w.heap.size + 1; omega) _ | refine gbT ?_ hw)⟩
  | true =>
    obtain ⟨k1, k2, k3, k4, k5⟩ := poolOk_is hp
    have hb0 : 0 ≤ b := by omega
    have hr : reserveOk s x b n = (decide (1 ≤ n) && decide (n ≤ 1000) && decide (b + n ≤ s)) := by simp [reserveOk, hp]
    rw [hr] at h
    clear hr hp
    by_cases h1 : 1 ≤ n
    · by_cases h2 : n ≤ 1000
      · have h3 : s < b + n := by simp [h1, h2] at h; omega
        have d1 : decide (1 ≤ n) = true := by simp; omega
        have d2 : decide (n ≤ 1000) = true := by simp; omega
        clear h
        go_enter Try.func41, Try.ntmps41
        go_wp2
        exact bodyPost_ret (v := .tuple #[.agg #[.int .i64 s, .int .i64 x, .int .i64 b], .bool false]) (by simp [results, Try.results41, go_sem]) rfl ⟨rfl, by repeat (first | exact gbR _ _ | refine gbA ?_ _)⟩
      · have d1 : decide (1 ≤ n) = true := by simp; omega
        have d2 : decide (n ≤ 1000) = false := by simp; omega
        clear h
        go_enter Try.func41, Try.ntmps41
        go_wp2
        exact bodyPost_ret (v := .tuple #[.agg #[.int .i64 s, .int .i64 x, .int .i64 b], .bool false]) (by simp [results, Try.results41, go_sem]) rfl ⟨rfl, by repeat (first | exact gbR _ _ | refine gbA ?_ _)⟩
    · have d1 : decide (1 ≤ n) = false := by simp; omega
      clear h
      go_enter Try.func41, Try.ntmps41
      go_wp2
      exact bodyPost_ret (v := .tuple #[.agg #[.int .i64 s, .int .i64 x, .int .i64 b], .bool false]) (by simp [results, Try.results41, go_sem]) rfl ⟨rfl, by repeat (first | exact gbR _ _ | refine gbA ?_ _)⟩
end Go.Proofs.Ythncoohkdmjcaaa
