/-
  PoolTake: the walks and the law's.
-/
import Derived.Test.YthncoohkdmjcaaaPoolReserve
import Derived.Test.YthncoohkdmjcaaaRes
namespace Go.Proofs.Ythncoohkdmjcaaa
open Go.RowKit
set_option linter.unusedVariables false
theorem st_pool : St Try.prog 55 3 := ⟨⟨_, Try.underlying55, rfl⟩, by kernel_rfl⟩
theorem st_ticket : St Try.prog 59 2 := ⟨⟨_, Try.underlying59, rfl⟩, by kernel_rfl⟩
/-- What PoolTake hands back. -/
def takeOk (s x b n : Int) : Bool := poolOk s x b && decide (1 ≤ n) && decide (n ≤ 1000) && decide (x + n ≤ b)
theorem implPoolTake_yes (s x b n : Int) (w : World) (h : poolOk s x b = true) (h1 : 1 ≤ n) (h2 : n ≤ 1000) (h3 : x + n ≤ b) :
    Calls Try.prog 43 #[.agg #[.int .i64 s, .int .i64 x, .int .i64 b], .int .i64 n] w fun e w' => e = .returned (.tuple #[.agg #[.int .i64 s, .int .i64 (x + n), .int .i64 b], .agg #[.int .i64 x, .int .i64 n], .bool true]) ∧ w.grownBy w' none := by
  obtain ⟨k1, k2, k3, k4, k5⟩ := poolOk_is h
  have d1 : decide (1 ≤ n) = true := by simp; omega
  have d2 : decide (n ≤ 1000) = true := by simp; omega
  have hb0 : 0 ≤ b := by omega
  clear h
  go_enter Try.func43, Try.ntmps43
  go_wp2
  go_region
  all_goals (try go_wp2)
  all_goals exact bodyPost_ret (v := .tuple #[.agg #[.int .i64 s, .int .i64 (x + n), .int .i64 b], .agg #[.int .i64 x, .int .i64 n], .bool true]) (by simp [results, Try.results43, go_sem]) rfl ⟨rfl, by repeat (first | exact gbR _ _ | refine gbA ?_ _ | refine gbD ?_)⟩
set_option maxHeartbeats 800000 in
theorem implPoolTake_no_a (s x b n : Int) (w : World) (hp : poolOk s x b = false) :
    Calls Try.prog 43 #[.agg #[.int .i64 s, .int .i64 x, .int .i64 b], .int .i64 n] w fun e w' => e = .returned (.tuple #[.agg #[.int .i64 s, .int .i64 x, .int .i64 b], .agg #[.int .i64 0, .int .i64 0], .bool false]) ∧ w.grownBy w' none := by
  have HP := Lib.hid hp
  clear hp
  go_enter Try.func43, Try.ntmps43
  go_wp2_with fail
  refine (implPoolOk_c s x b _).mono ?_
  rintro e w1 ⟨rfl, hw⟩
  rw [HP.out]
  have hz := hw.size
  simp at hz
  have B0 : Blk w1 w.heap.size 55 #[.int .i64 s, .int .i64 x, .int .i64 b] := Blk.grow ((Blk.new w _ _).grow (gbA (gbA (gbR _ _) _) _)) hw
  have c0 := B0.cell 0
  have c1 := B0.cell 1
  have c2 := B0.cell 2
  simp at c0 c1 c2
  have B1 : Blk w1 (w.heap.size + 1) 55 #[.int .i64 0, .int .i64 0, .int .i64 0] := Blk.grow ((Blk.new' (w.alloc _) _ _ _ (by simp)).grow (gbA (gbR _ _) _)) hw
  have c3 := B1.cell 0
  have c4 := B1.cell 1
  have c5 := B1.cell 2
  have f3 := B1.frozen 0
  have f4 := B1.frozen 1
  have f5 := B1.frozen 2
  simp at c3 c4 c5
  have B2 : Blk w1 (w.heap.size + 1 + 1) 59 #[.int .i64 0, .int .i64 0] := Blk.grow (Blk.new' ((w.alloc _).alloc _) _ _ _ (by simp)) hw
  have c6 := B2.cell 0
  have c7 := B2.cell 1
  have f6 := B2.frozen 0
  have f7 := B2.frozen 1
  simp at c6 c7
  have E1 := Lib.hid (((B1.set_ 0 (.int .i64 s)).set_ 1 (.int .i64 x)).set_ 2 (.int .i64 b))
  have E2 := Lib.hid (B2.far (p := ⟨w.heap.size + 1, 0, none⟩) (by simp) (.int .i64 s))
  have E3 := Lib.hid (E2.out.far (p := ⟨w.heap.size + 1, 1, none⟩) (by simp) (.int .i64 x))
  have E4 := Lib.hid (E3.out.far (p := ⟨w.heap.size + 1, 2, none⟩) (by simp) (.int .i64 b))
  clear B0 B1 B2
  go_wp2
  refine ret_cct Try.results43 (by rfl) st_pool (cs := #[.int .i64 s, .int .i64 x, .int .i64 b]) ?B (by rfl) (by rfl) st_ticket (ds := #[.int .i64 0, .int .i64 0]) ?B' (by rfl) (by rfl) ⟨rfl, ?_⟩
  case B => exact (E1.out.far (p := ⟨w.heap.size + 1 + 1, 0, none⟩) (by simp) _).far (p := ⟨w.heap.size + 1 + 1, 1, none⟩) (by simp) _
  case B' => exact (E4.out.set_ 0 _).set_ 1 _
  exact gbS (gbS (gbS (gbS (gbS (gbT (gbA (gbA (gbA (gbR _ _) _) _) _) hw) (by simp) _) (by simp) _) (by simp) _) (by simp; omega) _) (by simp; omega) _
set_option maxHeartbeats 800000 in
theorem implPoolTake_no_b (s x b n : Int) (w : World) (hp : poolOk s x b = true) (h1 : ¬ 1 ≤ n) :
    Calls Try.prog 43 #[.agg #[.int .i64 s, .int .i64 x, .int .i64 b], .int .i64 n] w fun e w' => e = .returned (.tuple #[.agg #[.int .i64 s, .int .i64 x, .int .i64 b], .agg #[.int .i64 0, .int .i64 0], .bool false]) ∧ w.grownBy w' none := by
  have HP := Lib.hid hp
  have d1 : decide (1 ≤ n) = false := by simp; omega
  clear h1
  clear hp
  go_enter Try.func43, Try.ntmps43
  go_wp2_with fail
  refine (implPoolOk_c s x b _).mono ?_
  rintro e w1 ⟨rfl, hw⟩
  rw [HP.out]
  have hz := hw.size
  simp at hz
  have B0 : Blk w1 w.heap.size 55 #[.int .i64 s, .int .i64 x, .int .i64 b] := Blk.grow ((Blk.new w _ _).grow (gbA (gbA (gbR _ _) _) _)) hw
  have c0 := B0.cell 0
  have c1 := B0.cell 1
  have c2 := B0.cell 2
  simp at c0 c1 c2
  have B1 : Blk w1 (w.heap.size + 1) 55 #[.int .i64 0, .int .i64 0, .int .i64 0] := Blk.grow ((Blk.new' (w.alloc _) _ _ _ (by simp)).grow (gbA (gbR _ _) _)) hw
  have c3 := B1.cell 0
  have c4 := B1.cell 1
  have c5 := B1.cell 2
  have f3 := B1.frozen 0
  have f4 := B1.frozen 1
  have f5 := B1.frozen 2
  simp at c3 c4 c5
  have B2 : Blk w1 (w.heap.size + 1 + 1) 59 #[.int .i64 0, .int .i64 0] := Blk.grow (Blk.new' ((w.alloc _).alloc _) _ _ _ (by simp)) hw
  have c6 := B2.cell 0
  have c7 := B2.cell 1
  have f6 := B2.frozen 0
  have f7 := B2.frozen 1
  simp at c6 c7
  have E1 := Lib.hid (((B1.set_ 0 (.int .i64 s)).set_ 1 (.int .i64 x)).set_ 2 (.int .i64 b))
  have E2 := Lib.hid (B2.far (p := ⟨w.heap.size + 1, 0, none⟩) (by simp) (.int .i64 s))
  have E3 := Lib.hid (E2.out.far (p := ⟨w.heap.size + 1, 1, none⟩) (by simp) (.int .i64 x))
  have E4 := Lib.hid (E3.out.far (p := ⟨w.heap.size + 1, 2, none⟩) (by simp) (.int .i64 b))
  clear B0 B1 B2
  go_wp2
  refine ret_cct Try.results43 (by rfl) st_pool (cs := #[.int .i64 s, .int .i64 x, .int .i64 b]) ?B (by rfl) (by rfl) st_ticket (ds := #[.int .i64 0, .int .i64 0]) ?B' (by rfl) (by rfl) ⟨rfl, ?_⟩
  case B => exact (E1.out.far (p := ⟨w.heap.size + 1 + 1, 0, none⟩) (by simp) _).far (p := ⟨w.heap.size + 1 + 1, 1, none⟩) (by simp) _
  case B' => exact (E4.out.set_ 0 _).set_ 1 _
  exact gbS (gbS (gbS (gbS (gbS (gbT (gbA (gbA (gbA (gbR _ _) _) _) _) hw) (by simp) _) (by simp) _) (by simp) _) (by simp; omega) _) (by simp; omega) _
set_option maxHeartbeats 800000 in
theorem implPoolTake_no_c (s x b n : Int) (w : World) (hp : poolOk s x b = true) (h1 : 1 ≤ n) (h2 : ¬ n ≤ 1000) :
    Calls Try.prog 43 #[.agg #[.int .i64 s, .int .i64 x, .int .i64 b], .int .i64 n] w fun e w' => e = .returned (.tuple #[.agg #[.int .i64 s, .int .i64 x, .int .i64 b], .agg #[.int .i64 0, .int .i64 0], .bool false]) ∧ w.grownBy w' none := by
  have HP := Lib.hid hp
  have d1 : decide (1 ≤ n) = true := by simp; omega
  have d2 : decide (n ≤ 1000) = false := by simp; omega
  clear h2
  clear hp
  go_enter Try.func43, Try.ntmps43
  go_wp2_with fail
  refine (implPoolOk_c s x b _).mono ?_
  rintro e w1 ⟨rfl, hw⟩
  rw [HP.out]
  have hz := hw.size
  simp at hz
  have B0 : Blk w1 w.heap.size 55 #[.int .i64 s, .int .i64 x, .int .i64 b] := Blk.grow ((Blk.new w _ _).grow (gbA (gbA (gbR _ _) _) _)) hw
  have c0 := B0.cell 0
  have c1 := B0.cell 1
  have c2 := B0.cell 2
  simp at c0 c1 c2
  have B1 : Blk w1 (w.heap.size + 1) 55 #[.int .i64 0, .int .i64 0, .int .i64 0] := Blk.grow ((Blk.new' (w.alloc _) _ _ _ (by simp)).grow (gbA (gbR _ _) _)) hw
  have c3 := B1.cell 0
  have c4 := B1.cell 1
  have c5 := B1.cell 2
  have f3 := B1.frozen 0
  have f4 := B1.frozen 1
  have f5 := B1.frozen 2
  simp at c3 c4 c5
  have B2 : Blk w1 (w.heap.size + 1 + 1) 59 #[.int .i64 0, .int .i64 0] := Blk.grow (Blk.new' ((w.alloc _).alloc _) _ _ _ (by simp)) hw
  have c6 := B2.cell 0
  have c7 := B2.cell 1
  have f6 := B2.frozen 0
  have f7 := B2.frozen 1
  simp at c6 c7
  have E1 := Lib.hid (((B1.set_ 0 (.int .i64 s)).set_ 1 (.int .i64 x)).set_ 2 (.int .i64 b))
  have E2 := Lib.hid (B2.far (p := ⟨w.heap.size + 1, 0, none⟩) (by simp) (.int .i64 s))
  have E3 := Lib.hid (E2.out.far (p := ⟨w.heap.size + 1, 1, none⟩) (by simp) (.int .i64 x))
  have E4 := Lib.hid (E3.out.far (p := ⟨w.heap.size + 1, 2, none⟩) (by simp) (.int .i64 b))
  clear B0 B1 B2
  go_wp2
  refine ret_cct Try.results43 (by rfl) st_pool (cs := #[.int .i64 s, .int .i64 x, .int .i64 b]) ?B (by rfl) (by rfl) st_ticket (ds := #[.int .i64 0, .int .i64 0]) ?B' (by rfl) (by rfl) ⟨rfl, ?_⟩
  case B => exact (E1.out.far (p := ⟨w.heap.size + 1 + 1, 0, none⟩) (by simp) _).far (p := ⟨w.heap.size + 1 + 1, 1, none⟩) (by simp) _
  case B' => exact (E4.out.set_ 0 _).set_ 1 _
  exact gbS (gbS (gbS (gbS (gbS (gbT (gbA (gbA (gbA (gbR _ _) _) _) _) hw) (by simp) _) (by simp) _) (by simp) _) (by simp; omega) _) (by simp; omega) _
set_option maxHeartbeats 800000 in
theorem implPoolTake_no_d (s x b n : Int) (w : World) (hp : poolOk s x b = true) (h1 : 1 ≤ n) (h2 : n ≤ 1000) (h3 : b < x + n) :
    Calls Try.prog 43 #[.agg #[.int .i64 s, .int .i64 x, .int .i64 b], .int .i64 n] w fun e w' => e = .returned (.tuple #[.agg #[.int .i64 s, .int .i64 x, .int .i64 b], .agg #[.int .i64 0, .int .i64 0], .bool false]) ∧ w.grownBy w' none := by
  have HP := Lib.hid hp
  have d1 : decide (1 ≤ n) = true := by simp; omega
  have d2 : decide (n ≤ 1000) = true := by simp; omega
  obtain ⟨k1, k2, k3, k4, k5⟩ := poolOk_is hp
  have hb0 : 0 ≤ b := by omega
  clear hp
  go_enter Try.func43, Try.ntmps43
  go_wp2_with fail
  refine (implPoolOk_c s x b _).mono ?_
  rintro e w1 ⟨rfl, hw⟩
  rw [HP.out]
  have hz := hw.size
  simp at hz
  have B0 : Blk w1 w.heap.size 55 #[.int .i64 s, .int .i64 x, .int .i64 b] := Blk.grow ((Blk.new w _ _).grow (gbA (gbA (gbR _ _) _) _)) hw
  have c0 := B0.cell 0
  have c1 := B0.cell 1
  have c2 := B0.cell 2
  simp at c0 c1 c2
  have B1 : Blk w1 (w.heap.size + 1) 55 #[.int .i64 0, .int .i64 0, .int .i64 0] := Blk.grow ((Blk.new' (w.alloc _) _ _ _ (by simp)).grow (gbA (gbR _ _) _)) hw
  have c3 := B1.cell 0
  have c4 := B1.cell 1
  have c5 := B1.cell 2
  have f3 := B1.frozen 0
  have f4 := B1.frozen 1
  have f5 := B1.frozen 2
  simp at c3 c4 c5
  have B2 : Blk w1 (w.heap.size + 1 + 1) 59 #[.int .i64 0, .int .i64 0] := Blk.grow (Blk.new' ((w.alloc _).alloc _) _ _ _ (by simp)) hw
  have c6 := B2.cell 0
  have c7 := B2.cell 1
  have f6 := B2.frozen 0
  have f7 := B2.frozen 1
  simp at c6 c7
  have E1 := Lib.hid (((B1.set_ 0 (.int .i64 s)).set_ 1 (.int .i64 x)).set_ 2 (.int .i64 b))
  have E2 := Lib.hid (B2.far (p := ⟨w.heap.size + 1, 0, none⟩) (by simp) (.int .i64 s))
  have E3 := Lib.hid (E2.out.far (p := ⟨w.heap.size + 1, 1, none⟩) (by simp) (.int .i64 x))
  have E4 := Lib.hid (E3.out.far (p := ⟨w.heap.size + 1, 2, none⟩) (by simp) (.int .i64 b))
  clear B0 B1 B2
  go_wp2
  refine ret_cct Try.results43 (by rfl) st_pool (cs := #[.int .i64 s, .int .i64 x, .int .i64 b]) ?B (by rfl) (by rfl) st_ticket (ds := #[.int .i64 0, .int .i64 0]) ?B' (by rfl) (by rfl) ⟨rfl, ?_⟩
  case B => exact (E1.out.far (p := ⟨w.heap.size + 1 + 1, 0, none⟩) (by simp) _).far (p := ⟨w.heap.size + 1 + 1, 1, none⟩) (by simp) _
  case B' => exact (E4.out.set_ 0 _).set_ 1 _
  exact gbS (gbS (gbS (gbS (gbS (gbT (gbA (gbA (gbA (gbR _ _) _) _) _) hw) (by simp) _) (by simp) _) (by simp) _) (by simp; omega) _) (by simp; omega) _
theorem implPoolTake_no (s x b n : Int) (w : World) (h : takeOk s x b n = false) :
    Calls Try.prog 43 #[.agg #[.int .i64 s, .int .i64 x, .int .i64 b], .int .i64 n] w fun e w' => e = .returned (.tuple #[.agg #[.int .i64 s, .int .i64 x, .int .i64 b], .agg #[.int .i64 0, .int .i64 0], .bool false]) ∧ w.grownBy w' none := by
  cases hp : poolOk s x b with
  | false => exact implPoolTake_no_a s x b n w hp
  | true =>
    by_cases h1 : 1 ≤ n
    · by_cases h2 : n ≤ 1000
      · exact implPoolTake_no_d s x b n w hp h1 h2 (by simp [takeOk, hp, h1, h2] at h; omega)
      · exact implPoolTake_no_c s x b n w hp h1 h2
    · exact implPoolTake_no_b s x b n w hp h1
end Go.Proofs.Ythncoohkdmjcaaa
