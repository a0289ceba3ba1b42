/-
  Costs: the walks of CostWithin and AddCosts, in the reference and in the program, and of the two laws.
-/
import Derived.Test.YtllokfcappfkiaaInts
import Derived.Test.YtllokfcappfkiaaGrow
import Derived.Deep.DeepCutAuto
namespace Go.Proofs.Ytllokfcappfkiaa
open Go.RowKit
set_option linter.unusedVariables false
abbrev agg4 (a1 a2 a3 a4 : Int) : Value := .agg #[.int .i64 a1, .int .i64 a2, .int .i64 a3, .int .i64 a4]
theorem toCost_c (a1 a2 a3 a4 : Int) (w : World) :
    Calls Try.prog 26 #[.agg #[.int .i64 a1, .int .i64 a2, .int .i64 a3, .int .i64 a4]] w fun e w' => e = .returned (.agg #[.int .i64 a1, .int .i64 a2, .int .i64 a3, .int .i64 a4]) ∧ w.grownBy w' none := by
  go_enter Try.func26, Try.ntmps26
  go_wp2_with fail
  exact bodyPost_ret (by simp [results, Try.results26, go_sem]) rfl ⟨rfl, gbA (gbA (gbA (gbR _ _) _) _) _⟩
def costWithin (a1 a2 a3 a4 b1 b2 b3 b4 : Int) : Bool := decide (a1 ≤ b1) && decide (a2 ≤ b2) && decide (a3 ≤ b3) && decide (a4 ≤ b4)
theorem specCostWithin_c (a1 a2 a3 a4 b1 b2 b3 b4 : Int) (w : World) :
    Calls Try.prog 25 #[.agg #[.int .i64 a1, .int .i64 a2, .int .i64 a3, .int .i64 a4], .agg #[.int .i64 b1, .int .i64 b2, .int .i64 b3, .int .i64 b4]] w fun e w' => e = .returned (.bool (costWithin a1 a2 a3 a4 b1 b2 b3 b4)) ∧ w.grownBy w' none := by
  go_enter Try.func25, Try.ntmps25
  go_wp2_with fail
  all_goals
    go_ret
    exact ⟨retB (by simp [costWithin, *] <;> omega), gbA (gbA (gbR _ _) _) _⟩
theorem specAddCosts_c (a1 a2 a3 a4 b1 b2 b3 b4 : Int) (w : World) :
    Calls Try.prog 30 #[.agg #[.int .i64 a1, .int .i64 a2, .int .i64 a3, .int .i64 a4], .agg #[.int .i64 b1, .int .i64 b2, .int .i64 b3, .int .i64 b4]] w fun e w' => e = .returned (.agg #[.int .i64 (wrap64 (a1 + b1)), .int .i64 (wrap64 (a2 + b2)), .int .i64 (wrap64 (a3 + b3)), .int .i64 (wrap64 (a4 + b4))]) ∧ w.grownBy w' none := by
  go_enter Try.func30, Try.ntmps30
  go_wp2_with fail
  exact bodyPost_ret (by simp [results, Try.results30, go_sem]) rfl ⟨rfl, by repeat (first | exact gbR _ _ | refine gbA ?_ _)⟩
theorem implCostWithin_c (a1 a2 a3 a4 b1 b2 b3 b4 : Int) (w : World) :
    Calls Try.prog 27 #[.agg #[.int .i64 a1, .int .i64 a2, .int .i64 a3, .int .i64 a4], .agg #[.int .i64 b1, .int .i64 b2, .int .i64 b3, .int .i64 b4]] w fun e w' => e = .returned (.bool (costWithin a1 a2 a3 a4 b1 b2 b3 b4)) ∧ w.grownBy w' none := by
  go_enter Try.func27, Try.ntmps27
  go_wp2_with fail
  all_goals
    go_ret
    exact ⟨retB (by simp [costWithin, *] <;> omega), gbA (gbA (gbR _ _) _) _⟩
theorem implAddCosts_c (a1 a2 a3 a4 b1 b2 b3 b4 : Int) (w : World) :
    Calls Try.prog 31 #[.agg #[.int .i64 a1, .int .i64 a2, .int .i64 a3, .int .i64 a4], .agg #[.int .i64 b1, .int .i64 b2, .int .i64 b3, .int .i64 b4]] w fun e w' => e = .returned (.agg #[.int .i64 (wrap64 (a1 + b1)), .int .i64 (wrap64 (a2 + b2)), .int .i64 (wrap64 (a3 + b3)), .int .i64 (wrap64 (a4 + b4))]) ∧ w.grownBy w' none := by
  go_enter Try.func31, Try.ntmps31
  go_wp2_with fail
  exact bodyPost_ret (by simp [results, Try.results31, go_sem]) rfl ⟨rfl, by repeat (first | exact gbR _ _ | refine gbA ?_ _)⟩
theorem eqCost_c (a1 a2 a3 a4 : Int) (w : World) :
    Calls Try.prog 32 #[.agg #[.int .i64 a1, .int .i64 a2, .int .i64 a3, .int .i64 a4], .agg #[.int .i64 a1, .int .i64 a2, .int .i64 a3, .int .i64 a4]] w fun e w' => e = .returned (.bool true) ∧ w.grownBy w' none := by
  go_enter Try.func32, Try.ntmps32
  go_wp2_with fail
  all_goals
    go_ret
    exact ⟨rfl, by repeat (first | exact gbR _ _ | refine gbA ?_ _)⟩

set_option maxHeartbeats 400000 in
theorem FnExactCostWithin.walk (w : World) (a1 : Int) (x1 : (Lit.int .i64 a1).wf = true) (a2 : Int) (x2 : (Lit.int .i64 a2).wf = true) (a3 : Int) (x3 : (Lit.int .i64 a3).wf = true) (a4 : Int) (x4 : (Lit.int .i64 a4).wf = true) (b1 : Int) (y1 : (Lit.int .i64 b1).wf = true) (b2 : Int) (y2 : (Lit.int .i64 b2).wf = true) (b3 : Int) (y3 : (Lit.int .i64 b3).wf = true) (b4 : Int) (y4 : (Lit.int .i64 b4).wf = true) :
    Calls Try.prog 3 #[.agg #[.int .i64 a1, .int .i64 a2, .int .i64 a3, .int .i64 a4], .agg #[.int .i64 b1, .int .i64 b2, .int .i64 b3, .int .i64 b4]] w fun e w' => e = .returned (.bool true) ∧ w.grownBy w' none := by
  clear x1 x2 x3 x4 y1 y2 y3 y4
  have e0 : ((w.alloc (.cells #[.int .i64 a1, .int .i64 a2, .int .i64 a3, .int .i64 a4] 23)).alloc (.cells #[.int .i64 b1, .int .i64 b2, .int .i64 b3, .int .i64 b4] 23)).cell? ⟨w.heap.size, 0, none⟩ = some (.int .i64 a1) := by simp
  have e1 : ((w.alloc (.cells #[.int .i64 a1, .int .i64 a2, .int .i64 a3, .int .i64 a4] 23)).alloc (.cells #[.int .i64 b1, .int .i64 b2, .int .i64 b3, .int .i64 b4] 23)).cell? ⟨w.heap.size, 1, none⟩ = some (.int .i64 a2) := by simp
  have e2 : ((w.alloc (.cells #[.int .i64 a1, .int .i64 a2, .int .i64 a3, .int .i64 a4] 23)).alloc (.cells #[.int .i64 b1, .int .i64 b2, .int .i64 b3, .int .i64 b4] 23)).cell? ⟨w.heap.size, 2, none⟩ = some (.int .i64 a3) := by simp
  have e3 : ((w.alloc (.cells #[.int .i64 a1, .int .i64 a2, .int .i64 a3, .int .i64 a4] 23)).alloc (.cells #[.int .i64 b1, .int .i64 b2, .int .i64 b3, .int .i64 b4] 23)).cell? ⟨w.heap.size, 3, none⟩ = some (.int .i64 a4) := by simp
  have e4 : ((w.alloc (.cells #[.int .i64 a1, .int .i64 a2, .int .i64 a3, .int .i64 a4] 23)).alloc (.cells #[.int .i64 b1, .int .i64 b2, .int .i64 b3, .int .i64 b4] 23)).cell? ⟨w.heap.size + 1, 0, none⟩ = some (.int .i64 b1) := by simp
  have e5 : ((w.alloc (.cells #[.int .i64 a1, .int .i64 a2, .int .i64 a3, .int .i64 a4] 23)).alloc (.cells #[.int .i64 b1, .int .i64 b2, .int .i64 b3, .int .i64 b4] 23)).cell? ⟨w.heap.size + 1, 1, none⟩ = some (.int .i64 b2) := by simp
  have e6 : ((w.alloc (.cells #[.int .i64 a1, .int .i64 a2, .int .i64 a3, .int .i64 a4] 23)).alloc (.cells #[.int .i64 b1, .int .i64 b2, .int .i64 b3, .int .i64 b4] 23)).cell? ⟨w.heap.size + 1, 2, none⟩ = some (.int .i64 b3) := by simp
  have e7 : ((w.alloc (.cells #[.int .i64 a1, .int .i64 a2, .int .i64 a3, .int .i64 a4] 23)).alloc (.cells #[.int .i64 b1, .int .i64 b2, .int .i64 b3, .int .i64 b4] 23)).cell? ⟨w.heap.size + 1, 3, none⟩ = some (.int .i64 b4) := by simp
  go_enter Try.func3, Try.ntmps3
  go_upto_region 1 with fail
  refine region_grow [isV (agg4 a1 a2 a3 a4), isV (agg4 a1 a2 a3 a4), isV (agg4 b1 b2 b3 b4), isV (agg4 b1 b2 b3 b4), isV (.bool (costWithin a1 a2 a3 a4 b1 b2 b3 b4)), isV (.bool (costWithin a1 a2 a3 a4 b1 b2 b3 b4))] (by kernel_rfl) (by kernel_rfl) (by kernel_rfl) (by simp [stables, isV_st]) ?_ ?_
  · simp only [hops, and_true]
    refine ⟨?_, ?_, ?_, ?_, ?_, ?_⟩
    all_goals
      intro f w1 hG hd
      replace e0 := gbk hG (kD e0)
      replace e1 := gbk hG (kD e1)
      replace e2 := gbk hG (kD e2)
      replace e3 := gbk hG (kD e3)
      replace e4 := gbk hG (kD e4)
      replace e5 := gbk hG (kD e5)
      replace e6 := gbk hG (kD e6)
      replace e7 := gbk hG (kD e7)
      simp [deps, tAt, isV] at hd
      simp [puts, dsts, Act.put, hd]
      go_wp2_with (first | (go_at_call 26; refine (toCost_c _ _ _ _ _).mono ?_; rintro e w2 ⟨rfl, hw⟩) | (go_at_call 25; refine (specCostWithin_c _ _ _ _ _ _ _ _ _).mono ?_; rintro e w2 ⟨rfl, hw⟩))
    all_goals exact ⟨_, rfl, by first | exact gbR _ _ | exact hw | exact gbA (gbR _ _) _, by first | (simp [tAt, isV]; done) | (simp [tAt, isV]; assumption)⟩
  · intro f w1 hG hd
    replace e0 := gbk hG (kD e0)
    replace e1 := gbk hG (kD e1)
    replace e2 := gbk hG (kD e2)
    replace e3 := gbk hG (kD e3)
    replace e4 := gbk hG (kD e4)
    replace e5 := gbk hG (kD e5)
    replace e6 := gbk hG (kD e6)
    replace e7 := gbk hG (kD e7)
    simp [knows, tAt, isV] at hd
    simp only [puts, dsts, Act.put, hd, List.filterMap_cons, List.filterMap_nil, List.setIfInBounds_toArray, List.set_cons_zero, List.set_cons_succ]
    clear hd
    have G : w.grownBy w1 none := by repeat (first | with_reducible assumption | with_reducible exact gbR _ _ | with_reducible refine gbD ?_ | with_reducible refine gbDN ?_ _ | with_reducible refine gbA ?_ _ | with_reducible refine gbT ?_ (by with_reducible assumption))
    clear hG
    go_upto_region 2 with fail
    refine region_grow [isV (agg4 a1 a2 a3 a4), isV (agg4 a1 a2 a3 a4), isV (agg4 b1 b2 b3 b4), isV (agg4 b1 b2 b3 b4), isV (.bool (costWithin a1 a2 a3 a4 b1 b2 b3 b4)), isV (.bool (costWithin a1 a2 a3 a4 b1 b2 b3 b4))] (by kernel_rfl) (by kernel_rfl) (by kernel_rfl) (by simp [stables, isV_st]) ?_ ?_
    · simp only [hops, and_true]
      refine ⟨?_, ?_, ?_, ?_, ?_, ?_⟩
      all_goals
        intro f w1 hG hd
        replace e0 := gbk hG (kD e0)
        replace e1 := gbk hG (kD e1)
        replace e2 := gbk hG (kD e2)
        replace e3 := gbk hG (kD e3)
        replace e4 := gbk hG (kD e4)
        replace e5 := gbk hG (kD e5)
        replace e6 := gbk hG (kD e6)
        replace e7 := gbk hG (kD e7)
        simp [deps, tAt, isV] at hd
        simp [puts, dsts, Act.put, hd]
        go_wp2_with (first | (go_at_call 26; refine (toCost_c _ _ _ _ _).mono ?_; rintro e w2 ⟨rfl, hw⟩) | (go_at_call 27; refine (implCostWithin_c _ _ _ _ _ _ _ _ _).mono ?_; rintro e w2 ⟨rfl, hw⟩))
      all_goals exact ⟨_, rfl, by first | exact gbR _ _ | exact hw | exact gbA (gbR _ _) _, by first | (simp [tAt, isV]; done) | (simp [tAt, isV]; assumption)⟩
    · intro f w1 hG hd
      replace e0 := gbk hG (kD e0)
      replace e1 := gbk hG (kD e1)
      replace e2 := gbk hG (kD e2)
      replace e3 := gbk hG (kD e3)
      replace e4 := gbk hG (kD e4)
      replace e5 := gbk hG (kD e5)
      replace e6 := gbk hG (kD e6)
      replace e7 := gbk hG (kD e7)
      simp [knows, tAt, isV] at hd
      simp only [puts, dsts, Act.put, hd, List.filterMap_cons, List.filterMap_nil, List.setIfInBounds_toArray, List.set_cons_zero, List.set_cons_succ]
      go_wp2_with fail
      go_ret
      exact ⟨rfl, gbT (gbD G) (by assumption)⟩
end Go.Proofs.Ytllokfcappfkiaa
