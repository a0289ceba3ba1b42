/-
  CircuitOk, CountGates, GarbledCost: reference and program.
-/
import Derived.Test.YthdfkiaoahpjpaaMgFnConstantCircuits20
namespace Go.Proofs.Ythdfkiaoahpjpaa
open Go.RowKit
set_option linter.unusedVariables false
set_option linter.unusedSimpArgs false
abbrev Gat := Int × Int × Int
def gateB (k : Int) (s : Gat) : Bool :=
  if s.1 = 1 then inB s.2.1 0 79 && s.2.2 == 0
  else if s.1 = 2 then inB s.2.1 0 1 && s.2.2 == 0
  else if s.1 = 3 ∨ s.1 = 4 then inB s.2.1 0 (k - 1) && inB s.2.2 0 (k - 1)
  else if s.1 = 5 then inB s.2.1 0 (k - 1) && s.2.2 == 0
  else false
def gtAt (m : CM) (j : Nat) : Gat := m.gt.getD j (0, 0, 0)
structure COk (m : CM) : Prop where
  few : m.gt.length ≤ 6000
  gates : ∀ j, j < m.gt.length → gateB j (gtAt m j) = true
  outs : ∀ z ∈ m.outs, inB z 0 (m.gt.length - 1) = true
open Classical in
noncomputable def circB (m : CM) : Bool := decide (COk m)
theorem circB_yes {m : CM} (h : COk m) : circB m = true := by simp [circB, h]
theorem circB_no {m : CM} (h : ¬ COk m) : circB m = false := by simp [circB, h]
theorem gates_at {w : World} {A : Option Addr} {n : Nat} {st : List Gat} (h : FL c3 3 w A n st) {k : Nat} (hk : k < n) :
    ∃ (b o : Nat) (x y z : Int), A = some ⟨b, o, none⟩ ∧ b < w.heap.size ∧ st[k]? = some (x, y, z) ∧ w.cell? ⟨b, o + k * 3, none⟩ = some (.int .i64 x) ∧ w.cell? ⟨b, o + k * 3 + 1, none⟩ = some (.int .i64 y) ∧ w.cell? ⟨b, o + k * 3 + 2, none⟩ = some (.int .i64 z) := by
  obtain ⟨b, o, t, rfl, hb, hx, hc⟩ := h.cell c3_len hk (by omega)
  obtain ⟨x, y, z⟩ := t
  have c0 := hc 0 (by omega)
  have c1 := hc 1 (by omega)
  have c2 := hc 2 (by omega)
  simp only [c3, Nat.add_zero, ← Nat.add_assoc, List.getElem?_cons_zero, List.getElem?_cons_succ] at c0 c1 c2
  exact ⟨b, o, x, y, z, rfl, hb, hx, c0, c1, c2⟩
theorem upB (y : Int) (k : Nat) : (decide (0 ≤ y) = false ∧ inB y 0 ((k : Int) - 1) = false) ∨ (decide (0 ≤ y) = true ∧ decide (y < (k : Int)) = false ∧ inB y 0 ((k : Int) - 1) = false) ∨ (decide (0 ≤ y) = true ∧ decide (y < (k : Int)) = true ∧ inB y 0 ((k : Int) - 1) = true) := by
  have e : inB y 0 ((k : Int) - 1) = (decide (0 ≤ y) && decide (y < (k : Int))) := by rw [inB, Bool.eq_iff_iff]; simp; omega
  rw [e]
  cases decide (0 ≤ y) <;> cases decide (y < (k : Int)) <;> simp
set_option maxHeartbeats 2000000 in
theorem specGateOk_1 (y z : Int) (k : Nat) (w : World) (hk : k ≤ 9223372036854775807) :
    Calls Try.prog 92 #[.agg #[.int .i64 1, .int .i64 y, .int .i64 z], .int .i64 k] w fun e w' => e = .returned (.bool (gateB k (1, y, z))) ∧ w.grownBy w' none := by
  have E : Hid (gateB k (1, y, z) = (inB y 0 79 && z == 0)) := rfl
  cases e1 : inB y 0 79
  all_goals
    rw [e1] at E
    have E1 := Lib.hid e1
    clear e1
    go_enter Try.func92, Try.ntmps92
    go_wp2_with (go_at_call 62; refine (spec.l01In_q _ _ _ _).mono ?_; rintro e w1 ⟨rfl, rfl⟩; rw [E1.out])
    go_ret
    exact ⟨retB E.out.symm, gbA (gbR _ _) _⟩
set_option maxHeartbeats 2000000 in
theorem specGateOk_2 (y z : Int) (k : Nat) (w : World) (hk : k ≤ 9223372036854775807) :
    Calls Try.prog 92 #[.agg #[.int .i64 2, .int .i64 y, .int .i64 z], .int .i64 k] w fun e w' => e = .returned (.bool (gateB k (2, y, z))) ∧ w.grownBy w' none := by
  have E : Hid (gateB k (2, y, z) = (inB y 0 1 && z == 0)) := rfl
  cases e1 : inB y 0 1
  all_goals
    rw [e1] at E
    have E1 := Lib.hid e1
    clear e1
    go_enter Try.func92, Try.ntmps92
    go_wp2_with (go_at_call 62; refine (spec.l01In_q _ _ _ _).mono ?_; rintro e w1 ⟨rfl, rfl⟩; rw [E1.out])
    go_ret
    exact ⟨retB E.out.symm, gbA (gbR _ _) _⟩
set_option maxHeartbeats 2000000 in
theorem implGateOk_1 (y z : Int) (k : Nat) (w : World) (hk : k ≤ 9223372036854775807) :
    Calls Try.prog 91 #[.agg #[.int .i64 1, .int .i64 y, .int .i64 z], .int .i64 k] w fun e w' => e = .returned (.bool (gateB k (1, y, z))) ∧ w.grownBy w' none := by
  have E : Hid (gateB k (1, y, z) = (inB y 0 79 && z == 0)) := rfl
  cases e1 : inB y 0 79
  all_goals
    rw [e1] at E
    have E1 := Lib.hid e1
    clear e1
    rcases upB y k with ⟨a1, ey⟩ | ⟨a1, a2, ey⟩ | ⟨a1, a2, ey⟩
    all_goals rcases upB z k with ⟨b1, ez⟩ | ⟨b1, b2, ez⟩ | ⟨b1, b2, ez⟩
    all_goals
      clear ey ez
      go_enter Try.func91, Try.ntmps91
      go_wp2_with (go_at_call 54; refine (impl.within_q _ _ _ _).mono ?_; rintro e w1 ⟨rfl, rfl⟩; rw [E1.out])
      go_ret
      exact ⟨retB E.out.symm, gbA (gbR _ _) _⟩
set_option maxHeartbeats 2000000 in
theorem implGateOk_2 (y z : Int) (k : Nat) (w : World) (hk : k ≤ 9223372036854775807) :
    Calls Try.prog 91 #[.agg #[.int .i64 2, .int .i64 y, .int .i64 z], .int .i64 k] w fun e w' => e = .returned (.bool (gateB k (2, y, z))) ∧ w.grownBy w' none := by
  have E : Hid (gateB k (2, y, z) = (inB y 0 1 && z == 0)) := rfl
  cases e1 : inB y 0 1
  all_goals
    rw [e1] at E
    have E1 := Lib.hid e1
    clear e1
    rcases upB y k with ⟨a1, ey⟩ | ⟨a1, a2, ey⟩ | ⟨a1, a2, ey⟩
    all_goals rcases upB z k with ⟨b1, ez⟩ | ⟨b1, b2, ez⟩ | ⟨b1, b2, ez⟩
    all_goals
      clear ey ez
      go_enter Try.func91, Try.ntmps91
      go_wp2_with (go_at_call 54; refine (impl.within_q _ _ _ _).mono ?_; rintro e w1 ⟨rfl, rfl⟩; rw [E1.out])
      go_ret
      exact ⟨retB E.out.symm, gbA (gbR _ _) _⟩
set_option maxHeartbeats 2000000 in
theorem specGateOk_3 (y z : Int) (k : Nat) (w : World) (hk : k ≤ 9223372036854775807) :
    Calls Try.prog 92 #[.agg #[.int .i64 3, .int .i64 y, .int .i64 z], .int .i64 k] w fun e w' => e = .returned (.bool (gateB k (3, y, z))) ∧ w.grownBy w' none := by
  have E : Hid (gateB k (3, y, z) = (inB y 0 (k - 1) && inB z 0 (k - 1))) := rfl
  have E1 := E
  rcases upB y k with ⟨a1, ey⟩ | ⟨a1, a2, ey⟩ | ⟨a1, a2, ey⟩
  all_goals rcases upB z k with ⟨b1, ez⟩ | ⟨b1, b2, ez⟩ | ⟨b1, b2, ez⟩
  all_goals
    rw [ey, ez] at E
    clear ey ez
    go_enter Try.func92, Try.ntmps92
    go_wp2_with (go_at_call 62; refine (spec.l01In_q _ _ _ _).mono ?_; rintro e w1 ⟨rfl, rfl⟩; rw [E1.out])
    go_ret
    exact ⟨retB E.out.symm, gbA (gbR _ _) _⟩
set_option maxHeartbeats 2000000 in
theorem specGateOk_4 (y z : Int) (k : Nat) (w : World) (hk : k ≤ 9223372036854775807) :
    Calls Try.prog 92 #[.agg #[.int .i64 4, .int .i64 y, .int .i64 z], .int .i64 k] w fun e w' => e = .returned (.bool (gateB k (4, y, z))) ∧ w.grownBy w' none := by
  have E : Hid (gateB k (4, y, z) = (inB y 0 (k - 1) && inB z 0 (k - 1))) := rfl
  have E1 := E
  rcases upB y k with ⟨a1, ey⟩ | ⟨a1, a2, ey⟩ | ⟨a1, a2, ey⟩
  all_goals rcases upB z k with ⟨b1, ez⟩ | ⟨b1, b2, ez⟩ | ⟨b1, b2, ez⟩
  all_goals
    rw [ey, ez] at E
    clear ey ez
    go_enter Try.func92, Try.ntmps92
    go_wp2_with (go_at_call 62; refine (spec.l01In_q _ _ _ _).mono ?_; rintro e w1 ⟨rfl, rfl⟩; rw [E1.out])
    go_ret
    exact ⟨retB E.out.symm, gbA (gbR _ _) _⟩
set_option maxHeartbeats 2000000 in
theorem specGateOk_5 (y z : Int) (k : Nat) (w : World) (hk : k ≤ 9223372036854775807) :
    Calls Try.prog 92 #[.agg #[.int .i64 5, .int .i64 y, .int .i64 z], .int .i64 k] w fun e w' => e = .returned (.bool (gateB k (5, y, z))) ∧ w.grownBy w' none := by
  have E : Hid (gateB k (5, y, z) = (inB y 0 (k - 1) && z == 0)) := rfl
  have E1 := E
  rcases upB y k with ⟨a1, ey⟩ | ⟨a1, a2, ey⟩ | ⟨a1, a2, ey⟩
  all_goals rcases upB z k with ⟨b1, ez⟩ | ⟨b1, b2, ez⟩ | ⟨b1, b2, ez⟩
  all_goals
    rw [ey] at E
    clear ey ez
    go_enter Try.func92, Try.ntmps92
    go_wp2_with (go_at_call 62; refine (spec.l01In_q _ _ _ _).mono ?_; rintro e w1 ⟨rfl, rfl⟩; rw [E1.out])
    go_ret
    exact ⟨retB E.out.symm, gbA (gbR _ _) _⟩
set_option maxHeartbeats 2000000 in
theorem specGateOk_0 (x y z : Int) (k : Nat) (w : World) (hk : k ≤ 9223372036854775807) (h1 : x ≠ 1) (h2 : x ≠ 2) (h3 : x ≠ 3) (h4 : x ≠ 4) (h5 : x ≠ 5) :
    Calls Try.prog 92 #[.agg #[.int .i64 x, .int .i64 y, .int .i64 z], .int .i64 k] w fun e w' => e = .returned (.bool (gateB k (x, y, z))) ∧ w.grownBy w' none := by
  have E : Hid (gateB k (x, y, z) = false) := by simp [Hid, gateB, h1, h2, h3, h4, h5]
  have E1 := E
  have d1 : (x == 1) = false := by simpa using h1
  have d2 : (x == 2) = false := by simpa using h2
  have d3 : (x == 3) = false := by simpa using h3
  have d4 : (x == 4) = false := by simpa using h4
  have d5 : (x == 5) = false := by simpa using h5
  clear h1 h2 h3 h4 h5
  rcases upB y k with ⟨a1, ey⟩ | ⟨a1, a2, ey⟩ | ⟨a1, a2, ey⟩
  all_goals rcases upB z k with ⟨b1, ez⟩ | ⟨b1, b2, ez⟩ | ⟨b1, b2, ez⟩
  all_goals
    clear ey ez
    go_enter Try.func92, Try.ntmps92
    go_wp2_with (go_at_call 62; refine (spec.l01In_q _ _ _ _).mono ?_; rintro e w1 ⟨rfl, rfl⟩; rw [E1.out])
    go_ret
    exact ⟨retB E.out.symm, gbA (gbR _ _) _⟩
theorem specGateOk_c (x y z : Int) (k : Nat) (w : World) (hk : k ≤ 9223372036854775807) :
    Calls Try.prog 92 #[.agg #[.int .i64 x, .int .i64 y, .int .i64 z], .int .i64 k] w fun e w' => e = .returned (.bool (gateB k (x, y, z))) ∧ w.grownBy w' none := by
  by_cases h1 : x = 1
  · subst h1; exact specGateOk_1 y z k w hk
  · by_cases h2 : x = 2
    · subst h2; exact specGateOk_2 y z k w hk
    · by_cases h3 : x = 3
      · subst h3; exact specGateOk_3 y z k w hk
      · by_cases h4 : x = 4
        · subst h4; exact specGateOk_4 y z k w hk
        · by_cases h5 : x = 5
          · subst h5; exact specGateOk_5 y z k w hk
          · exact specGateOk_0 x y z k w hk h1 h2 h3 h4 h5
set_option maxHeartbeats 2000000 in
theorem implGateOk_3 (y z : Int) (k : Nat) (w : World) (hk : k ≤ 9223372036854775807) :
    Calls Try.prog 91 #[.agg #[.int .i64 3, .int .i64 y, .int .i64 z], .int .i64 k] w fun e w' => e = .returned (.bool (gateB k (3, y, z))) ∧ w.grownBy w' none := by
  have E : Hid (gateB k (3, y, z) = (inB y 0 (k - 1) && inB z 0 (k - 1))) := rfl
  have E1 := E
  rcases upB y k with ⟨a1, ey⟩ | ⟨a1, a2, ey⟩ | ⟨a1, a2, ey⟩
  all_goals rcases upB z k with ⟨b1, ez⟩ | ⟨b1, b2, ez⟩ | ⟨b1, b2, ez⟩
  all_goals
    rw [ey, ez] at E
    clear ey ez
    go_enter Try.func91, Try.ntmps91
    go_wp2_with (go_at_call 54; refine (impl.within_q _ _ _ _).mono ?_; rintro e w1 ⟨rfl, rfl⟩; rw [E1.out])
    go_ret
    exact ⟨retB E.out.symm, gbA (gbR _ _) _⟩
set_option maxHeartbeats 2000000 in
theorem implGateOk_4 (y z : Int) (k : Nat) (w : World) (hk : k ≤ 9223372036854775807) :
    Calls Try.prog 91 #[.agg #[.int .i64 4, .int .i64 y, .int .i64 z], .int .i64 k] w fun e w' => e = .returned (.bool (gateB k (4, y, z))) ∧ w.grownBy w' none := by
  have E : Hid (gateB k (4, y, z) = (inB y 0 (k - 1) && inB z 0 (k - 1))) := rfl
  have E1 := E
  rcases upB y k with ⟨a1, ey⟩ | ⟨a1, a2, ey⟩ | ⟨a1, a2, ey⟩
  all_goals rcases upB z k with ⟨b1, ez⟩ | ⟨b1, b2, ez⟩ | ⟨b1, b2, ez⟩
  all_goals
    rw [ey, ez] at E
    clear ey ez
    go_enter Try.func91, Try.ntmps91
    go_wp2_with (go_at_call 54; refine (impl.within_q _ _ _ _).mono ?_; rintro e w1 ⟨rfl, rfl⟩; rw [E1.out])
    go_ret
    exact ⟨retB E.out.symm, gbA (gbR _ _) _⟩
set_option maxHeartbeats 2000000 in
theorem implGateOk_5 (y z : Int) (k : Nat) (w : World) (hk : k ≤ 9223372036854775807) :
    Calls Try.prog 91 #[.agg #[.int .i64 5, .int .i64 y, .int .i64 z], .int .i64 k] w fun e w' => e = .returned (.bool (gateB k (5, y, z))) ∧ w.grownBy w' none := by
  have E : Hid (gateB k (5, y, z) = (inB y 0 (k - 1) && z == 0)) := rfl
  have E1 := E
  rcases upB y k with ⟨a1, ey⟩ | ⟨a1, a2, ey⟩ | ⟨a1, a2, ey⟩
  all_goals rcases upB z k with ⟨b1, ez⟩ | ⟨b1, b2, ez⟩ | ⟨b1, b2, ez⟩
  all_goals
    rw [ey] at E
    clear ey ez
    go_enter Try.func91, Try.ntmps91
    go_wp2_with (go_at_call 54; refine (impl.within_q _ _ _ _).mono ?_; rintro e w1 ⟨rfl, rfl⟩; rw [E1.out])
    go_ret
    exact ⟨retB E.out.symm, gbA (gbR _ _) _⟩
set_option maxHeartbeats 2000000 in
theorem implGateOk_0 (x y z : Int) (k : Nat) (w : World) (hk : k ≤ 9223372036854775807) (h1 : x ≠ 1) (h2 : x ≠ 2) (h3 : x ≠ 3) (h4 : x ≠ 4) (h5 : x ≠ 5) :
    Calls Try.prog 91 #[.agg #[.int .i64 x, .int .i64 y, .int .i64 z], .int .i64 k] w fun e w' => e = .returned (.bool (gateB k (x, y, z))) ∧ w.grownBy w' none := by
  have E : Hid (gateB k (x, y, z) = false) := by simp [Hid, gateB, h1, h2, h3, h4, h5]
  have E1 := E
  have d1 : (x == 1) = false := by simpa using h1
  have d2 : (x == 2) = false := by simpa using h2
  have d3 : (x == 3) = false := by simpa using h3
  have d4 : (x == 4) = false := by simpa using h4
  have d5 : (x == 5) = false := by simpa using h5
  clear h1 h2 h3 h4 h5
  rcases upB y k with ⟨a1, ey⟩ | ⟨a1, a2, ey⟩ | ⟨a1, a2, ey⟩
  all_goals rcases upB z k with ⟨b1, ez⟩ | ⟨b1, b2, ez⟩ | ⟨b1, b2, ez⟩
  all_goals
    clear ey ez
    go_enter Try.func91, Try.ntmps91
    go_wp2_with (go_at_call 54; refine (impl.within_q _ _ _ _).mono ?_; rintro e w1 ⟨rfl, rfl⟩; rw [E1.out])
    go_ret
    exact ⟨retB E.out.symm, gbA (gbR _ _) _⟩
theorem implGateOk_c (x y z : Int) (k : Nat) (w : World) (hk : k ≤ 9223372036854775807) :
    Calls Try.prog 91 #[.agg #[.int .i64 x, .int .i64 y, .int .i64 z], .int .i64 k] w fun e w' => e = .returned (.bool (gateB k (x, y, z))) ∧ w.grownBy w' none := by
  by_cases h1 : x = 1
  · subst h1; exact implGateOk_1 y z k w hk
  · by_cases h2 : x = 2
    · subst h2; exact implGateOk_2 y z k w hk
    · by_cases h3 : x = 3
      · subst h3; exact implGateOk_3 y z k w hk
      · by_cases h4 : x = 4
        · subst h4; exact implGateOk_4 y z k w hk
        · by_cases h5 : x = 5
          · subst h5; exact implGateOk_5 y z k w hk
          · exact implGateOk_0 x y z k w hk h1 h2 h3 h4 h5
end Go.Proofs.Ythdfkiaoahpjpaa
