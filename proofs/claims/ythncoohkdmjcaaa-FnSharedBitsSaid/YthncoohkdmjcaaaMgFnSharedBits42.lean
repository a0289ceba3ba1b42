/-
  Helpers of oblivious memory: a bucket on a path, leaves, words, a block in its ranges.
-/
import Derived.Test.YthncoohkdmjcaaaMgFnSharedBits39
import Derived.Test.YthncoohkdmjcaaaMgFnSharedBits40
import Derived.Test.YthncoohkdmjcaaaMgFnSharedBits41
namespace Go.Proofs.Ythncoohkdmjcaaa
open Go.RowKit
set_option linter.unusedVariables false
set_option linter.unusedSimpArgs false
theorem opathI_yes_ (leaf : Int) (k j : Nat) (hj : j < (opathI leaf).length) (h : (opathI leaf).getD j 0 = k) : decide (k ∈ opath leaf) = true := by
  rw [getI _ _ hj] at h
  have : (opathI leaf)[j] ∈ opathI leaf := List.getElem_mem hj
  rw [h] at this
  obtain ⟨m, hm, e⟩ := List.mem_map.1 this
  have : m = k := by exact Int.ofNat.inj e
  subst this
  simpa using hm
theorem opathI_no_ (leaf : Int) (k : Nat) (h : ∀ j, j < (opathI leaf).length → (opathI leaf).getD j 0 ≠ k) : decide (k ∈ opath leaf) = false := by
  simp only [decide_eq_false_iff_not]
  intro hm
  have hm' : (k : Int) ∈ opathI leaf := List.mem_map.2 ⟨k, hm, rfl⟩
  obtain ⟨j, hj, e⟩ := List.getElem_of_mem hm'
  exact h j hj (by rw [getI _ _ hj, e])
set_option maxRecDepth 100000 in
set_option maxHeartbeats 400000 in
theorem iHolds_c (k : Nat) (leaf : Int) (w : World) :
    Calls Try.prog 72 #[.int .i64 k, .int .i64 leaf] w fun e w' => e = .returned (.bool (decide (k ∈ opath leaf))) ∧ w.grownBy w' none := by
  have HY := Lib.hid (opathI_yes_ leaf k)
  have HN := Lib.hid (opathI_no_ leaf k)
  have HL := Lib.hid (opathI_len leaf)
  go_enter Try.func72, Try.ntmps72
  go_wp2_with fail
  refine (implOramPath_c leaf _).mono ?_
  rintro e w1 ⟨v, rfl, o1, g1⟩
  obtain ⟨A, c, rfl, _, hc⟩ := own_form o1
  have HI : Hid (Ints w1 A (opathI leaf).length (opathI leaf)) := Rd.ofOwn o1
  have G1 := Lib.hid g1
  clear o1 g1
  generalize opathI leaf = xs at *
  obtain ⟨n, hn⟩ : ∃ n, xs.length = n := ⟨_, rfl⟩
  rw [hn] at HY HN HI HL hc ⊢
  clear hn
  have hn4 := HL.out
  go_wp2_with fail
  go_loop [10] (fun i => ∃ j : Nat, j ≤ n ∧ i = .int .i64 j ∧ Hid (∀ q, q < j → xs.getD q 0 ≠ (k : Int))) (fun i => n - (intOf i).toNat)
  case atStart => exact ⟨0, Nat.zero_le _, rfl, fun q hq => by omega⟩
  case round =>
    obtain ⟨j, hj, rfl, hall⟩ := hrel
    by_cases hlt : j < n
    · obtain ⟨b, o, rfl, hb, c1⟩ := Ints.cell HI.out hlt
      have i1 : (j : Int) < (n : Int) := by omega
      obtain ⟨z, hz⟩ : ∃ z, xs.getD j 0 = z := ⟨_, rfl⟩
      rw [hz] at c1
      by_cases hzk : z = (k : Int)
      · have HE := Lib.hid (HY.out j hlt (hz.trans hzk))
        have hzb : (z == (k : Int)) = true := by simpa using hzk
        clear hz hzk
        go_wp2_with fail
        go_ret
        exact ⟨retB HE.out.symm, G1.out⟩
      · have HE : Hid (∀ q, q < j + 1 → xs.getD q 0 ≠ (k : Int)) := fun q hq => by
          by_cases e : q = j
          · subst e; rw [hz]; exact hzk
          · exact hall.out q (by omega)
        have hzb : (z == (k : Int)) = false := by simpa using hzk
        clear hz hzk
        go_wp2_with fail
        go_round
        case rel => exact ⟨j + 1, by omega, by go_num, HE.out⟩
        case measure => simp [intOf]; omega
    · have hjn : j = n := by omega
      subst hjn
      have HE := Lib.hid (HN.out hall.out)
      go_wp2_with fail
      go_ret
      exact ⟨retB HE.out.symm, G1.out⟩
set_option maxRecDepth 100000 in
set_option maxHeartbeats 400000 in
theorem sHolds_c (k : Nat) (leaf : Int) (w : World) :
    Calls Try.prog 70 #[.int .i64 leaf, .int .i64 k] w fun e w' => e = .returned (.bool (decide (k ∈ opath leaf))) ∧ w.grownBy w' none := by
  have HY := Lib.hid (opathI_yes_ leaf k)
  have HN := Lib.hid (opathI_no_ leaf k)
  have HL := Lib.hid (opathI_len leaf)
  go_enter Try.func70, Try.ntmps70
  go_wp2_with fail
  refine (specOramPath_c leaf _).mono ?_
  rintro e w1 ⟨v, rfl, o1, g1⟩
  obtain ⟨A, c, rfl, _, hc⟩ := own_form o1
  have HI : Hid (Ints w1 A (opathI leaf).length (opathI leaf)) := Rd.ofOwn o1
  have G1 := Lib.hid g1
  clear o1 g1
  generalize opathI leaf = xs at *
  obtain ⟨n, hn⟩ : ∃ n, xs.length = n := ⟨_, rfl⟩
  rw [hn] at HY HN HI HL hc ⊢
  clear hn
  have hn4 := HL.out
  go_wp2_with fail
  go_loop [6] (fun i => ∃ j : Nat, j ≤ n ∧ i = .int .i64 j ∧ Hid (∀ q, q < j → xs.getD q 0 ≠ (k : Int))) (fun i => n - (intOf i).toNat)
  case atStart => exact ⟨0, Nat.zero_le _, rfl, fun q hq => by omega⟩
  case round =>
    obtain ⟨j, hj, rfl, hall⟩ := hrel
    by_cases hlt : j < n
    · obtain ⟨b, o, rfl, hb, c1⟩ := Ints.cell HI.out hlt
      have i1 : (j : Int) < (n : Int) := by omega
      obtain ⟨z, hz⟩ : ∃ z, xs.getD j 0 = z := ⟨_, rfl⟩
      rw [hz] at c1
      by_cases hzk : z = (k : Int)
      · have HE := Lib.hid (HY.out j hlt (hz.trans hzk))
        have hzb : (z == (k : Int)) = true := by simpa using hzk
        clear hz hzk
        go_wp2_with fail
        go_ret
        exact ⟨retB HE.out.symm, G1.out⟩
      · have HE : Hid (∀ q, q < j + 1 → xs.getD q 0 ≠ (k : Int)) := fun q hq => by
          by_cases e : q = j
          · subst e; rw [hz]; exact hzk
          · exact hall.out q (by omega)
        have hzb : (z == (k : Int)) = false := by simpa using hzk
        clear hz hzk
        go_wp2_with fail
        go_round
        case rel => exact ⟨j + 1, by omega, by go_num, HE.out⟩
        case measure => simp [intOf]; omega
    · have hjn : j = n := by omega
      subst hjn
      have HE := Lib.hid (HN.out hall.out)
      go_wp2_with fail
      go_ret
      exact ⟨retB HE.out.symm, G1.out⟩
def leavesB (zs : List Int) : Bool := decide (zs.length = 12) && zs.all fun a => decide (0 ≤ a) && decide (a ≤ 7)
theorem leavesB_is {zs : List Int} (h : leavesB zs = true) : zs.length = 12 ∧ ∀ a ∈ zs, 0 ≤ a ∧ a ≤ 7 := by simpa [leavesB] using h
theorem leavesB_no (zs : List Int) (j : Nat) (hj : j < zs.length) (h : ¬ (0 ≤ zs.getD j 0 ∧ zs.getD j 0 ≤ 7)) : leavesB zs = false := by
  cases hb : leavesB zs with
  | false => rfl
  | true => exact absurd ((leavesB_is hb).2 _ (by rw [getI _ _ hj]; exact List.getElem_mem hj)) h
theorem leavesB_all (zs : List Int) (h : ∀ j, j < zs.length → 0 ≤ zs.getD j 0 ∧ zs.getD j 0 ≤ 7) : leavesB zs = decide (zs.length = 12) := by
  have : (zs.all fun a => decide (0 ≤ a) && decide (a ≤ 7)) = true := by
    rw [List.all_eq_true]
    intro a ha
    obtain ⟨j, hj, rfl⟩ := List.getElem_of_mem ha
    have := h j hj
    rw [getI _ _ hj] at this
    simpa using this
  simp [leavesB, this]
set_option maxHeartbeats 400000 in
theorem implareLeaves_c (A : Option Addr) (n c : Nat) (zs : List Int) (w : World) (hx : Ints w A n zs) (hn : n ≤ 4611686018427387903) :
    Calls Try.prog 65 #[.slice A n c] w fun e w' => e = .returned (.bool (leavesB zs)) ∧ w = w' := by
  have HX := Lib.hid hx
  have HN := Lib.hid (leavesB_no zs)
  have HA := Lib.hid (leavesB_all zs)
  rw [hx.len] at HN HA
  clear hx
  go_enter Try.func65, Try.ntmps65
  go_wp2_with fail
  go_loop [7] (fun i => ∃ k : Nat, k ≤ n ∧ i = .int .i64 k ∧ Hid (∀ j, j < k → 0 ≤ zs.getD j 0 ∧ zs.getD j 0 ≤ 7)) (fun i => n - (intOf i).toNat)
  case atStart => exact ⟨0, Nat.zero_le _, rfl, fun j hj => by omega⟩
  case round =>
    obtain ⟨k, hk, rfl, hall⟩ := hrel
    by_cases hlt : k < n
    · obtain ⟨b, o, rfl, hb, c1⟩ := Ints.cell HX.out hlt
      have i1 : (k : Int) < (n : Int) := by omega
      obtain ⟨z, hz⟩ : ∃ z, zs.getD k 0 = z := ⟨_, rfl⟩
      rw [hz] at c1
      by_cases h0 : 0 ≤ z
      · by_cases h7 : z ≤ 7
        · have HE : Hid (∀ j, j < k + 1 → 0 ≤ zs.getD j 0 ∧ zs.getD j 0 ≤ 7) := fun j hj => by
            by_cases e : j = k
            · subst e; rw [hz]; exact ⟨h0, h7⟩
            · exact hall.out j (by omega)
          clear hz
          go_wp2_with go_in
          go_round
          case rel => exact ⟨k + 1, by omega, by go_num, HE.out⟩
          case measure => simp [intOf]; omega
        · have HE := Lib.hid (HN.out k hlt (by rw [hz]; omega))
          have h7' : decide (z ≤ 7) = false := by simp; omega
          clear hz
          go_wp2_with go_in
          go_ret
          exact ⟨retB HE.out.symm, rfl⟩
      · have HE := Lib.hid (HN.out k hlt (by rw [hz]; omega))
        clear hz
        go_wp2_with go_in
        go_ret
        exact ⟨retB HE.out.symm, rfl⟩
    · have hkn : k = n := by omega
      subst hkn
      have HE := Lib.hid (HA.out hall.out)
      go_wp2_with fail
      go_ret
      exact ⟨retB (by rw [HE.out, Bool.eq_iff_iff]; simp; omega), rfl⟩
theorem l01In_c (x a b : Int) (q : Bool) (w : World) (hq : (decide (a ≤ x) && decide (x ≤ b)) = q) : Calls Try.prog 54 #[.int .i64 x, .int .i64 a, .int .i64 b] w fun e w' => e = .returned (.bool q) ∧ w = w' := by
  cases d0 : decide (a ≤ x) with
  | false =>
    rw [d0] at hq
    go_enter Try.func54, Try.ntmps54
    go_wp2_with fail
    go_ret
    exact ⟨by rw [← hq]; rfl, rfl⟩
  | true =>
    rw [d0, Bool.true_and] at hq
    go_enter Try.func54, Try.ntmps54
    go_wp2_with fail
    go_ret
    exact ⟨by rw [← hq]; rfl, rfl⟩
theorem within_c (x a b : Int) (q : Bool) (w : World) (hq : (decide (a ≤ x) && decide (x ≤ b)) = q) : Calls Try.prog 55 #[.int .i64 x, .int .i64 a, .int .i64 b] w fun e w' => e = .returned (.bool q) ∧ w = w' := by
  cases d0 : decide (a ≤ x) with
  | false =>
    rw [d0] at hq
    go_enter Try.func55, Try.ntmps55
    go_wp2_with fail
    go_ret
    exact ⟨by rw [← hq]; rfl, rfl⟩
  | true =>
    rw [d0, Bool.true_and] at hq
    go_enter Try.func55, Try.ntmps55
    go_wp2_with fail
    go_ret
    exact ⟨by rw [← hq]; rfl, rfl⟩
def wordB (z : Int) : Bool := decide (0 ≤ z) && decide (z ≤ 4294967295)
theorem specIsWord_c (z : Int) (w : World) : Calls Try.prog 79 #[.int .i64 z] w fun e w' => e = .returned (.bool (wordB z)) ∧ w = w' := by
  unfold wordB
  by_cases h0 : 0 ≤ z
  · by_cases h1 : z ≤ 4294967295
    · have h1' : decide (z ≤ 4294967295) = true := by simp; omega
      go_enter Try.func79, Try.ntmps79
      go_wp2_with go_in
      go_ret
      exact ⟨retB (by simp <;> omega), rfl⟩
    · have h1' : decide (z ≤ 4294967295) = false := by simp; omega
      go_enter Try.func79, Try.ntmps79
      go_wp2_with go_in
      go_ret
      exact ⟨retB (by simp <;> omega), rfl⟩
  · have h0' : decide (0 ≤ z) = false := by simp; omega
    go_enter Try.func79, Try.ntmps79
    go_wp2_with go_in
    go_ret
    exact ⟨rfl, rfl⟩
theorem implIsWord_c (z : Int) (w : World) : Calls Try.prog 71 #[.int .i64 z] w fun e w' => e = .returned (.bool (wordB z)) ∧ w = w' := by
  unfold wordB
  by_cases h0 : 0 ≤ z
  · by_cases h1 : z ≤ 4294967295
    · have h1' : decide (z ≤ 4294967295) = true := by simp; omega
      go_enter Try.func71, Try.ntmps71
      go_wp2_with go_in
      go_ret
      exact ⟨retB (by simp <;> omega), rfl⟩
    · have h1' : decide (z ≤ 4294967295) = false := by simp; omega
      go_enter Try.func71, Try.ntmps71
      go_wp2_with go_in
      go_ret
      exact ⟨retB (by simp <;> omega), rfl⟩
  · have h0' : decide (0 ≤ z) = false := by simp; omega
    go_enter Try.func71, Try.ntmps71
    go_wp2_with go_in
    go_ret
    exact ⟨rfl, rfl⟩
def bkB (b : Int × Int) : Bool := decide (0 ≤ b.1) && decide (b.1 ≤ 11) && wordB b.2
theorem bkB_is {b : Int × Int} : bkB b = true ↔ bkOk b := by
  unfold bkB bkOk wordB
  simp [and_assoc]
theorem specl31Block_c (x y : Int) (w : World) : Calls Try.prog 69 #[.agg #[.int .i64 x, .int .i64 y]] w fun e w' => e = .returned (.bool (bkB (x, y))) ∧ w.grownBy w' none := by
  unfold bkB
  by_cases h0 : 0 ≤ x
  · by_cases h1 : x ≤ 11
    · have h1' : decide (x ≤ 11) = true := by simp; omega
      go_enter Try.func69, Try.ntmps69
      go_wp2_with (first | (go_at_call 79; refine (specIsWord_c y _).mono ?_; rintro e w1 ⟨rfl, rfl⟩) | go_in)
      go_ret
      exact ⟨retB (by simp [h0, h1] <;> omega), gbA (gbR _ _) _⟩
    · have h1' : decide (x ≤ 11) = false := by simp; omega
      go_enter Try.func69, Try.ntmps69
      go_wp2_with go_in
      go_ret
      exact ⟨retB (by simp [h0, h1] <;> omega), gbA (gbR _ _) _⟩
  · have h0' : decide (0 ≤ x) = false := by simp; omega
    go_enter Try.func69, Try.ntmps69
    go_wp2_with go_in
    go_ret
    exact ⟨retB (by simp [h0']), gbA (gbR _ _) _⟩
end Go.Proofs.Ythncoohkdmjcaaa
