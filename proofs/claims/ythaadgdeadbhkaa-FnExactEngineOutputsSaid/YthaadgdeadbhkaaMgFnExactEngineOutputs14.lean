/-
  Elements of a field: IsElement, l03Both, areElements, l03All, FAdd, FSub.
-/
import Derived.Test.YthaadgdeadbhkaaMgFnExactEngineOutputs13
namespace Go.Proofs.Ythaadgdeadbhkaa
open Go.RowKit
set_option linter.unusedVariables false
set_option linter.unusedSimpArgs false
def elemB (p a : Int) : Bool := fieldB p && decide (0 ≤ a) && decide (a ≤ p - 1)
theorem elemB_is {p a : Int} (h : elemB p a = true) : fieldB p = true ∧ 2 ≤ p ∧ p ≤ 101 ∧ 0 ≤ a ∧ a < p := by
  simp [elemB] at h
  have := field_range h.1.1
  exact ⟨h.1.1, this.1, this.2, h.1.2, by omega⟩
theorem elemB_mk {p a : Int} (h : fieldB p = true) (h0 : 0 ≤ a) (h1 : a < p) : elemB p a = true := by
  simp [elemB, h]; omega
theorem specIsElement_c (p a : Int) (w : World) (hp : p ≤ 9223372036854775807) :
    Calls Try.prog 128 #[.int .i64 p, .int .i64 a] w fun e w' => e = .returned (.bool (elemB p a)) ∧ w = w' := by
  cases hf : fieldB p with
  | false =>
    have HF := Lib.hid hf
    clear hf
    go_enter Try.func128, Try.ntmps128
    go_wp2_with fail
    refine (specFieldOk_c p _ hp).mono ?_
    rintro e w1 ⟨rfl, rfl⟩
    rw [HF.out]
    go_wp2_with fail
    go_ret
    exact ⟨retB (by simp [elemB, HF.out]), rfl⟩
  | true =>
    obtain ⟨h2, h3⟩ := field_range hf
    have HF := Lib.hid hf
    clear hf
    by_cases h0 : 0 ≤ a
    all_goals by_cases h1 : a ≤ p - 1
    all_goals (try (exfalso; omega))
    all_goals
      have H0 := Lib.hid h0
      have H1 := Lib.hid h1
      go_enter Try.func128, Try.ntmps128
      go_wp2_with fail
      refine (specFieldOk_c p _ hp).mono ?_
      rintro e w1 ⟨rfl, rfl⟩
      rw [HF.out]
      go_wp2
      go_ret
      have h0' := H0.out
      have h1' := H1.out
      exact ⟨retB (by simp [elemB, HF.out, h0', h1'] <;> omega), rfl⟩
theorem specl03Both_c (p a b : Int) (w : World) (hp : p ≤ 9223372036854775807) :
    Calls Try.prog 131 #[.int .i64 p, .int .i64 a, .int .i64 b] w fun e w' => e = .returned (.bool (elemB p a && elemB p b)) ∧ w = w' := by
  cases ha : elemB p a with
  | false =>
    have HA := Lib.hid ha
    clear ha
    go_enter Try.func131, Try.ntmps131
    go_wp2_with fail
    refine (specIsElement_c p a _ hp).mono ?_
    rintro e w1 ⟨rfl, rfl⟩
    rw [HA.out]
    go_wp2_with fail
    go_ret
    exact ⟨rfl, rfl⟩
  | true =>
    have HA := Lib.hid ha
    clear ha
    go_enter Try.func131, Try.ntmps131
    go_wp2_with fail
    refine (specIsElement_c p a _ hp).mono ?_
    rintro e w1 ⟨rfl, rfl⟩
    rw [HA.out]
    go_wp2_with fail
    refine (specIsElement_c p b _ hp).mono ?_
    rintro e w1 ⟨rfl, rfl⟩
    go_wp2_with fail
    go_ret
    exact ⟨rfl, rfl⟩
def elemsB (p : Int) (zs : List Int) : Bool := fieldB p && zs.all fun a => decide (0 ≤ a) && decide (a ≤ p - 1)
theorem elemsB_is {p : Int} {zs : List Int} (h : elemsB p zs = true) : fieldB p = true ∧ 2 ≤ p ∧ p ≤ 101 ∧ ∀ a ∈ zs, 0 ≤ a ∧ a < p := by
  simp only [elemsB, Bool.and_eq_true, List.all_eq_true, decide_eq_true_eq] at h
  have := field_range h.1
  exact ⟨h.1, this.1, this.2, fun a ha => by have := h.2 a ha; omega⟩
theorem elemsB_mk {p : Int} {zs : List Int} (h : fieldB p = true) (h1 : ∀ a ∈ zs, 0 ≤ a ∧ a < p) : elemsB p zs = true := by
  simp only [elemsB, Bool.and_eq_true, List.all_eq_true, decide_eq_true_eq]
  exact ⟨h, fun a ha => by have := h1 a ha; omega⟩
theorem elemsB_two (p a b : Int) : elemsB p [a, b] = (elemB p a && elemB p b) := by
  cases hf : fieldB p <;> simp [elemsB, elemB, hf, Bool.and_assoc]
theorem elemsB_out {p : Int} {zs : List Int} {k : Nat} (hk : k < zs.length) (h : ¬ (0 ≤ zs.getD k 0 ∧ zs.getD k 0 ≤ p - 1)) : elemsB p zs = false := by
  cases hb : elemsB p zs with
  | false => rfl
  | true =>
    have := (elemsB_is hb).2.2.2 zs[k] (List.getElem_mem hk)
    rw [getI zs k hk] at h
    omega
theorem elemsB_all {p : Int} {zs : List Int} {n : Nat} (hf : fieldB p = true) (hl : zs.length = n) (h : ∀ j, j < n → 0 ≤ zs.getD j 0 ∧ zs.getD j 0 ≤ p - 1) : elemsB p zs = true := by
  refine elemsB_mk hf fun a ha => ?_
  obtain ⟨j, hj, rfl⟩ := List.getElem_of_mem ha
  have := h j (by omega)
  rw [getI zs j hj] at this
  omega
set_option maxHeartbeats 400000 in
theorem implareElements_c (p : Int) (A : Option Addr) (n c : Nat) (zs : List Int) (w : World) (hp : p ≤ 9223372036854775807) (hp0 : -9223372036854775808 ≤ p) (hx : Ints w A n zs) (hn : n ≤ 4611686018427387903) :
    Calls Try.prog 49 #[.int .i64 p, .slice A n c] w fun e w' => e = .returned (.bool (elemsB p zs)) ∧ w = w' := by
  have LX := Lib.hid hx.len
  cases hf : fieldB p with
  | false =>
    have HF := Lib.hid hf
    have HE : Hid (elemsB p zs = false) := by simp [Hid, elemsB, hf]
    clear hf
    go_enter Try.func49, Try.ntmps49
    go_wp2_with fail
    go_loop [9] (fun i => ∃ k : Nat, k ≤ n ∧ i = .int .i64 k) (fun i => n - (intOf i).toNat)
    case atStart => exact ⟨0, Nat.zero_le _, rfl⟩
    case round =>
      obtain ⟨k, hk, rfl⟩ := hrel
      by_cases hlt : k < n
      · obtain ⟨b, o, rfl, hb, c1⟩ := hx.cell hlt
        have i1 : (k : Int) < (n : Int) := by omega
        generalize hz : zs.getD k 0 = z at *
        clear hz
        go_wp2_with go_in
        all_goals first
          | (go_round
             case rel => exact ⟨k + 1, by omega, by go_num⟩
             case measure => simp [intOf]; omega)
          | (go_ret
             exact ⟨retB HE.out.symm, rfl⟩)
      · have hkn : k = n := by omega
        subst hkn
        go_wp2_with fail
        refine (implFieldOk_c p _ hp).mono ?_
        rintro e w1 ⟨rfl, rfl⟩
        rw [HF.out]
        go_wp2_with fail
        go_ret
        exact ⟨retB HE.out.symm, rfl⟩
  | true =>
    obtain ⟨h2, h3⟩ := field_range hf
    have HF := Lib.hid hf
    clear hf
    go_enter Try.func49, Try.ntmps49
    go_wp2_with fail
    go_loop [9] (fun i => ∃ k : Nat, k ≤ n ∧ i = .int .i64 k ∧ Hid (∀ j, j < k → 0 ≤ zs.getD j 0 ∧ zs.getD j 0 ≤ p - 1)) (fun i => n - (intOf i).toNat)
    case atStart => exact ⟨0, Nat.zero_le _, rfl, fun j hj => by omega⟩
    case round =>
      obtain ⟨k, hk, rfl, hall⟩ := hrel
      by_cases hlt : k < n
      · obtain ⟨b, o, rfl, hb, c1⟩ := hx.cell hlt
        have i1 : (k : Int) < (n : Int) := by omega
        by_cases hin : 0 ≤ zs.getD k 0 ∧ zs.getD k 0 ≤ p - 1
        · have HI := Lib.hid hin
          obtain ⟨g0, g1⟩ := hin
          generalize hz : zs.getD k 0 = z at *
          have HZ := Lib.hid hz
          clear hz
          have d0 : decide (0 ≤ z) = true := by simp; omega
          have d1 : decide (z ≤ p - 1) = true := by simp; omega
          go_wp2_with go_in
          go_round
          case rel => exact ⟨k + 1, by omega, by go_num, fun j hj => by
            by_cases e : j = k
            · subst e; rw [HZ.out]; exact HI.out
            · exact hall.out j (by omega)⟩
          case measure => simp [intOf]; omega
        · have HI := Lib.hid hin
          generalize hz : zs.getD k 0 = z at *
          have HZ := Lib.hid hz
          clear hz
          by_cases g0 : 0 ≤ z
          · have d0 : decide (0 ≤ z) = true := by simp; omega
            have d1 : decide (z ≤ p - 1) = false := by simp; omega
            clear hin
            go_wp2_with go_in
            go_ret
            have := LX.out
            exact ⟨retB (elemsB_out (k := k) (by omega) (by rw [HZ.out]; exact HI.out)).symm, rfl⟩
          · have d0 : decide (0 ≤ z) = false := by simp; omega
            clear hin
            go_wp2_with go_in
            go_ret
            have := LX.out
            exact ⟨retB (elemsB_out (k := k) (by omega) (by rw [HZ.out]; exact HI.out)).symm, rfl⟩
      · have hkn : k = n := by omega
        subst hkn
        go_wp2_with fail
        refine (implFieldOk_c p _ hp).mono ?_
        rintro e w1 ⟨rfl, rfl⟩
        rw [HF.out]
        go_wp2_with fail
        go_ret
        exact ⟨retB (elemsB_all HF.out LX.out hall.out).symm, rfl⟩
set_option maxHeartbeats 400000 in
theorem specl03All_c (p : Int) (A : Option Addr) (n c : Nat) (zs : List Int) (w : World) (hp : p ≤ 9223372036854775807) (hx : Ints w A n zs) (hn : n ≤ 4611686018427387903) :
    Calls Try.prog 79 #[.int .i64 p, .slice A n c] w fun e w' => e = .returned (.bool (elemsB p zs)) ∧ w = w' := by
  have LX := Lib.hid hx.len
  go_enter Try.func79, Try.ntmps79
  go_wp2_with fail
  go_loop [5] (fun i => ∃ k : Nat, k ≤ n ∧ i = .int .i64 k ∧ Hid (∀ j, j < k → elemB p (zs.getD j 0) = true)) (fun i => n - (intOf i).toNat)
  case atStart => exact ⟨0, Nat.zero_le _, rfl, fun j hj => by omega⟩
  case round =>
    obtain ⟨k, hk, rfl, hall⟩ := hrel
    by_cases hlt : k < n
    · obtain ⟨b, o, rfl, hb, c1⟩ := hx.cell hlt
      have i1 : (k : Int) < (n : Int) := by omega
      generalize hz : zs.getD k 0 = z at *
      have HZ := Lib.hid hz
      clear hz
      go_wp2_with fail
      refine (specIsElement_c p z _ hp).mono ?_
      rintro e w1 ⟨rfl, rfl⟩
      cases he : elemB p z with
      | true =>
        have HE := Lib.hid he
        clear he
        go_wp2_with fail
        go_round
        case rel => exact ⟨k + 1, by omega, by go_num, fun j hj => by
          by_cases e : j = k
          · subst e; rw [HZ.out]; exact HE.out
          · exact hall.out j (by omega)⟩
        case measure => simp [intOf]; omega
      | false =>
        have HE := Lib.hid he
        clear he
        go_wp2_with fail
        go_ret
        have := LX.out
        refine ⟨retB ?_, rfl⟩
        cases hb : elemsB p zs with
        | false => rfl
        | true =>
          have h := elemsB_is hb
          have h1 := HE.out
          have h2 := h.2.2.2 zs[k] (List.getElem_mem (by omega))
          rw [← getI zs k (by omega), HZ.out] at h2
          rw [elemB_mk h.1 h2.1 h2.2] at h1
          cases h1
    · have hkn : k = n := by omega
      subst hkn
      go_wp2_with fail
      refine (specFieldOk_c p _ hp).mono ?_
      rintro e w1 ⟨rfl, rfl⟩
      go_wp2_with fail
      go_ret
      refine ⟨retB ?_, rfl⟩
      cases hf : fieldB p with
      | false => simp [elemsB, hf]
      | true =>
        refine (elemsB_all hf LX.out fun j hj => ?_).symm
        have := elemB_is (hall.out j hj)
        omega
theorem ints2 (w : World) (t : TypeId) (a b : Int) : Ints (w.alloc (.cells #[.int .i64 a, .int .i64 b] t)) (some ⟨w.heap.size, 0, none⟩) 2 [a, b] := by
  refine ⟨by simp, fun _ => ⟨w.heap.size, 0, rfl, by simp, fun j hj => ?_⟩⟩
  rw [cell_of_row _ _ _ _ t (0, 0) (heap_alloc_new w _)]
  rcases (show j = 0 ∨ j = 1 by omega) with rfl | rfl <;> rfl
end Go.Proofs.Ythaadgdeadbhkaa
