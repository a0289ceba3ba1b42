/-
  Elements of a field: IsElement, l03Both, areElements, l03All, FAdd, FSub.
-/
import Derived.Test.YthncoohkdmjcaaaMgFnMemory16
import Derived.Test.YthncoohkdmjcaaaMgFnMemory9
namespace Go.Proofs.Ythncoohkdmjcaaa
open Go.RowKit
set_option linter.unusedVariables false
set_option linter.unusedSimpArgs false
def elemB (p a : Int) : Bool := fieldB p && decide (0 ≤ a) && decide (a ≤ p - 1)
theorem elemB_is {p a : Int} (h : elemB p a = true) : fieldB p = true ∧ 2 ≤ p ∧ p ≤ 101 ∧ 0 ≤ a ∧ a < p := by
  simp [elemB] at h
  have := field_range h.1.1
  exact ⟨h.1.1, this.1, this.2, h.1.2, by omega⟩
theorem elemB_mk {p a : Int} (h : fieldB p = true) (h0 : 0 ≤ a) (h1 : a < p) : elemB p a = true := by
  simp [elemB, h]; omega
theorem specIsElement_c (p a : Int) (w : World) (hp : p ≤ 9223372036854775807) :
    Calls Try.prog 86 #[.int .i64 p, .int .i64 a] w fun e w' => e = .returned (.bool (elemB p a)) ∧ w = w' := by
  cases hf : fieldB p with
  | false =>
    have HF := Lib.hid hf
    clear hf
    go_enter Try.func86, Try.ntmps86
    go_wp2_with fail
    refine (specFieldOk_c p _ hp).mono ?_
    rintro e w1 ⟨rfl, rfl⟩
    rw [HF.out]
    go_wp2_with fail
    go_ret
    exact ⟨retB (by simp [elemB, HF.out]), rfl⟩
  | true =>
    obtain ⟨h2, h3⟩ := field_range hf
    have HF := Lib.hid hf
    clear hf
    by_cases h0 : 0 ≤ a
    all_goals by_cases h1 : a ≤ p - 1
    all_goals (try (exfalso; omega))
    all_goals
      have H0 := Lib.hid h0
      have H1 := Lib.hid h1
      go_enter Try.func86, Try.ntmps86
      go_wp2_with fail
      refine (specFieldOk_c p _ hp).mono ?_
      rintro e w1 ⟨rfl, rfl⟩
      rw [HF.out]
      go_wp2
      go_ret
      have h0' := H0.out
      have h1' := H1.out
      exact ⟨retB (by simp [elemB, HF.out, h0', h1'] <;> omega), rfl⟩
theorem specl03Both_c (p a b : Int) (w : World) (hp : p ≤ 9223372036854775807) :
    Calls Try.prog 103 #[.int .i64 p, .int .i64 a, .int .i64 b] w fun e w' => e = .returned (.bool (elemB p a && elemB p b)) ∧ w = w' := by
  cases ha : elemB p a with
  | false =>
    have HA := Lib.hid ha
    clear ha
    go_enter Try.func103, Try.ntmps103
    go_wp2_with fail
    refine (specIsElement_c p a _ hp).mono ?_
    rintro e w1 ⟨rfl, rfl⟩
    rw [HA.out]
    go_wp2_with fail
    go_ret
    exact ⟨rfl, rfl⟩
  | true =>
    have HA := Lib.hid ha
    clear ha
    go_enter Try.func103, Try.ntmps103
    go_wp2_with fail
    refine (specIsElement_c p a _ hp).mono ?_
    rintro e w1 ⟨rfl, rfl⟩
    rw [HA.out]
    go_wp2_with fail
    refine (specIsElement_c p b _ hp).mono ?_
    rintro e w1 ⟨rfl, rfl⟩
    go_wp2_with fail
    go_ret
    exact ⟨rfl, rfl⟩
/-- All of the list are numbers from 0 to p - 1, and p is a prime. -/
def elemsB (p : Int) (zs : List Int) : Bool := fieldB p && zs.all fun a => decide (0 ≤ a) && decide (a ≤ p - 1)
theorem elemsB_is {p : Int} {zs : List Int} (h : elemsB p zs = true) : fieldB p = true ∧ 2 ≤ p ∧ p ≤ 101 ∧ ∀ a ∈ zs, 0 ≤ a ∧ a < p := by
  simp only [elemsB, Bool.and_eq_true, List.all_eq_true, decide_eq_true_eq] at h
  have := field_range h.1
  exact ⟨h.1, this.1, this.2, fun a ha => by have := h.2 a ha; omega⟩
theorem elemsB_mk {p : Int} {zs : List Int} (h : fieldB p = true) (h1 : ∀ a ∈ zs, 0 ≤ a ∧ a < p) : elemsB p zs = true := by
  simp only [elemsB, Bool.and_eq_true, List.all_eq_true, decide_eq_true_eq]
  exact ⟨h, fun a ha => by have := h1 a ha; omega⟩
theorem elemsB_two (p a b : Int) : elemsB p [a, b] = (elemB p a && elemB p b) := by
  cases hf : fieldB p <;> simp [elemsB, elemB, hf, Bool.and_assoc]
theorem elemsB_out {p : Int} {zs : List Int} {k : Nat} (hk : k < zs.length) (h : ¬ (0 ≤ zs.getD k 0 ∧ zs.getD k 0 ≤ p - 1)) : elemsB p zs = false := by
  cases hb : elemsB p zs with
  | false => rfl
  | true =>
    have := (elemsB_is hb).2.2.2 zs[k] (List.getElem_mem hk)
    rw [getI zs k hk] at h
    omega
theorem elemsB_all {p : Int} {zs : List Int} {n : Nat} (hf : fieldB p = true) (hl : zs.length = n) (h : ∀ j, j < n → 0 ≤ zs.getD j 0 ∧ zs.getD j 0 ≤ p - 1) : elemsB p zs = true := by
  refine elemsB_mk hf fun a ha => ?_
  obtain ⟨j, hj, rfl⟩ := List.getElem_of_mem ha
  have := h j (by omega)
  rw [getI zs j hj] at this
  omega
set_option maxHeartbeats 400000 in
theorem implareElements_c (p : Int) (A : Option Addr) (n c : Nat) (zs : List Int) (w : World) (hp : p ≤ 9223372036854775807) (hp0 : -9223372036854775808 ≤ p) (hx : Ints w A n zs) (hn : n ≤ 4611686018427387903) :
    Calls Try.prog 91 #[.int .i64 p, .slice A n c] w fun e w' => e = .returned (.bool (elemsB p zs)) ∧ w = w' := by
  have LX := Lib.hid hx.len
  cases hf : fieldB p with
  | false =>
    have HF := Lib.hid hf
    have HE : Hid (elemsB p zs = false) := by simp [Hid, elemsB, hf]
    clear hf
    go_enter Try.func91, Try.ntmps91
    go_wp2_with fail
    go_loop [9] (fun i => ∃ k : Nat, k ≤ n ∧ i = .int .i64 k) (fun i => n - (intOf i).toNat)
    case atStart => exact ⟨0, Nat.zero_le _, rfl⟩
    case round =>
      obtain ⟨k, hk, rfl⟩ := hrel
      by_cases hlt : k < n
      · obtain ⟨b, o, rfl, hb, c1⟩ := hx.cell hlt
        have i1 : (k : Int) < (n : Int) := by omega
        generalize hz : zs.getD k 0 = z at *
        clear hz
        go_wp2_with go_in
        all_goals first
          | (go_round
             case rel => exact ⟨k + 1, by omega, by go_num⟩
             case measure => simp [intOf]; omega)
          | (go_ret
             exact ⟨retB HE.out.symm, rfl⟩)
      · have hkn : k = n := by omega
        subst hkn
        go_wp2_with fail
        refine (implFieldOk_c p _ hp).mono ?_
        rintro e w1 ⟨rfl, rfl⟩
        rw [HF.out]
        go_wp2_with fail
        go_ret
        exact ⟨retB HE.out.symm, rfl⟩
  | true =>
    obtain ⟨h2, h3⟩ := field_range hf
    have HF := Lib.hid hf
    clear hf
    go_enter Try.func91, Try.ntmps91
    go_wp2_with fail
    go_loop [9] (fun i => ∃ k : Nat, k ≤ n ∧ i = .int .i64 k ∧ Hid (∀ j, j < k → 0 ≤ zs.getD j 0 ∧ zs.getD j 0 ≤ p - 1)) (fun i => n - (intOf i).toNat)
    case atStart => exact ⟨0, Nat.zero_le _, rfl, fun j hj => by omega⟩
    case round =>
      obtain ⟨k, hk, rfl, hall⟩ := hrel
      by_cases hlt : k < n
      · obtain ⟨b, o, rfl, hb, c1⟩ := hx.cell hlt
        have i1 : (k : Int) < (n : Int) := by omega
        by_cases hin : 0 ≤ zs.getD k 0 ∧ zs.getD k 0 ≤ p - 1
        · have HI := Lib.hid hin
          obtain ⟨g0, g1⟩ := hin
          generalize hz : zs.getD k 0 = z at *
          have HZ := Lib.hid hz
          clear hz
          have d0 : decide (0 ≤ z) = true := by simp; omega
          have d1 : decide (z ≤ p - 1) = true := by simp; omega
          go_wp2_with go_in
          go_round
          case rel => exact ⟨k + 1, by omega, by go_num, fun j hj => by
            by_cases e : j = k
            · subst e; rw [HZ.out]; exact HI.out
            · exact hall.out j (by omega)⟩
          case measure => simp [intOf]; omega
        · have HI := Lib.hid hin
          generalize hz : zs.getD k 0 = z at *
          have HZ := Lib.hid hz
          clear hz
          by_cases g0 : 0 ≤ z
          · have d0 : decide (0 ≤ z) = true := by simp; omega
            have d1 : decide (z ≤ p - 1) = false := by simp; omega
            clear hin
            go_wp2_with go_in
            go_ret
            have := LX.out
            exact ⟨retB (elemsB_out (k := k) (by omega) (by rw [HZ.out]; exact HI.out)).symm, rfl⟩
          · have d0 : decide (0 ≤ z) = false := by simp; omega
            clear hin
            go_wp2_with go_in
            go_ret
            have := LX.out
            exact ⟨retB (elemsB_out (k := k) (by omega) (by rw [HZ.out]; exact HI.out)).symm, rfl⟩
      · have hkn : k = n := by omega
        subst hkn
        go_wp2_with fail
        refine (implFieldOk_c p _ hp).mono ?_
        rintro e w1 ⟨rfl, rfl⟩
        rw [HF.out]
        go_wp2_with fail
        go_ret
        exact ⟨retB (elemsB_all HF.out LX.out hall.out).symm, rfl⟩
set_option maxHeartbeats 400000 in
theorem specl03All_c (p : Int) (A : Option Addr) (n c : Nat) (zs : List Int) (w : World) (hp : p ≤ 9223372036854775807) (hx : Ints w A n zs) (hn : n ≤ 4611686018427387903) :
    Calls Try.prog 104 #[.int .i64 p, .slice A n c] w fun e w' => e = .returned (.bool (elemsB p zs)) ∧ w = w' := by
  have LX := Lib.hid hx.len
  go_enter Try.func104, Try.ntmps104
  go_wp2_with fail
  go_loop [5] (fun i => ∃ k : Nat, k ≤ n ∧ i = .int .i64 k ∧ Hid (∀ j, j < k → elemB p (zs.getD j 0) = true)) (fun i => n - (intOf i).toNat)
  case atStart => exact ⟨0, Nat.zero_le _, rfl, fun j hj => by omega⟩
  case round =>
    obtain ⟨k, hk, rfl, hall⟩ := hrel
    by_cases hlt : k < n
    · obtain ⟨b, o, rfl, hb, c1⟩ := hx.cell hlt
      have i1 : (k : Int) < (n : Int) := by omega
      generalize hz : zs.getD k 0 = z at *
      have HZ := Lib.hid hz
      clear hz
      go_wp2_with fail
      refine (specIsElement_c p z _ hp).mono ?_
      rintro e w1 ⟨rfl, rfl⟩
      cases he : elemB p z with
      | true =>
        have HE := Lib.hid he
        clear he
        go_wp2_with fail
        go_round
        case rel => exact ⟨k + 1, by omega, by go_num, fun j hj => by
          by_cases e : j = k
          · subst e; rw [HZ.out]; exact HE.out
          · exact hall.out j (by omega)⟩
        case measure => simp [intOf]; omega
      | false =>
        have HE := Lib.hid he
        clear he
        go_wp2_with fail
        go_ret
        have := LX.out
        refine ⟨retB ?_, rfl⟩
        cases hb : elemsB p zs with
        | false => rfl
        | true =>
          have h := elemsB_is hb
          have h1 := HE.out
          have h2 := h.2.2.2 zs[k] (List.getElem_mem (by omega))
          rw [← getI zs k (by omega), HZ.out] at h2
          rw [elemB_mk h.1 h2.1 h2.2] at h1
          cases h1
    · have hkn : k = n := by omega
      subst hkn
      go_wp2_with fail
      refine (specFieldOk_c p _ hp).mono ?_
      rintro e w1 ⟨rfl, rfl⟩
      go_wp2_with fail
      go_ret
      refine ⟨retB ?_, rfl⟩
      cases hf : fieldB p with
      | false => simp [elemsB, hf]
      | true =>
        refine (elemsB_all hf LX.out fun j hj => ?_).symm
        have := elemB_is (hall.out j hj)
        omega
theorem ints2 (w : World) (t : TypeId) (a b : Int) : Ints (w.alloc (.cells #[.int .i64 a, .int .i64 b] t)) (some ⟨w.heap.size, 0, none⟩) 2 [a, b] := by
  refine ⟨by simp, fun _ => ⟨w.heap.size, 0, rfl, by simp, fun j hj => ?_⟩⟩
  rw [cell_of_row _ _ _ _ t (0, 0) (heap_alloc_new w _)]
  rcases (show j = 0 ∨ j = 1 by omega) with rfl | rfl <;> rfl
end Go.Proofs.Ythncoohkdmjcaaa
/-
  OramPath: reference and program; its exact law.
-/
namespace Go.Proofs.Ythncoohkdmjcaaa
open Go.RowKit
set_option linter.unusedVariables false
set_option linter.unusedSimpArgs false
/-- From bucket n up to the root. -/
def chain (n : Nat) : List Int := if h : n = 0 then [0] else (n : Int) :: chain ((n - 1) / 2)
theorem chain_zero : chain 0 = [0] := by rw [chain]; simp
theorem chain_pos {n : Nat} (h : 0 < n) : chain n = (n : Int) :: chain ((n - 1) / 2) := by rw [chain, dif_neg (by omega)]
theorem chain_len : ∀ n : Nat, n ≤ 14 → (chain n).length ≤ 4 := by
  intro n hn
  have h : ∀ m, m ≤ 14 → m = 0 ∨ ((m - 1) / 2 = 0) ∨ (((m - 1) / 2 - 1) / 2 = 0) ∨ ((((m - 1) / 2 - 1) / 2 - 1) / 2 = 0) := by omega
  rw [chain]
  split
  · simp
  · rw [chain]
    split
    · simp
    · rw [chain]
      split
      · simp
      · rw [chain]
        have := h n hn
        rw [dif_pos (by omega)]
        simp
def opathI (leaf : Int) : List Int := (opath leaf).map fun n : Nat => (n : Int)
theorem opathI_yes {leaf : Int} (h0 : 0 ≤ leaf) (h1 : leaf ≤ 7) : opathI leaf = chain (leaf.toNat + 7) := by
  have hk : leaf = 0 ∨ leaf = 1 ∨ leaf = 2 ∨ leaf = 3 ∨ leaf = 4 ∨ leaf = 5 ∨ leaf = 6 ∨ leaf = 7 := by omega
  rcases hk with rfl | rfl | rfl | rfl | rfl | rfl | rfl | rfl <;> decide +kernel
theorem opathI_no {leaf : Int} (h : ¬ (0 ≤ leaf ∧ leaf ≤ 7)) : opathI leaf = [] := by simp [opathI, opath, h]
theorem opathI_len (leaf : Int) : (opathI leaf).length ≤ 4 := by
  unfold opathI opath
  split <;> simp
set_option maxHeartbeats 400000 in
theorem specOramPath_yes (leaf : Int) (w : World) (h0 : 0 ≤ leaf) (h1 : leaf ≤ 7) :
    Calls Try.prog 16 #[.int .i64 leaf] w fun e w' => ∃ v, e = .returned v ∧ w'.ownsRow w.heap.size 3 1 v (opathI leaf).length ((opathI leaf).map (Value.int .i64)) ∧ w.grownBy w' none := by
  obtain ⟨l, rfl⟩ := Int.eq_ofNat_of_zero_le h0
  have HP := Lib.hid (opathI_yes h0 h1)
  rw [Int.toNat_natCast] at HP
  have hl : l ≤ 7 := by omega
  go_enter Try.func16, Try.ntmps16
  go_wp2_with go_in
  go_loopw [3, 4] (fun s i wr => ∃ (d : List Int) (m : Nat), m ≤ 14 ∧ i = .int .i64 m ∧ Hid (d ++ chain m = chain (l + 7)) ∧ d.length ≤ 4 ∧ wr.ownsRow w.heap.size 3 1 s d.length (d.map (Value.int .i64)) ∧ w.grownBy wr none) (fun _ i _ => (intOf i).toNat)
  case atStart => exact ⟨[], l + 7, by omega, by go_num, rfl, by simp, World.ownsRow_made w #[] 0 (Nat.le_refl _) (by simp) rfl, gbA (gbR _ _) _⟩
  case round =>
    obtain ⟨d, m, hm, rfl, hd, hdl, hown, hg⟩ := hrel
    by_cases hlt : 0 < m
    · have i1 : (0 : Int) < (m : Int) := by omega
      go_wp2_with (at_builtin; refine wp_append1 wr el_int rfl (.tmp 14) (.tmp 16) rfl _ rfl (by simp [Value.oneCell']) w.heap.size _ d.length _ hown rfl rfl (by unfold maxLen; omega) (by omega) hg.size ?_; intro v' w1 hown1 hgrow)
      have h1 := Lib.hid (show w1.ownsRow w.heap.size 3 1 v' (d ++ [(m : Int)]).length ((d ++ [(m : Int)]).map (Value.int .i64)) by simpa using hown1)
      have h2 := Lib.hid (gbN hg hgrow fun g e => (hown.lt g e).1)
      have h3 : Hid (d ++ [(m : Int)] ++ chain ((m - 1) / 2) = chain (l + 7)) := by have := hd.out; rw [chain_pos hlt] at this; unfold Hid; rw [← this]; simp
      have h4 : (d ++ [(m : Int)]).length ≤ 4 := by
        have := congrArg List.length h3.out
        have h5 := chain_len (l + 7) (by omega)
        have h6 : 0 < (chain ((m - 1) / 2)).length := by rw [chain]; split <;> simp
        rw [List.length_append] at this
        omega
      clear hown1 hgrow hown hg
      go_wp2_with fail
      go_roundw
      case rel => exact ⟨d ++ [(m : Int)], (m - 1) / 2, by omega, by go_num, h3, h4, h1.out, h2.out⟩
      case measure => simp [intOf]; omega
    · have hm0 : m = 0 := by omega
      subst hm0
      go_wp2_with (at_builtin; refine wp_append1 wr el_int rfl (.tmp 21) (.tmp 22) rfl _ rfl (by simp [Value.oneCell']) w.heap.size _ d.length _ hown rfl rfl (by unfold maxLen; omega) (by omega) hg.size ?_; intro v' w1 hown1 hgrow)
      have h1 := Lib.hid (show w1.ownsRow w.heap.size 3 1 v' (d ++ [(0 : Int)]).length ((d ++ [(0 : Int)]).map (Value.int .i64)) by simpa using hown1)
      have h2 := Lib.hid (gbN hg hgrow fun g e => (hown.lt g e).1)
      have h3 : Hid (opathI l = d ++ [0]) := by have := hd.out; rw [chain_zero] at this; unfold Hid; rw [HP.out, this]
      clear hown1 hgrow hown hg
      go_wp2_with fail
      go_ret
      rw [h3.out]
      exact ⟨v', rfl, h1.out, h2.out⟩
theorem specOramPath_no (leaf : Int) (w : World) (h : ¬ (0 ≤ leaf ∧ leaf ≤ 7)) :
    Calls Try.prog 16 #[.int .i64 leaf] w fun e w' => ∃ v, e = .returned v ∧ w'.ownsRow w.heap.size 3 1 v (opathI leaf).length ((opathI leaf).map (Value.int .i64)) ∧ w.grownBy w' none := by
  rw [opathI_no h]
  by_cases h0 : 0 ≤ leaf
  · have h1 : decide (leaf ≤ 7) = false := by simp; omega
    clear h
    go_enter Try.func16, Try.ntmps16
    go_wp2_with go_in
    go_ret
    first
      | exact ⟨_, rfl, World.ownsRow_made w #[] 0 (Nat.le_refl _) (by simp) rfl, gbA (gbR _ _) _⟩
      | exact ⟨_, rfl, World.ownsRow_nil _ _ _ _, gbR _ _⟩
  · clear h
    go_enter Try.func16, Try.ntmps16
    go_wp2_with go_in
    go_ret
    first
      | exact ⟨_, rfl, World.ownsRow_made w #[] 0 (Nat.le_refl _) (by simp) rfl, gbA (gbR _ _) _⟩
      | exact ⟨_, rfl, World.ownsRow_nil _ _ _ _, gbR _ _⟩
theorem specOramPath_c (leaf : Int) (w : World) :
    Calls Try.prog 16 #[.int .i64 leaf] w fun e w' => ∃ v, e = .returned v ∧ w'.ownsRow w.heap.size 3 1 v (opathI leaf).length ((opathI leaf).map (Value.int .i64)) ∧ w.grownBy w' none := by
  by_cases h : 0 ≤ leaf ∧ leaf ≤ 7
  · exact specOramPath_yes leaf w h.1 h.2
  · exact specOramPath_no leaf w h
set_option maxHeartbeats 400000 in
theorem implOramPath_yes (leaf : Int) (w : World) (h0 : 0 ≤ leaf) (h1 : leaf ≤ 7) :
    Calls Try.prog 17 #[.int .i64 leaf] w fun e w' => ∃ v, e = .returned v ∧ w'.ownsRow w.heap.size 3 1 v (opathI leaf).length ((opathI leaf).map (Value.int .i64)) ∧ w.grownBy w' none := by
  obtain ⟨l, rfl⟩ := Int.eq_ofNat_of_zero_le h0
  have HP := Lib.hid (opathI_yes h0 h1)
  rw [Int.toNat_natCast] at HP
  have hl : l ≤ 7 := by omega
  go_enter Try.func17, Try.ntmps17
  go_wp2_with go_in
  go_loopw [3, 4] (fun s i wr => ∃ (d : List Int) (m : Nat), m ≤ 14 ∧ i = .int .i64 m ∧ Hid (d ++ chain m = chain (l + 7)) ∧ d.length ≤ 4 ∧ wr.ownsRow w.heap.size 3 1 s d.length (d.map (Value.int .i64)) ∧ w.grownBy wr none) (fun _ i _ => (intOf i).toNat)
  case atStart => exact ⟨[], l + 7, by omega, by go_num, rfl, by simp, World.ownsRow_made w #[] 0 (Nat.le_refl _) (by simp) rfl, gbA (gbR _ _) _⟩
  case round =>
    obtain ⟨d, m, hm, rfl, hd, hdl, hown, hg⟩ := hrel
    by_cases hlt : 0 < m
    · have i1 : (0 : Int) < (m : Int) := by omega
      go_wp2_with (at_builtin; refine wp_append1 wr el_int rfl (.tmp 16) (.tmp 18) rfl _ rfl (by simp [Value.oneCell']) w.heap.size _ d.length _ hown rfl rfl (by unfold maxLen; omega) (by omega) hg.size ?_; intro v' w1 hown1 hgrow)
      have h1 := Lib.hid (show w1.ownsRow w.heap.size 3 1 v' (d ++ [(m : Int)]).length ((d ++ [(m : Int)]).map (Value.int .i64)) by simpa using hown1)
      have h2 := Lib.hid (gbN hg hgrow fun g e => (hown.lt g e).1)
      have h3 : Hid (d ++ [(m : Int)] ++ chain ((m - 1) / 2) = chain (l + 7)) := by have := hd.out; rw [chain_pos hlt] at this; unfold Hid; rw [← this]; simp
      have h4 : (d ++ [(m : Int)]).length ≤ 4 := by
        have := congrArg List.length h3.out
        have h5 := chain_len (l + 7) (by omega)
        have h6 : 0 < (chain ((m - 1) / 2)).length := by rw [chain]; split <;> simp
        rw [List.length_append] at this
        omega
      clear hown1 hgrow hown hg
      go_wp2_with fail
      go_roundw
      case rel => exact ⟨d ++ [(m : Int)], (m - 1) / 2, by omega, by go_num, h3, h4, h1.out, h2.out⟩
      case measure => simp [intOf]; omega
    · have hm0 : m = 0 := by omega
      subst hm0
      go_wp2_with (at_builtin; refine wp_append1 wr el_int rfl (.tmp 20) (.tmp 21) rfl _ rfl (by simp [Value.oneCell']) w.heap.size _ d.length _ hown rfl rfl (by unfold maxLen; omega) (by omega) hg.size ?_; intro v' w1 hown1 hgrow)
      have h1 := Lib.hid (show w1.ownsRow w.heap.size 3 1 v' (d ++ [(0 : Int)]).length ((d ++ [(0 : Int)]).map (Value.int .i64)) by simpa using hown1)
      have h2 := Lib.hid (gbN hg hgrow fun g e => (hown.lt g e).1)
      have h3 : Hid (opathI l = d ++ [0]) := by have := hd.out; rw [chain_zero] at this; unfold Hid; rw [HP.out, this]
      clear hown1 hgrow hown hg
      go_wp2_with fail
      go_ret
      rw [h3.out]
      exact ⟨v', rfl, h1.out, h2.out⟩
theorem implOramPath_no (leaf : Int) (w : World) (h : ¬ (0 ≤ leaf ∧ leaf ≤ 7)) :
    Calls Try.prog 17 #[.int .i64 leaf] w fun e w' => ∃ v, e = .returned v ∧ w'.ownsRow w.heap.size 3 1 v (opathI leaf).length ((opathI leaf).map (Value.int .i64)) ∧ w.grownBy w' none := by
  rw [opathI_no h]
  by_cases h0 : 0 ≤ leaf
  · have h1 : decide (leaf ≤ 7) = false := by simp; omega
    clear h
    go_enter Try.func17, Try.ntmps17
    go_wp2_with go_in
    go_ret
    first
      | exact ⟨_, rfl, World.ownsRow_made w #[] 0 (Nat.le_refl _) (by simp) rfl, gbA (gbR _ _) _⟩
      | exact ⟨_, rfl, World.ownsRow_nil _ _ _ _, gbR _ _⟩
  · clear h
    go_enter Try.func17, Try.ntmps17
    go_wp2_with go_in
    go_ret
    first
      | exact ⟨_, rfl, World.ownsRow_made w #[] 0 (Nat.le_refl _) (by simp) rfl, gbA (gbR _ _) _⟩
      | exact ⟨_, rfl, World.ownsRow_nil _ _ _ _, gbR _ _⟩
theorem implOramPath_c (leaf : Int) (w : World) :
    Calls Try.prog 17 #[.int .i64 leaf] w fun e w' => ∃ v, e = .returned v ∧ w'.ownsRow w.heap.size 3 1 v (opathI leaf).length ((opathI leaf).map (Value.int .i64)) ∧ w.grownBy w' none := by
  by_cases h : 0 ≤ leaf ∧ leaf ≤ 7
  · exact implOramPath_yes leaf w h.1 h.2
  · exact implOramPath_no leaf w h
/-- What the law does with its results: marked, held, made again, held again. -/
theorem FnExactOramPath.core (leaf : Int) (xs : List Int) (k : Nat) (hk : k ≤ 1048576) (w : World)
    (hs : ∀ w, Calls Try.prog 16 #[.int .i64 leaf] w fun e w' => ∃ v, e = .returned v ∧ w'.ownsRow w.heap.size 3 1 v k (xs.map (Value.int .i64)) ∧ w.grownBy w' none)
    (hi : ∀ w, Calls Try.prog 17 #[.int .i64 leaf] w fun e w' => ∃ v, e = .returned v ∧ w'.ownsRow w.heap.size 3 1 v k (xs.map (Value.int .i64)) ∧ w.grownBy w' none) :
    Calls Try.prog 3 #[.int .i64 leaf] w fun e w' => e = .returned (.bool true) ∧ w.grownBy w' none := by
  have HS := Lib.hid hs
  have HI := Lib.hid hi
  clear hs hi
  go_enter Try.func3, Try.ntmps3
  go_wp2_with fail
  refine (HS.out _).mono ?_
  rintro e w1 ⟨v1, rfl, o1, g1⟩
  obtain ⟨A1, c1, rfl, _, _⟩ := own_form o1
  have K1 := Lib.hid o1
  go_wp2_with fail
  refine (HI.out _).mono ?_
  rintro e w2 ⟨v2, rfl, o2, g2⟩
  obtain ⟨A2, c2, rfl, hA2, _⟩ := own_form o2
  have O1 := Lib.hid (own_grow o1 g2)
  have O2 := Lib.hid o2
  have G2 := Lib.hid (gbT g1 g2)
  have Z := Lib.hid g1.size
  clear o1 o2 g1 g2
  go_wp2_with fail
  refine (eqIntS_c _ _ _ _ _ _ xs xs _ (Rd.ofOwn O2.out) (Rd.ofOwn O1.out) (by omega) (by omega)).mono ?_
  rintro e w3 ⟨rfl, q, rfl⟩
  rw [beq_self_eq_true]
  go_wp2_with fail
  refine (markIntS_c _ _ _ _ xs 1 _ (own_grow O2.out (gbDN (gbR _ _) q)) (by omega) (by omega) (by omega)).mono ?_
  rintro e w4 ⟨rfl, o4, g4⟩
  have O4 := Lib.hid o4
  have O14 := Lib.hid (own_grown (own_grow O1.out (gbDN (gbR _ _) q)) g4 (by rw [← ownB A2 k c2]; exact own_sep K1.out O2.out (Nat.le_refl _)))
  have G4 := Lib.hid (gbN (gbDN G2.out q) g4 (fun g hg => by
    rw [← ownB A2 k c2] at hg
    have := (O2.out.lt g hg).1
    have := Z.out
    omega))
  clear o4 g4
  go_wp2_with fail
  refine (heldIntS_c _ _ _ 1 _ (Rd.ofOwn O4.out) (by omega) (by omega) (by omega)).mono ?_
  rintro e w5 ⟨rfl, rfl⟩
  go_wp2_with fail
  refine (HI.out _).mono ?_
  rintro e w5 ⟨v5, rfl, o5, g5⟩
  obtain ⟨A5, c5, rfl, _, _⟩ := own_form o5
  have O5 := Lib.hid o5
  have G5 := Lib.hid g5
  clear o5 g5
  go_wp2_with fail
  refine (eqIntS_c _ _ _ _ _ _ xs xs _ (Rd.ofOwn O5.out) (Rd.ofOwn (own_grow O14.out G5.out)) (by omega) (by omega)).mono ?_
  rintro e w6 ⟨rfl, q2, rfl⟩
  rw [beq_self_eq_true]
  go_wp2_with fail
  refine (heldIntS_c _ _ _ 1 _ (Rd.ofOwn (own_grow O4.out (gbDN G5.out q2))) (by omega) (by omega) (by omega)).mono ?_
  rintro e w7 ⟨rfl, rfl⟩
  go_wp2_with fail
  go_ret
  exact ⟨rfl, gbT G4.out (gbDN G5.out q2)⟩
theorem FnExactOramPath.walk (w : World) (leaf : Int) (wl : (Lit.int .i64 leaf).wf = true) :
    Calls Try.prog 3 #[.int .i64 leaf] w fun e w' => e = .returned (.bool true) ∧ w.grownBy w' none :=
  FnExactOramPath.core leaf (opathI leaf) _ (by have := opathI_len leaf; omega) w (specOramPath_c leaf) (implOramPath_c leaf)
end Go.Proofs.Ythncoohkdmjcaaa
