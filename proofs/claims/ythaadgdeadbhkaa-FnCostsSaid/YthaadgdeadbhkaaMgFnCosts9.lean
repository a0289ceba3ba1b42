/-
  FieldOk and FieldBits: reference and program.
-/
import Derived.Test.YthaadgdeadbhkaaMgFnCosts0
import Derived.IntWalk
import Derived.Test.YthaadgdeadbhkaaMgFnCosts1
namespace Go.Proofs.Ythaadgdeadbhkaa
open Go.RowKit
set_option linter.unusedVariables false
set_option linter.unusedSimpArgs false
set_option maxHeartbeats 400000 in
theorem implFieldOk_c (p : Int) (w : World) (hp : p ≤ 9223372036854775807) :
    Calls Try.prog 112 #[.int .i64 p] w fun e w' => e = .returned (.bool (fieldB p)) ∧ w = w' := by
  go_enter Try.func112, Try.ntmps112
  go_wp2_with fail
  go_loop [3] (fun i => ∃ k : Nat, 2 ≤ k ∧ k ≤ 102 ∧ i = .int .i64 k ∧ Hid (∀ d : Nat, 2 ≤ d → d < k → (d : Int) < p → p % (d : Int) ≠ 0)) (fun i => 102 - (intOf i).toNat)
  case atStart => exact ⟨2, by omega, by omega, rfl, fun d h1 h2 => by omega⟩
  case round =>
    obtain ⟨k, hk2, hk, rfl, hnd⟩ := hrel
    by_cases h1 : (k : Int) < p
    · by_cases h2 : k ≤ 101
      · have d2 : decide ((k : Int) ≤ 101) = true := by simp; omega
        by_cases h3 : p % (k : Int) = 0
        · have h3' : (p % (k : Int) == 0) = true := by simp [h3]
          have H3 := Lib.hid h3
          clear h3
          go_wp2_with fail
          go_ret
          exact ⟨retB (field_no hk2 h1 H3.out).symm, rfl⟩
        · have h3' : (p % (k : Int) == 0) = false := by simp [h3]
          have H3 := Lib.hid h3
          clear h3
          go_wp2_with fail
          go_round
          case rel => exact ⟨k + 1, by omega, by omega, by go_num, fun d hd2 hdk hdp => by
            by_cases e : d = k
            · subst e; exact H3.out
            · exact hnd.out d hd2 (by omega) hdp⟩
          case measure => simp [intOf]; omega
      · have d2 : decide ((k : Int) ≤ 101) = false := by simp; omega
        have hbig : 101 < p := by omega
        have d3 : decide (p ≤ 101) = false := by simp; omega
        go_wp2
        go_ret
        exact ⟨retB (field_small (.inr hbig)).symm, rfl⟩
    · by_cases h2 : 2 ≤ p ∧ p ≤ 101
      · obtain ⟨h2, h3⟩ := h2
        have d1 : decide ((k : Int) < p) = false := by simp; omega
        have d3 : decide (p ≤ 101) = true := by simp; omega
        have d4 : decide (2 ≤ p) = true := by simp; omega
        go_wp2
        go_ret
        exact ⟨retB (field_yes h2 h3 fun d hd2 hdp => hnd.out d hd2 (by omega) hdp).symm, rfl⟩
      · have hs : fieldB p = false := field_small (by omega)
        have HS := Lib.hid hs
        clear hs
        have d1 : decide ((k : Int) < p) = false := by simp; omega
        by_cases h3 : 2 ≤ p
        · have d3 : decide (p ≤ 101) = false := by simp; omega
          have d4 : decide (2 ≤ p) = true := by simp; omega
          clear h2
          go_wp2
          go_ret
          exact ⟨retB HS.out.symm, rfl⟩
        · have d4 : decide (2 ≤ p) = false := by simp; omega
          clear h2
          go_wp2
          go_ret
          exact ⟨retB HS.out.symm, rfl⟩
set_option maxHeartbeats 400000 in
theorem specFieldOk_c (p : Int) (w : World) (hp : p ≤ 9223372036854775807) :
    Calls Try.prog 125 #[.int .i64 p] w fun e w' => e = .returned (.bool (fieldB p)) ∧ w = w' := by
  by_cases h2 : p < 2
  · have hs := Lib.hid (field_small (.inl h2))
    have d4 : decide (2 ≤ p) = false := by simp; omega
    go_enter Try.func125, Try.ntmps125
    go_wp2
    go_ret
    exact ⟨retB hs.out.symm, rfl⟩
  · by_cases h3 : 101 < p
    · have hs := Lib.hid (field_small (.inr h3))
      have d4 : decide (2 ≤ p) = true := by simp; omega
      have d3 : decide (p ≤ 101) = false := by simp; omega
      clear h2
      go_enter Try.func125, Try.ntmps125
      go_wp2
      go_ret
      exact ⟨retB hs.out.symm, rfl⟩
    · have d4 : decide (2 ≤ p) = true := by simp; omega
      have d3 : decide (p ≤ 101) = true := by simp; omega
      have h2' : 2 ≤ p := by omega
      have h3' : p ≤ 101 := by omega
      clear h2 h3
      go_enter Try.func125, Try.ntmps125
      go_wp2
      go_loop [3] (fun i => ∃ k : Nat, 2 ≤ k ∧ k ≤ 11 ∧ i = .int .i64 k ∧ Hid (∀ d : Nat, 2 ≤ d → d < k → p % (d : Int) ≠ 0)) (fun i => 11 - (intOf i).toNat)
      case atStart => exact ⟨2, by omega, by omega, rfl, fun d h1 h2 => by omega⟩
      case round =>
        obtain ⟨k, hk2, hk, rfl, hnd⟩ := hrel
        obtain ⟨X, hX⟩ : ∃ X : Nat, X = k * k := ⟨_, rfl⟩
        have hXk : k + k ≤ X := by rw [hX]; have := Nat.mul_le_mul_right k hk2; omega
        have hX1 : X ≤ 121 := by rw [hX]; exact Nat.mul_le_mul hk hk
        have e1 : (k : Int) * (k : Int) = (X : Int) := by rw [hX]; simp
        have e2 : wrap64 ((k : Int) * (k : Int)) = (X : Int) := by rw [e1]; exact wrap_small (by omega) (by omega)
        have HX := Lib.hid hX
        have HE := Lib.hid e1
        clear hX
        by_cases h1 : (X : Int) ≤ p
        · by_cases h4 : p % (k : Int) = 0
          · have h4' : (p % (k : Int) == 0) = true := by simp [h4]
            have H4 := Lib.hid h4
            clear h4
            go_wp2
            go_ret
            exact ⟨retB (field_no hk2 (by omega) H4.out).symm, rfl⟩
          · have h4' : (p % (k : Int) == 0) = false := by simp [h4]
            have H4 := Lib.hid h4
            have hk10 : k ≤ 10 := by
              rcases Nat.lt_or_ge 10 k with h | h
              · have : k = 11 := by omega
                subst this
                have := HX.out
                omega
              · exact h
            clear h4
            go_wp2
            go_round
            case rel => exact ⟨k + 1, by omega, by omega, by go_num, fun d hd2 hdk => by
              by_cases e : d = k
              · subst e; exact H4.out
              · exact hnd.out d hd2 (by omega)⟩
            case measure => simp [intOf]; omega
        · have h1' : p < (X : Int) := by omega
          go_wp2
          go_ret
          exact ⟨retB (field_sq h2' h3' (by omega) (by rw [HE.out]; exact h1') hnd.out).symm, rfl⟩
def fb (p : Int) : Nat := if p ≤ 2 then 1 else if p ≤ 4 then 2 else if p ≤ 8 then 3 else if p ≤ 16 then 4 else if p ≤ 32 then 5 else if p ≤ 64 then 6 else 7
end Go.Proofs.Ythaadgdeadbhkaa
/-
  Elements of a field: IsElement, l03Both, areElements, l03All, FAdd, FSub.
-/
namespace Go.Proofs.Ythaadgdeadbhkaa
open Go.RowKit
set_option linter.unusedVariables false
set_option linter.unusedSimpArgs false
def elemB (p a : Int) : Bool := fieldB p && decide (0 ≤ a) && decide (a ≤ p - 1)
theorem elemB_is {p a : Int} (h : elemB p a = true) : fieldB p = true ∧ 2 ≤ p ∧ p ≤ 101 ∧ 0 ≤ a ∧ a < p := by
  simp [elemB] at h
  have := field_range h.1.1
  exact ⟨h.1.1, this.1, this.2, h.1.2, by omega⟩
theorem elemB_mk {p a : Int} (h : fieldB p = true) (h0 : 0 ≤ a) (h1 : a < p) : elemB p a = true := by
  simp [elemB, h]; omega
theorem specIsElement_c (p a : Int) (w : World) (hp : p ≤ 9223372036854775807) :
    Calls Try.prog 128 #[.int .i64 p, .int .i64 a] w fun e w' => e = .returned (.bool (elemB p a)) ∧ w = w' := by
  cases hf : fieldB p with
  | false =>
    have HF := Lib.hid hf
    clear hf
    go_enter Try.func128, Try.ntmps128
    go_wp2_with fail
    refine (specFieldOk_c p _ hp).mono ?_
    rintro e w1 ⟨rfl, rfl⟩
    rw [HF.out]
    go_wp2_with fail
    go_ret
    exact ⟨retB (by simp [elemB, HF.out]), rfl⟩
  | true =>
    obtain ⟨h2, h3⟩ := field_range hf
    have HF := Lib.hid hf
    clear hf
    by_cases h0 : 0 ≤ a
    all_goals by_cases h1 : a ≤ p - 1
    all_goals (try (exfalso; omega))
    all_goals
      have H0 := Lib.hid h0
      have H1 := Lib.hid h1
      go_enter Try.func128, Try.ntmps128
      go_wp2_with fail
      refine (specFieldOk_c p _ hp).mono ?_
      rintro e w1 ⟨rfl, rfl⟩
      rw [HF.out]
      go_wp2
      go_ret
      have h0' := H0.out
      have h1' := H1.out
      exact ⟨retB (by simp [elemB, HF.out, h0', h1'] <;> omega), rfl⟩
theorem specl03Both_c (p a b : Int) (w : World) (hp : p ≤ 9223372036854775807) :
    Calls Try.prog 131 #[.int .i64 p, .int .i64 a, .int .i64 b] w fun e w' => e = .returned (.bool (elemB p a && elemB p b)) ∧ w = w' := by
  cases ha : elemB p a with
  | false =>
    have HA := Lib.hid ha
    clear ha
    go_enter Try.func131, Try.ntmps131
    go_wp2_with fail
    refine (specIsElement_c p a _ hp).mono ?_
    rintro e w1 ⟨rfl, rfl⟩
    rw [HA.out]
    go_wp2_with fail
    go_ret
    exact ⟨rfl, rfl⟩
  | true =>
    have HA := Lib.hid ha
    clear ha
    go_enter Try.func131, Try.ntmps131
    go_wp2_with fail
    refine (specIsElement_c p a _ hp).mono ?_
    rintro e w1 ⟨rfl, rfl⟩
    rw [HA.out]
    go_wp2_with fail
    refine (specIsElement_c p b _ hp).mono ?_
    rintro e w1 ⟨rfl, rfl⟩
    go_wp2_with fail
    go_ret
    exact ⟨rfl, rfl⟩
def elemsB (p : Int) (zs : List Int) : Bool := fieldB p && zs.all fun a => decide (0 ≤ a) && decide (a ≤ p - 1)
theorem elemsB_is {p : Int} {zs : List Int} (h : elemsB p zs = true) : fieldB p = true ∧ 2 ≤ p ∧ p ≤ 101 ∧ ∀ a ∈ zs, 0 ≤ a ∧ a < p := by
  simp only [elemsB, Bool.and_eq_true, List.all_eq_true, decide_eq_true_eq] at h
  have := field_range h.1
  exact ⟨h.1, this.1, this.2, fun a ha => by have := h.2 a ha; omega⟩
theorem elemsB_mk {p : Int} {zs : List Int} (h : fieldB p = true) (h1 : ∀ a ∈ zs, 0 ≤ a ∧ a < p) : elemsB p zs = true := by
  simp only [elemsB, Bool.and_eq_true, List.all_eq_true, decide_eq_true_eq]
  exact ⟨h, fun a ha => by have := h1 a ha; omega⟩
theorem elemsB_all {p : Int} {zs : List Int} {n : Nat} (hf : fieldB p = true) (hl : zs.length = n) (h : ∀ j, j < n → 0 ≤ zs.getD j 0 ∧ zs.getD j 0 ≤ p - 1) : elemsB p zs = true := by
  refine elemsB_mk hf fun a ha => ?_
  obtain ⟨j, hj, rfl⟩ := List.getElem_of_mem ha
  have := h j (by omega)
  rw [getI zs j hj] at this
  omega
set_option maxHeartbeats 400000 in
theorem specl03All_c (p : Int) (A : Option Addr) (n c : Nat) (zs : List Int) (w : World) (hp : p ≤ 9223372036854775807) (hx : Ints w A n zs) (hn : n ≤ 4611686018427387903) :
    Calls Try.prog 79 #[.int .i64 p, .slice A n c] w fun e w' => e = .returned (.bool (elemsB p zs)) ∧ w = w' := by
  have LX := Lib.hid hx.len
  go_enter Try.func79, Try.ntmps79
  go_wp2_with fail
  go_loop [5] (fun i => ∃ k : Nat, k ≤ n ∧ i = .int .i64 k ∧ Hid (∀ j, j < k → elemB p (zs.getD j 0) = true)) (fun i => n - (intOf i).toNat)
  case atStart => exact ⟨0, Nat.zero_le _, rfl, fun j hj => by omega⟩
  case round =>
    obtain ⟨k, hk, rfl, hall⟩ := hrel
    by_cases hlt : k < n
    · obtain ⟨b, o, rfl, hb, c1⟩ := hx.cell hlt
      have i1 : (k : Int) < (n : Int) := by omega
      generalize hz : zs.getD k 0 = z at *
      have HZ := Lib.hid hz
      clear hz
      go_wp2_with fail
      refine (specIsElement_c p z _ hp).mono ?_
      rintro e w1 ⟨rfl, rfl⟩
      cases he : elemB p z with
      | true =>
        have HE := Lib.hid he
        clear he
        go_wp2_with fail
        go_round
        case rel => exact ⟨k + 1, by omega, by go_num, fun j hj => by
          by_cases e : j = k
          · subst e; rw [HZ.out]; exact HE.out
          · exact hall.out j (by omega)⟩
        case measure => simp [intOf]; omega
      | false =>
        have HE := Lib.hid he
        clear he
        go_wp2_with fail
        go_ret
        have := LX.out
        refine ⟨retB ?_, rfl⟩
        cases hb : elemsB p zs with
        | false => rfl
        | true =>
          have h := elemsB_is hb
          have h1 := HE.out
          have h2 := h.2.2.2 zs[k] (List.getElem_mem (by omega))
          rw [← getI zs k (by omega), HZ.out] at h2
          rw [elemB_mk h.1 h2.1 h2.2] at h1
          cases h1
    · have hkn : k = n := by omega
      subst hkn
      go_wp2_with fail
      refine (specFieldOk_c p _ hp).mono ?_
      rintro e w1 ⟨rfl, rfl⟩
      go_wp2_with fail
      go_ret
      refine ⟨retB ?_, rfl⟩
      cases hf : fieldB p with
      | false => simp [elemsB, hf]
      | true =>
        refine (elemsB_all hf LX.out fun j hj => ?_).symm
        have := elemB_is (hall.out j hj)
        omega
end Go.Proofs.Ythaadgdeadbhkaa
/-
  XorField, XorAll: reference and program, and their exact laws.
-/
namespace Go.Proofs.Ythaadgdeadbhkaa
open Go.RowKit
set_option linter.unusedVariables false
set_option linter.unusedSimpArgs false
theorem prod_le {a b m : Int} (ha : 0 ≤ a) (hb : 0 ≤ b) (ha' : a ≤ m) (hb' : b ≤ m) : 0 ≤ a * b ∧ a * b ≤ m * m :=
  ⟨Int.mul_nonneg ha hb, Int.mul_le_mul ha' hb' hb (by omega)⟩
end Go.Proofs.Ythaadgdeadbhkaa
/-
  XorAll: reference and program, and its exact law.
-/
namespace Go.Proofs.Ythaadgdeadbhkaa
open Go.RowKit
set_option linter.unusedVariables false
set_option linter.unusedSimpArgs false
end Go.Proofs.Ythaadgdeadbhkaa
/-
  DotBits and NumberOf: reference and program, and their exact laws.
-/
namespace Go.Proofs.Ythaadgdeadbhkaa
open Go.RowKit
set_option linter.unusedVariables false
set_option linter.unusedSimpArgs false
end Go.Proofs.Ythaadgdeadbhkaa
/-
  BitsOf, ChosenBy, FieldOk, FieldBits: reference and program, and the laws that hold them together.
-/
namespace Go.Proofs.Ythaadgdeadbhkaa
open Go.RowKit
set_option linter.unusedVariables false
set_option linter.unusedSimpArgs false
end Go.Proofs.Ythaadgdeadbhkaa
/-
  The draws: a cursor over bytes. What is drawn lies in its range; nothing else is said of it.
-/
namespace Go.Proofs.Ythaadgdeadbhkaa
open Go.RowKit
set_option linter.unusedVariables false
set_option linter.unusedSimpArgs false
theorem Rd.grown' {w w' : World} {sz n : Nat} {A : Option Addr} {xs : List Value} {r : Option Nat} (h : Rd w sz A n xs) (hg : w.grownBy w' r) (hr : 0 < n → Off A r) : Rd w' sz A n xs := by
  rcases Nat.eq_zero_or_pos n with h0 | h0
  · exact ⟨h.1, fun hn => by omega⟩
  · exact h.grown hg (hr h0)
structure Cur (w : World) (g : Nat) (A : Option Addr) (n c : Nat) (bs : List Int) : Prop where
  blk : ∃ (i : Nat) (h : Int), i ≤ n ∧ Blk w g 138 #[.slice A n c, .int .i64 i, .int .i64 h]
  bytes : Rd w 1 A n (bs.map (Value.int .u8))
  rng : ∀ b ∈ bs, 0 ≤ b ∧ b ≤ 255
  off : 0 < n → Off A (some g)
  small : n ≤ 1048576
theorem Cur.grow {w w' : World} {g : Nat} {A : Option Addr} {n c : Nat} {bs : List Int} (h : Cur w g A n c bs) (hg : w.grownBy w' none) : Cur w' g A n c bs := by
  obtain ⟨⟨i, k, hi, hb⟩, h2, h3, h4, h5⟩ := h
  exact ⟨⟨i, k, hi, hb.grow hg⟩, h2.grow hg, h3, h4, h5⟩
theorem Cur.lt {w : World} {g : Nat} {A : Option Addr} {n c : Nat} {bs : List Int} (h : Cur w g A n c bs) : g < w.heap.size := by
  obtain ⟨⟨i, k, hi, hb⟩, _⟩ := h
  exact hb.lt
theorem and255 (a : Int) : 0 ≤ bits .and .i64 a 255 ∧ bits .and .i64 a 255 ≤ 255 := by
  have h1 : (BitVec.ofInt 64 a &&& BitVec.ofInt 64 255).toNat ≤ 255 := by
    rw [BitVec.toNat_and, show (BitVec.ofInt 64 255).toNat = 255 from rfl]
    exact Nat.and_le_right
  show 0 ≤ IntKind.i64.wrap ((BitVec.ofInt 64 a &&& BitVec.ofInt 64 255).toNat : Int) ∧ IntKind.i64.wrap ((BitVec.ofInt 64 a &&& BitVec.ofInt 64 255).toNat : Int) ≤ 255
  rw [IntKind.wrap_i64]
  omega
theorem byte_at {w : World} {A : Option Addr} {n k : Nat} {bs : List Int} (h : Rd w 1 A n (bs.map (Value.int .u8))) (hk : k < n) :
    ∃ b o, A = some ⟨b, o, none⟩ ∧ b < w.heap.size ∧ w.cell? ⟨b, o + k, none⟩ = some (.int .u8 (bs.getD k 0)) ∧ k < bs.length := by
  obtain ⟨b, o, e, hb, hc⟩ := h.2 (by omega)
  have hl : bs.length = n := by simpa using h.1
  refine ⟨b, o, e, hb, ?_, by omega⟩
  rw [hc k (by omega)]
  simp [List.getElem?_map, List.getD_eq_getElem?_getD, List.getElem?_eq_getElem (show k < bs.length by omega)]
theorem Cur.next {w w' : World} {g : Nat} {A : Option Addr} {n c : Nat} {bs : List Int} {i : Nat} {h : Int} (hi : i ≤ n) (hb : Blk w' g 138 #[.slice A n c, .int .i64 i, .int .i64 h])
    (hby : Rd w 1 A n (bs.map (Value.int .u8))) (hr : ∀ b ∈ bs, 0 ≤ b ∧ b ≤ 255) (ho : 0 < n → Off A (some g)) (hs : n ≤ 1048576) (hg : w.grownBy w' (some g)) : Cur w' g A n c bs :=
  ⟨⟨i, h, hi, hb⟩, hby.grown' hg ho, hr, ho, hs⟩
def ByteOut (w : World) (g : Nat) (A : Option Addr) (n c : Nat) (bs : List Int) (e : Ending) (w' : World) : Prop :=
  ∃ x : Int, e = .returned (.int .i64 x) ∧ 0 ≤ x ∧ x ≤ 255 ∧ Cur w' g A n c bs ∧ w.grownBy w' (some g)
set_option maxHeartbeats 1000000 in
theorem l01Byte_c (w : World) (g : Nat) (A : Option Addr) (n c : Nat) (bs : List Int) (hc : Cur w g A n c bs) :
    Calls Try.prog 154 #[.pointer (some ⟨g, 0, none⟩)] w (ByteOut w g A n c bs) := by
  obtain ⟨⟨i, h, hi, hb⟩, hby, hr, ho, hs⟩ := hc
  have c0 := hb.cell 0
  have c1 := hb.cell 1
  have c2 := hb.cell 2
  have f2 := hb.frozen 2
  have f1 := hb.frozen 1
  simp at c0 c1 c2
  by_cases hlt : i < n
  · obtain ⟨b, o, rfl, hbl, cb, hkl⟩ := byte_at hby hlt
    have hne : b ≠ g := fun e => ho (by omega) _ rfl (by simp [e])
    have hne' : g ≠ b := fun e => hne e.symm
    have il : (i : Int) < (n : Int) := by omega
    have hbr := hr _ (List.getElem_mem hkl)
    rw [← getI bs i hkl] at hbr
    generalize bs.getD i 0 = y at *
    obtain ⟨hy0, hy1⟩ := hbr
    have HB := Lib.hid hb
    have HBY := Lib.hid hby
    have HR := Lib.hid hr
    have HO := Lib.hid ho
    clear hb hby hr ho
    go_enter Try.func154, Try.ntmps154
    go_wp2_with fail
    go_quiet (fail)
    go_wp2_with fail
    go_quiet (fail)
    go_wp2_with fail
    go_quiet (fail)
    go_wp2_with fail
    go_ret
    generalize hA : (bits .and .i64 (bits .xor .i64 (wrap64 (wrap64 (h * 6364136223846793005) + 1442695040888963407) / 8589934592) (wrap64 (wrap64 (h * 6364136223846793005) + 1442695040888963407) / 35184372088832)) 255) = z
    clear hA
    refine ⟨_, rfl, (and255 _).1, (and255 _).2, Cur.next (by omega : i + 1 ≤ n) (((HB.out.set_ 2 _).set_ 1 _)) HBY.out HR.out HO.out hs ?_, ?_⟩
    all_goals (repeat (first | exact gbR _ _ | refine gbDN ?_ _ | refine gbO ?_ _))
  · have hin : i = n := by omega
    subst hin
    have il : decide ((i : Int) < (i : Int)) = false := by simp
    have HB := Lib.hid hb
    have HBY := Lib.hid hby
    have HR := Lib.hid hr
    have HO := Lib.hid ho
    clear hb hby hr ho hlt
    go_enter Try.func154, Try.ntmps154
    go_wp2_with fail
    go_quiet (fail)
    go_wp2_with fail
    go_quiet (fail)
    go_wp2_with fail
    go_ret
    refine ⟨_, rfl, (and255 _).1, (and255 _).2, Cur.next (Nat.le_refl _) (HB.out.set_ 2 _) HBY.out HR.out HO.out hs ?_, ?_⟩
    all_goals (repeat (first | exact gbR _ _ | refine gbDN ?_ _ | refine gbO ?_ _))
def BelowOut (w : World) (m : Int) (g : Nat) (A : Option Addr) (n c : Nat) (bs : List Int) (e : Ending) (w' : World) : Prop :=
  ∃ x : Int, e = .returned (.int .i64 x) ∧ 0 ≤ x ∧ (1 ≤ m → x < m) ∧ Cur w' g A n c bs ∧ w.grownBy w' (some g)
set_option maxHeartbeats 1000000 in
theorem l01Below_c (w : World) (m : Int) (hm : m ≤ 1099511627776) (g : Nat) (A : Option Addr) (n c : Nat) (bs : List Int) (hc : Cur w g A n c bs) :
    Calls Try.prog 109 #[.pointer (some ⟨g, 0, none⟩), .int .i64 m] w (BelowOut w m g A n c bs) := by
  have HC := Lib.hid hc
  clear hc
  by_cases h0 : m ≤ 0
  · go_enter Try.func109, Try.ntmps109
    go_wp2_with fail
    go_ret
    exact ⟨0, rfl, by omega, fun h => by omega, HC.out, gbR _ _⟩
  · by_cases h1 : m ≤ 256
    · go_enter Try.func109, Try.ntmps109
      go_wp2_with fail
      refine (l01Byte_c _ g A n c bs HC.out).mono ?_
      rintro e w1 ⟨x, rfl, hx0, hx1, hc1, hg1⟩
      have H1 := Lib.hid hc1
      clear hc1
      go_wp2_with fail
      go_ret
      exact ⟨_, rfl, Int.emod_nonneg _ (by omega), fun h => Int.emod_lt_of_pos _ (by omega), H1.out, hg1⟩
    · go_enter Try.func109, Try.ntmps109
      go_wp2_with fail
      refine (l01Byte_c _ g A n c bs HC.out).mono ?_
      rintro e w1 ⟨x, rfl, hx0, hx1, hc1, hg1⟩
      have H1 := Lib.hid hc1
      clear hc1
      go_wp2_with fail
      refine (l01Byte_c _ g A n c bs H1.out).mono ?_
      rintro e w2 ⟨y, rfl, hy0, hy1, hc2, hg2⟩
      have H2 := Lib.hid hc2
      clear hc2
      go_wp2_with fail
      refine (l01Byte_c _ g A n c bs H2.out).mono ?_
      rintro e w3 ⟨z, rfl, hz0, hz1, hc3, hg3⟩
      have H3 := Lib.hid hc3
      clear hc3
      go_wp2_with fail
      refine (l01Byte_c _ g A n c bs H3.out).mono ?_
      rintro e w4 ⟨u, rfl, hu0, hu1, hc4, hg4⟩
      have H4 := Lib.hid hc4
      clear hc4
      go_wp2_with fail
      go_ret
      exact ⟨_, rfl, Int.emod_nonneg _ (by omega), fun h => Int.emod_lt_of_pos _ (by omega), H4.out, gbT (gbT (gbT hg1 hg2) hg3) hg4⟩
structure BytesIn (w : World) (A : Option Addr) (n : Nat) (bs : List Int) : Prop where
  bytes : Rd w 1 A n (bs.map (Value.int .u8))
  rng : ∀ b ∈ bs, 0 ≤ b ∧ b ≤ 255
  small : n ≤ 1048576
theorem BytesIn.grow {w w' : World} {A : Option Addr} {n : Nat} {bs : List Int} (h : BytesIn w A n bs) (hg : w.grownBy w' none) : BytesIn w' A n bs := ⟨h.bytes.grow hg, h.rng, h.small⟩
theorem BytesIn.off {w : World} {A : Option Addr} {n : Nat} {bs : List Int} (h : BytesIn w A n bs) {r : Option Nat} (hg : ∀ g, r = some g → w.heap.size ≤ g) : 0 < n → Off A r := fun hn a ha e => by
  obtain ⟨b, o, rfl, hb, _⟩ := h.bytes.2 hn
  injection ha with ha
  subst ha
  have := hg b e.symm
  omega
set_option maxHeartbeats 400000 in
theorem l01New_c (w : World) (A : Option Addr) (n c : Nat) (bs : List Int) (h : BytesIn w A n bs) :
    Calls Try.prog 46 #[.slice A n c] w fun e w' => e = .returned (.pointer (some ⟨w.heap.size, 0, none⟩)) ∧ Cur w' w.heap.size A n c bs ∧ w.grownBy w' none ∧ w.heap.size + 1 = w'.heap.size := by
  have hn := h.small
  have H := Lib.hid h
  clear h
  go_enter Try.func46, Try.ntmps46
  go_wp2_with fail
  go_loop [3, 4] (fun s i => ∃ (k : Nat) (h : Int), k ≤ n ∧ i = .int .i64 k ∧ s = .int .i64 h) (fun _ i => n - (intOf i).toNat)
  case atStart => exact ⟨0, _, Nat.zero_le _, rfl, rfl⟩
  case round =>
    obtain ⟨k, h, hk, rfl, rfl⟩ := hrel
    by_cases hlt : k < n ∧ k < 4000
    · obtain ⟨h1, h2⟩ := hlt
      obtain ⟨b, o, rfl, hb, c1, hkl⟩ := byte_at H.out.bytes h1
      have i1 : (k : Int) < (n : Int) := by omega
      have d2 : decide ((k : Int) < 4000) = true := by simp; omega
      generalize bs.getD k 0 = y at *
      go_wp2_with fail
      go_round
      case rel => exact ⟨k + 1, _, by omega, by go_num, rfl⟩
      case measure => simp [intOf]; omega
    · by_cases h1 : k < n
      · have d1 : decide ((k : Int) < (n : Int)) = true := by simp; omega
        have d2 : decide ((k : Int) < 4000) = false := by simp; omega
        clear hlt
        go_wp2_with fail
        go_ret
        refine ⟨rfl, ⟨⟨0, _, Nat.zero_le _, Blk.new w _ _⟩, (H.out.grow (gbA (gbR _ _) _)).bytes, H.out.rng, H.out.off (fun g e => by injection e with e; omega), hn⟩, gbA (gbR _ _) _, by simp⟩
      · have d1 : decide ((k : Int) < (n : Int)) = false := by simp; omega
        clear hlt
        go_wp2_with fail
        go_ret
        refine ⟨rfl, ⟨⟨0, _, Nat.zero_le _, Blk.new w _ _⟩, (H.out.grow (gbA (gbR _ _) _)).bytes, H.out.rng, H.out.off (fun g e => by injection e with e; omega), hn⟩, gbA (gbR _ _) _, by simp⟩
def Places (qs : List Int) : Prop := qs.length = 12 ∧ ∀ q ∈ qs, 0 ≤ q ∧ q < 10000
end Go.Proofs.Ythaadgdeadbhkaa
