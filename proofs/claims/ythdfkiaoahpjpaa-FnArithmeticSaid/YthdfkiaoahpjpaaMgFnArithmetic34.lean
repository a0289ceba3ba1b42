/-
  The program's builder: what it asks of words (isWordOf, areNibbles, areBits), where it holds.
-/
import Derived.Test.YthdfkiaoahpjpaaMgFnArithmetic33
namespace Go.Proofs.Ythdfkiaoahpjpaa
open Go.RowKit
set_option linter.unusedVariables false
set_option linter.unusedSimpArgs false
set_option maxHeartbeats 800000 in
theorem implareNibbles_yes (A : Option Addr) (n c : Nat) (zs : List Int) (w : World) (hx : Ints w A n zs) (hn : n ≤ 1000000) (h : ∀ z ∈ zs, inB z 0 15 = true) :
    Calls Try.prog 50 #[.slice A n c] w fun e w' => e = .returned (.bool true) ∧ w = w' := by
  have H := Lib.hid h
  have LX := Lib.hid hx.len
  clear h
  go_enter Try.func50, Try.ntmps50
  go_wp2_with fail
  go_loop [7] (fun i => ∃ k : Nat, k ≤ n ∧ i = .int .i64 k) (fun i => n - (intOf i).toNat)
  case atStart => exact ⟨0, Nat.zero_le _, rfl⟩
  case round =>
    obtain ⟨k, hk, rfl⟩ := hrel
    by_cases hlt : k < n
    · have i1 : (k : Int) < (n : Int) := by omega
      obtain ⟨b, o, rfl, hb, q0⟩ := hx.cell hlt
      have HB := Lib.hid (H.out (zs.getD k 0) (by rw [getI _ _ (by rw [LX.out]; exact hlt)]; exact List.getElem_mem _))
      generalize zs.getD k 0 = z at *
      go_wp2_with (go_at_call 54; refine (impl.within_q z 0 15 _).mono ?_; rintro e w2 ⟨rfl, rfl⟩; rw [HB.out])
      go_round
      case rel => exact ⟨k + 1, by omega, by go_num⟩
      case measure => simp [intOf]; omega
    · go_wp2_with fail
      go_ret
      exact ⟨rfl, rfl⟩
set_option maxHeartbeats 800000 in
theorem implareBits_yes (A : Option Addr) (n c : Nat) (zs : List Int) (w : World) (hx : Ints w A n zs) (hn : n ≤ 1000000) (h : ∀ z ∈ zs, inB z 0 1 = true) :
    Calls Try.prog 56 #[.slice A n c] w fun e w' => e = .returned (.bool true) ∧ w = w' := by
  have H := Lib.hid h
  have LX := Lib.hid hx.len
  clear h
  go_enter Try.func56, Try.ntmps56
  go_wp2_with fail
  go_loop [7] (fun i => ∃ k : Nat, k ≤ n ∧ i = .int .i64 k) (fun i => n - (intOf i).toNat)
  case atStart => exact ⟨0, Nat.zero_le _, rfl⟩
  case round =>
    obtain ⟨k, hk, rfl⟩ := hrel
    by_cases hlt : k < n
    · have i1 : (k : Int) < (n : Int) := by omega
      obtain ⟨b, o, rfl, hb, q0⟩ := hx.cell hlt
      have HB := Lib.hid (H.out (zs.getD k 0) (by rw [getI _ _ (by rw [LX.out]; exact hlt)]; exact List.getElem_mem _))
      generalize zs.getD k 0 = z at *
      go_wp2_with (go_at_call 54; refine (impl.within_q z 0 1 _).mono ?_; rintro e w2 ⟨rfl, rfl⟩; rw [HB.out])
      go_round
      case rel => exact ⟨k + 1, by omega, by go_num⟩
      case measure => simp [intOf]; omega
    · go_wp2_with fail
      go_ret
      exact ⟨rfl, rfl⟩
set_option maxHeartbeats 2000000 in
theorem implisWordOf_yes (m : CM) (v : Value) (rows : List (List Int)) (R : Option Addr) (n c : Nat) (w : World) (h : AggR w (ccircuit m) v) (hr : Mat w R n rows) (ok : COk m) (hg : m.gt.length ≤ 5900) (hw : ∀ r ∈ rows, r.length = 4 ∧ ∀ z ∈ r, inB z 0 (m.gt.length - 1) = true) (hn : n ≤ 1000) :
    Calls Try.prog 49 #[v, .slice R n c] w fun e w' => e = .returned (.bool true) ∧ w.grownBy w' none := by
  have HV := Lib.hid h
  obtain ⟨u0, u1, rfl, h1, h2⟩ := ccircuit_open h
  obtain ⟨A, cA, rfl, hc, hm, hF⟩ := plst_rd (s := 3) (fun _ => rfl) (by omega) h1
  clear h h1 h2 hF
  have HW := Lib.hid hw
  have OK := Lib.hid ok
  have LR := Lib.hid (mat_len hr)
  obtain ⟨q, hq⟩ : ∃ q, m.gt.length = q := ⟨_, rfl⟩
  rw [hq] at HW HV hg
  have HQ := Lib.hid hq
  have HR := Lib.hid hr
  have B1 := Lib.hid (Blk.new w 28 #[.slice A m.gt.length cA, u1])
  have G1 := Lib.hid (gbA (gbR w none) (.cells #[.slice A m.gt.length cA, u1] 28))
  rw [hq] at B1 G1
  rw [hq]
  clear hw ok hr hq hc hm
  obtain ⟨w1, hw1⟩ : ∃ x : World, w.alloc (.cells #[.slice A q cA, u1] 28) = x := ⟨_, rfl⟩
  rw [hw1] at B1 G1
  go_enter Try.func49, Try.ntmps49
  go_wp2_with fail
  clear hw1
  have c0 := B1.out.cell 0
  have c1 := B1.out.cell 1
  simp at c0 c1
  go_loop [11] (fun i => ∃ k : Nat, k ≤ n ∧ i = .int .i64 k) (fun i => n - (intOf i).toNat)
  case atStart => exact ⟨0, Nat.zero_le _, rfl⟩
  case round =>
    obtain ⟨k, hk, rfl⟩ := hrel
    by_cases hlt : k < n
    · have i1 : (k : Int) < (n : Int) := by omega
      obtain ⟨b, o, B, cB, rfl, hb, q0, q1, q2, q3⟩ := mat_at (HR.out.grow G1.out) hlt
      have hrow := HW.out (rows.getD k []) (by
        rw [List.getD_eq_getElem?_getD, List.getElem?_eq_getElem (by rw [LR.out]; exact hlt)]
        exact List.getElem_mem _)
      obtain ⟨hl4, hin⟩ := hrow
      generalize rows.getD k [] = r at *
      rw [hl4] at q0 q1 q2
      have HIN := Lib.hid hin
      have Q1 := Lib.hid q1
      have HL4 := Lib.hid hl4
      clear hin q1 hl4
      go_wp2_with fail
      go_loop [17] (fun i => ∃ j : Nat, j ≤ 4 ∧ i = .int .i64 j) (fun i => 4 - (intOf i).toNat)
      case atStart => exact ⟨0, Nat.zero_le _, rfl⟩
      case round =>
        obtain ⟨j, hj, rfl⟩ := hrel
        by_cases hjt : j < 4
        · have i2 : (j : Int) < 4 := by omega
          obtain ⟨b2, o2, rfl, hb2, q5⟩ := Q1.out.cell hjt
          have HB := Lib.hid (HIN.out (r.getD j 0) (by rw [getI _ _ (by rw [HL4.out]; exact hjt)]; exact List.getElem_mem _))
          generalize r.getD j 0 = z at *
          go_wp2_with (go_at_call 54; refine (impl.within_q z 0 ((q : Int) - 1) _).mono ?_; rintro e w2 ⟨rfl, rfl⟩; rw [HB.out])
          go_round
          case rel => exact ⟨j + 1, by omega, by go_num⟩
          case measure => simp [intOf]; omega
        · have hj4 : j = 4 := by omega
          subst hj4
          go_wp2_with fail
          go_round
          case rel => exact ⟨k + 1, by omega, by go_num⟩
          case measure => simp [intOf]; omega
    · have hkn : k = n := by omega
      subst hkn
      go_wp2_with fail
      refine (implCircuitOk_c m _ _ (HV.out.grow G1.out)).mono ?_
      rintro e w2 ⟨rfl, g2⟩
      rw [circB_yes OK.out]
      have d0 := (B1.out.grow g2).cell 0
      simp at d0
      have G2 := Lib.hid (gbT G1.out g2)
      have t5 : decide ((q : Int) ≤ 5900) = true := by simp; omega
      clear g2 c0 c1
      go_wp2_with fail
      go_ret
      exact ⟨rfl, G2.out⟩
end Go.Proofs.Ythdfkiaoahpjpaa
