/-
  AndsOf: its exact law.
-/
import Derived.Test.YtaokichfakolmaaStmS
namespace Go.Proofs.Ytaokichfakolmaa
open Go.RowKit
set_option linter.unusedVariables false
theorem stmt_cases (o d a b c n : Int) : ∃ o' d' a' b' c' n', plainV o d a b c n = stV o' d' a' b' c' n' ∧ ((o = o' ∧ d = d' ∧ a = a' ∧ b = b' ∧ c = c' ∧ n = n') → stmtB o d a b c n = (regB d && regB a && regB b && regB c && stmtK o a n)) ∧
    (¬ (o = o' ∧ d = d' ∧ a = a' ∧ b = b' ∧ c = c' ∧ n = n') → stmtB o d a b c n = false) := by
  have r0 : regB 0 = true := rfl
  by_cases h1 : o = 1
  · subst h1
    refine ⟨1, d, 0, 0, 0, n, by simp [plainV], ?_, ?_⟩
    · rintro ⟨_, _, rfl, rfl, rfl, _⟩; simp [stmtB, stmtK, r0]
    · intro h; simp [stmtB]; intro e1 e2 e3; exact absurd ⟨rfl, rfl, e1, e2, e3, rfl⟩ h
  by_cases h2 : o = 2
  · subst h2
    refine ⟨2, d, a, 0, 0, n, by simp [plainV], ?_, ?_⟩
    · rintro ⟨_, _, _, rfl, rfl, _⟩
      rw [Bool.eq_iff_iff]
      simp [stmtB, stmtK, r0, regB, inB]
      omega
    · intro h; simp [stmtB]; intro e1 e2; exact absurd ⟨rfl, rfl, rfl, e1, e2, rfl⟩ h
  cases hm : inB o 3 9 with
  | true =>
    have h12 : o ≠ 12 := by rw [inB_iff] at hm; omega
    refine ⟨o, d, a, b, 0, 0, by simp [plainV, h1, h2, hm], ?_, ?_⟩
    · rintro ⟨_, _, _, _, rfl, rfl⟩
      have : inB o 3 13 = true := by rw [inB_iff] at hm ⊢; omega
      simp [stmtB, stmtK, h1, h2, hm, h12, r0, this]
    · intro h; simp [stmtB, h1, h2, hm]; intro e1 e2; exact absurd ⟨rfl, rfl, rfl, rfl, e1, e2⟩ h
  | false =>
    by_cases h10 : o = 10
    · subst h10
      refine ⟨10, d, a, b, c, 0, by simp [plainV, hm], ?_, ?_⟩
      · rintro ⟨_, _, _, _, _, rfl⟩
        have : inB 10 3 13 = true := by decide
        simp [stmtB, stmtK, hm, this]
      · intro h; simp [stmtB, hm]; intro e1; exact absurd ⟨rfl, rfl, rfl, rfl, rfl, e1⟩ h
    by_cases h11 : o = 11
    · subst h11
      refine ⟨11, 0, a, 0, 0, 0, by simp [plainV, hm], ?_, ?_⟩
      · rintro ⟨_, rfl, _, rfl, rfl, rfl⟩
        have : inB 11 3 13 = true := by decide
        simp [stmtB, stmtK, hm, this, r0]
      · intro h; simp [stmtB, hm]; intro e1 e2 e3 e4; exact absurd ⟨rfl, e1, rfl, e2, e3, e4⟩ h
    by_cases h12 : o = 12
    · subst h12
      refine ⟨12, 0, 0, 0, 0, n, by simp [plainV, hm], ?_, ?_⟩
      · rintro ⟨_, rfl, rfl, rfl, rfl, _⟩
        simp [stmtB, stmtK, hm, r0]
      · intro h; simp [stmtB, hm]; intro e1 e2 e3 e4; exact absurd ⟨rfl, e1, e2, e3, e4, rfl⟩ h
    · refine ⟨o, 0, 0, 0, 0, 0, by simp [plainV, h1, h2, hm, h10, h11, h12], ?_, ?_⟩
      · rintro ⟨_, rfl, rfl, rfl, rfl, rfl⟩
        rw [Bool.eq_iff_iff]
        have hm' : ¬ (3 ≤ o ∧ o ≤ 9) := by rw [← inB_iff, hm]; simp
        simp [stmtB, stmtK, h1, h2, hm, h10, h11, h12, r0]
        rw [inB_iff]
        omega
      · intro h; simp [stmtB, h1, h2, hm, h10, h11, h12]; intro _ e1 e2 e3 e4 e5; exact absurd ⟨rfl, e1, e2, e3, e4, e5⟩ h
theorem specStmtOk_c (o d a b c n : Int) (w : World) :
    Calls Try.prog 54 #[stV o d a b c n] w fun e w' => e = .returned (.bool (stmtB o d a b c n)) ∧ w.grownBy w' none := by
  obtain ⟨o', d', a', b', c', n', hp, h1, h2⟩ := stmt_cases o d a b c n
  by_cases he : o = o' ∧ d = d' ∧ a = a' ∧ b = b' ∧ c = c' ∧ n = n'
  · rw [h1 he]
    cases hd : regB d with
    | false => exact specStmtOk_d o d a b c n _ _ _ _ _ _ w hp he hd
    | true =>
      cases ha : regB a with
      | false => exact specStmtOk_a o d a b c n _ _ _ _ _ _ w hp he hd ha
      | true =>
        cases hb : regB b with
        | false => exact specStmtOk_b o d a b c n _ _ _ _ _ _ w hp he hd ha hb
        | true =>
          cases hc : regB c with
          | false => exact specStmtOk_c' o d a b c n _ _ _ _ _ _ w hp he hd ha hb hc
          | true => exact specStmtOk_ok o d a b c n _ _ _ _ _ _ w hp he hd ha hb hc
  · rw [h2 he]
    exact specStmtOk_A o d a b c n _ _ _ _ _ _ w hp he
theorem toStmt_c (o d a b c n : Int) (w : World) :
    Calls Try.prog 12 #[stV o d a b c n] w fun e w' => e = .returned (stV o d a b c n) ∧ w.grownBy w' none := by
  go_enter Try.func12, Try.ntmps12
  go_wp2_with fail
  exact ret_c rfl rfl stStmt ((Blk.new' _ _ _ _ (by simp)).grow (gbA (gbR _ none) _)) rfl rfl ⟨rfl, gbA (gbA (gbA (gbR _ _) _) _) _⟩
set_option maxHeartbeats 2000000 in
theorem specAndsOf_c (o d a b c n : Int) (w : World) :
    Calls Try.prog 11 #[stV o d a b c n] w fun e w' => e = .returned (.int .i64 (andsR o d a b c n)) ∧ w.grownBy w' none := by
  have HR : Hid (andsR o d a b c n = if stmtB o d a b c n then andsV o else -1) := rfl
  have B1 := Lib.hid (Blk.new w 25 #[.int .i64 o, .int .i64 d, .int .i64 a, .int .i64 b, .int .i64 c, .int .i64 n])
  have GA := Lib.hid (gbA (gbR w none) (.cells #[.int .i64 o, .int .i64 d, .int .i64 a, .int .i64 b, .int .i64 c, .int .i64 n] 25))
  go_enter Try.func11, Try.ntmps11
  go_wp2_with fail
  refine (specStmtOk_c o d a b c n _).mono ?_
  rintro e w1 ⟨rfl, g⟩
  cases hb : stmtB o d a b c n with
  | false =>
    have HB := Lib.hid hb
    clear hb
    go_wp2_with fail
    go_ret
    exact ⟨retI (by rw [HR.out, HB.out]; rfl), gbT GA.out g⟩
  | true =>
    have HB := Lib.hid hb
    have k0 := gbk g (B1.out.cell 0)
    have G := Lib.hid (gbT GA.out g)
    simp at k0
    clear hb g
    go_wp2_with fail
    all_goals
      go_ret
      exact ⟨retI (by rw [HR.out, HB.out]; simp_all [andsV]), G.out⟩
set_option maxHeartbeats 2000000 in
theorem implAndsOf_c (o d a b c n : Int) (w : World) :
    Calls Try.prog 13 #[stV o d a b c n] w fun e w' => e = .returned (.int .i64 (andsR o d a b c n)) ∧ w.grownBy w' none := by
  have HR : Hid (andsR o d a b c n = if stmtB o d a b c n then andsV o else -1) := rfl
  have B1 := Lib.hid (Blk.new w 25 #[.int .i64 o, .int .i64 d, .int .i64 a, .int .i64 b, .int .i64 c, .int .i64 n])
  have GA := Lib.hid (gbA (gbR w none) (.cells #[.int .i64 o, .int .i64 d, .int .i64 a, .int .i64 b, .int .i64 c, .int .i64 n] 25))
  go_enter Try.func13, Try.ntmps13
  go_wp2_with fail
  refine (implStmtOk_c o d a b c n _).mono ?_
  rintro e w1 ⟨rfl, g⟩
  cases hb : stmtB o d a b c n with
  | false =>
    have HB := Lib.hid hb
    clear hb
    go_wp2_with fail
    go_ret
    exact ⟨retI (by rw [HR.out, HB.out]; rfl), gbT GA.out g⟩
  | true =>
    have HB := Lib.hid hb
    have k0 := gbk g (B1.out.cell 0)
    have G := Lib.hid (gbT GA.out g)
    simp at k0
    clear hb g
    go_wp2_with fail
    all_goals
      go_ret
      exact ⟨retI (by rw [HR.out, HB.out]; simp_all [andsV]), G.out⟩
set_option maxHeartbeats 1000000 in
theorem FnExactAndsOf.walk (w : World) (o : Int) (wo : (Lit.int .i64 o).wf = true) (d : Int) (wd : (Lit.int .i64 d).wf = true) (a : Int) (wa : (Lit.int .i64 a).wf = true) (b : Int) (wb : (Lit.int .i64 b).wf = true) (c : Int) (wc : (Lit.int .i64 c).wf = true) (n : Int) (wn : (Lit.int .i64 n).wf = true) :
    Calls Try.prog 3 #[.agg #[.int .i64 o, .int .i64 d, .int .i64 a, .int .i64 b, .int .i64 c, .int .i64 n]] w fun e w' => e = .returned (.bool true) ∧ w.grownBy w' none := by
  have B1 := Lib.hid (Blk.new w 23 #[.int .i64 o, .int .i64 d, .int .i64 a, .int .i64 b, .int .i64 c, .int .i64 n])
  have G1 := Lib.hid (gbA (gbR w none) (.cells #[.int .i64 o, .int .i64 d, .int .i64 a, .int .i64 b, .int .i64 c, .int .i64 n] 23))
  obtain ⟨r, hr⟩ : ∃ r, andsR o d a b c n = r := ⟨_, rfl⟩
  have HS := Lib.hid (fun w => specAndsOf_c o d a b c n w)
  have HI := Lib.hid (fun w => implAndsOf_c o d a b c n w)
  rw [hr] at HS HI
  clear hr wo wd wa wb wc wn
  go_enter Try.func3, Try.ntmps3
  go_wp2_with fail
  refine (toStmt_c o d a b c n _).mono ?_
  rintro e w1 ⟨rfl, g⟩
  have B2 := Lib.hid (B1.out.grow g)
  have G2 := Lib.hid (gbT G1.out g)
  clear B1 G1 g
  go_wp2_with fail
  refine (HS.out _).mono ?_
  rintro e w2 ⟨rfl, g⟩
  have B3 := Lib.hid (B2.out.grow g)
  have G3 := Lib.hid (gbT G2.out g)
  clear B2 G2 g
  have k0 := B3.out.cell 0
  have k1 := B3.out.cell 1
  have k2 := B3.out.cell 2
  have k3 := B3.out.cell 3
  have k4 := B3.out.cell 4
  have k5 := B3.out.cell 5
  simp at k0 k1 k2 k3 k4 k5
  go_wp2_with fail
  refine (toStmt_c o d a b c n _).mono ?_
  rintro e w3 ⟨rfl, g⟩
  have G4 := Lib.hid (gbT G3.out g)
  clear g k0 k1 k2 k3 k4 k5
  go_wp2_with fail
  refine (HI.out _).mono ?_
  rintro e w4 ⟨rfl, g⟩
  have hne : (r != r) = false := by simp
  go_wp2_with fail
  go_ret
  exact ⟨rfl, gbT G4.out g⟩
end Go.Proofs.Ytaokichfakolmaa
