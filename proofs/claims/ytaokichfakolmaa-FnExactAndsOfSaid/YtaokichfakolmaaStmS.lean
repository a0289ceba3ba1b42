/-
  StmtOk of the reference.
-/
import Derived.Test.YtaokichfakolmaaPlain1
import Derived.Test.YtaokichfakolmaaPlain2
import Derived.Test.YtaokichfakolmaaPlainmid
import Derived.Test.YtaokichfakolmaaPlain10
import Derived.Test.YtaokichfakolmaaPlain11
import Derived.Test.YtaokichfakolmaaPlain12
import Derived.Test.YtaokichfakolmaaPlainno
namespace Go.Proofs.Ytaokichfakolmaa
open Go.RowKit
set_option linter.unusedVariables false
def anyV : Value → World → Prop := fun _ _ => True
theorem anyV_st : stable anyV := fun _ _ _ _ _ => trivial
theorem specl08Reg_c (z : Int) (w : World) : Calls Try.prog 101 #[.int .i64 z] w fun e w' => e = .returned (.bool (regB z)) ∧ w = w' := by
  go_enter Try.func101, Try.ntmps101
  go_wp2_with fail
  refine (spec.l01In_q z 0 7 _).mono ?_
  rintro e w1 ⟨rfl, rfl⟩
  go_wp2_with fail
  go_ret
  exact ⟨rfl, rfl⟩
theorem specl08Plain_c (o d a b c n : Int) (w : World) :
    Calls Try.prog 100 #[stV o d a b c n] w fun e w' => e = .returned (plainV o d a b c n) ∧ w.grownBy w' none := by
  by_cases h1 : o = 1
  · subst h1; exact specl08Plain_1 d a b c n w
  by_cases h2 : o = 2
  · subst h2; exact specl08Plain_2 d a b c n w
  cases hm : inB o 3 9 with
  | true => exact specl08Plain_mid o d a b c n (by simpa using h1) (by simpa using h2) hm w
  | false =>
    by_cases h10 : o = 10
    · subst h10; exact specl08Plain_10 d a b c n w
    by_cases h11 : o = 11
    · subst h11; exact specl08Plain_11 d a b c n w
    by_cases h12 : o = 12
    · subst h12; exact specl08Plain_12 d a b c n w
    exact specl08Plain_no o d a b c n (by simpa using h1) (by simpa using h2) hm (by simpa using h10) (by simpa using h11) (by simpa using h12) w
theorem neqSt (o d a b c n o' d' a' b' c' n' : Int) (w : World) (h : ¬ (o = o' ∧ d = d' ∧ a = a' ∧ b = b' ∧ c = c' ∧ n = n')) : (binOp .neq 25 (stV o d a b c n) (stV o' d' a' b' c' n')).run Try.prog w = .ok (.bool true) w := by
  go_simp
  exact fun h1 h2 h3 h4 h5 h6 => h ⟨h1, h2, h3, h4, h5, h6⟩
def stmtK (o a n : Int) : Bool := if o = 1 then inB n 0 15 else if o = 2 then decide (a < 5) && inB n 0 3 else if o = 12 then inB n 1 8 else inB o 3 13

set_option maxRecDepth 100000 in
set_option maxHeartbeats 4000000 in
theorem specStmtOk_A (o d a b c n o' d' a' b' c' n' : Int) (w : World) (hp : plainV o d a b c n = stV o' d' a' b' c' n') (hq : ¬ (o = o' ∧ d = d' ∧ a = a' ∧ b = b' ∧ c = c' ∧ n = n')) :
    Calls Try.prog 54 #[stV o d a b c n] w fun e w' => e = .returned (.bool false) ∧ w.grownBy w' none := by
  have HPL := Lib.hid hp
  have hne : ∀ w, (binOp .neq 25 (stV o d a b c n) (stV o' d' a' b' c' n')).run Try.prog w = .ok (.bool true) w := fun w => neqSt _ _ _ _ _ _ _ _ _ _ _ _ w hq
  have B1 := Lib.hid (Blk.new w 25 #[.int .i64 o, .int .i64 d, .int .i64 a, .int .i64 b, .int .i64 c, .int .i64 n])
  have GA := Lib.hid (gbA (gbR w none) (.cells #[.int .i64 o, .int .i64 d, .int .i64 a, .int .i64 b, .int .i64 c, .int .i64 n] 25))
  clear hp  hq
  go_enter Try.func54, Try.ntmps54
  go_wp2_with fail
  refine region_grow [isV (stV o d a b c n), isV (stV o d a b c n), isV (stV o' d' a' b' c' n'), isV (.bool true), isV (.bool true), anyV, anyV, anyV, anyV, isV (.bool true), isV (.bool true), anyV, anyV, anyV, anyV, isV (.bool true), isV (.bool true), anyV, anyV, anyV, anyV, isV (.bool true), isV (.bool true), anyV, anyV, anyV, anyV, isV (.bool true)] (by kernel_rfl) (by kernel_rfl) (by kernel_rfl) (by simp [stables, isV_st, anyV_st]) ?_ ?_
  · simp only [hops, and_true]
    refine ⟨?_, ?_, ?_, ?_, ?_, ?_, ?_, ?_, ?_, ?_, ?_, ?_, ?_, ?_, ?_, ?_, ?_, ?_, ?_, ?_, ?_, ?_, ?_, ?_, ?_, ?_, ?_, ?_⟩
    all_goals
      intro f w1 hG hd
      have k0 := gbk hG (kD (B1.out.cell 0))
      have k1 := gbk hG (kD (B1.out.cell 1))
      have k2 := gbk hG (kD (B1.out.cell 2))
      have k3 := gbk hG (kD (B1.out.cell 3))
      have k4 := gbk hG (kD (B1.out.cell 4))
      have k5 := gbk hG (kD (B1.out.cell 5))
      simp at k0 k1 k2 k3 k4 k5
      simp [deps, tAt, isV, anyV] at hd
      first | simp [puts, dsts, Act.put, hd] | simp [puts, dsts, Act.put]
      clear hd
      go_wp2_with (first | (go_at_call 100; refine (specl08Plain_c o d a b c n _).mono ?_; rintro e w5 ⟨rfl, hw⟩; rw [HPL.out]))
    all_goals first
      | exact ⟨_, rfl, by first | with_reducible exact gbR _ _ | exact hw, by first | (simp [tAt, isV, anyV]; done) | trivial⟩
      | exact ⟨f _, rfl, gbR _ _, trivial⟩
  · intro f w5 hG hd
    have G5 := Lib.hid (gbT GA.out (gbT (gbD (gbR _ none)) hG))
    have k0 := gbk hG (kD (B1.out.cell 0))
    have k1 := gbk hG (kD (B1.out.cell 1))
    have k2 := gbk hG (kD (B1.out.cell 2))
    have k3 := gbk hG (kD (B1.out.cell 3))
    have k4 := gbk hG (kD (B1.out.cell 4))
    have k5 := gbk hG (kD (B1.out.cell 5))
    simp at k0 k1 k2 k3 k4 k5
    simp [knows, tAt, isV, anyV] at hd
    obtain ⟨h0_, h1_, h2_, h3_, h4_, h5_, h6_, h7_, h8_, h9_, h10_, h11_⟩ := hd
    simp only [puts, dsts, Act.put, h0_, h1_, h2_, h3_, h4_, h5_, h6_, h7_, h8_, h9_, h10_, h11_, List.filterMap_cons, List.filterMap_nil, List.setIfInBounds_toArray, List.set_cons_zero, List.set_cons_succ]
    clear hG h0_ h1_ h2_ h3_ h4_ h5_ h6_ h7_ h8_ h9_ h10_ h11_
    go_wp2_with fail
    go_ret
    exact ⟨rfl, G5.out⟩

set_option maxRecDepth 100000 in
set_option maxHeartbeats 4000000 in
theorem specStmtOk_d (o d a b c n o' d' a' b' c' n' : Int) (w : World) (hp : plainV o d a b c n = stV o' d' a' b' c' n') (hq : o = o' ∧ d = d' ∧ a = a' ∧ b = b' ∧ c = c' ∧ n = n') (hrd : regB d = false) :
    Calls Try.prog 54 #[stV o d a b c n] w fun e w' => e = .returned (.bool false) ∧ w.grownBy w' none := by
  have HPL := Lib.hid hp
  obtain ⟨rfl, rfl, rfl, rfl, rfl, rfl⟩ := hq
  have HRd := Lib.hid hrd
  have B1 := Lib.hid (Blk.new w 25 #[.int .i64 o, .int .i64 d, .int .i64 a, .int .i64 b, .int .i64 c, .int .i64 n])
  have GA := Lib.hid (gbA (gbR w none) (.cells #[.int .i64 o, .int .i64 d, .int .i64 a, .int .i64 b, .int .i64 c, .int .i64 n] 25))
  clear hp hrd
  go_enter Try.func54, Try.ntmps54
  go_wp2_with fail
  refine region_grow [isV (stV o d a b c n), isV (stV o d a b c n), isV (stV o d a b c n), isV (.bool false), isV (.bool false), isV (.pointer (some ⟨w.heap.size, 1, none⟩)), isV (.int .i64 d), isV (.bool false), isV (.bool true), isV (.bool true), isV (.bool true), anyV, anyV, anyV, anyV, isV (.bool true), isV (.bool true), anyV, anyV, anyV, anyV, isV (.bool true), isV (.bool true), anyV, anyV, anyV, anyV, isV (.bool true)] (by kernel_rfl) (by kernel_rfl) (by kernel_rfl) (by simp [stables, isV_st, anyV_st]) ?_ ?_
  · simp only [hops, and_true]
    refine ⟨?_, ?_, ?_, ?_, ?_, ?_, ?_, ?_, ?_, ?_, ?_, ?_, ?_, ?_, ?_, ?_, ?_, ?_, ?_, ?_, ?_, ?_, ?_, ?_, ?_, ?_, ?_, ?_⟩
    all_goals
      intro f w1 hG hd
      have k0 := gbk hG (kD (B1.out.cell 0))
      have k1 := gbk hG (kD (B1.out.cell 1))
      have k2 := gbk hG (kD (B1.out.cell 2))
      have k3 := gbk hG (kD (B1.out.cell 3))
      have k4 := gbk hG (kD (B1.out.cell 4))
      have k5 := gbk hG (kD (B1.out.cell 5))
      simp at k0 k1 k2 k3 k4 k5
      simp [deps, tAt, isV, anyV] at hd
      first | simp [puts, dsts, Act.put, hd] | simp [puts, dsts, Act.put]
      clear hd
      go_wp2_with (first | (go_at_call 100; refine (specl08Plain_c o d a b c n _).mono ?_; rintro e w5 ⟨rfl, hw⟩; rw [HPL.out]) | (go_at_call 101; refine (specl08Reg_c _ _).mono ?_; rintro e w5 ⟨rfl, rfl⟩; first | rw [HRd.out]))
    all_goals first
      | exact ⟨_, rfl, by first | with_reducible exact gbR _ _ | exact hw, by first | (simp [tAt, isV, anyV]; done) | trivial⟩
      | exact ⟨f _, rfl, gbR _ _, trivial⟩
  · intro f w5 hG hd
    have G5 := Lib.hid (gbT GA.out (gbT (gbD (gbR _ none)) hG))
    have k0 := gbk hG (kD (B1.out.cell 0))
    have k1 := gbk hG (kD (B1.out.cell 1))
    have k2 := gbk hG (kD (B1.out.cell 2))
    have k3 := gbk hG (kD (B1.out.cell 3))
    have k4 := gbk hG (kD (B1.out.cell 4))
    have k5 := gbk hG (kD (B1.out.cell 5))
    simp at k0 k1 k2 k3 k4 k5
    simp [knows, tAt, isV, anyV] at hd
    obtain ⟨h0_, h1_, h2_, h3_, h4_, h5_, h6_, h7_, h8_, h9_, h10_, h11_, h12_, h13_, h14_, h15_⟩ := hd
    simp only [puts, dsts, Act.put, h0_, h1_, h2_, h3_, h4_, h5_, h6_, h7_, h8_, h9_, h10_, h11_, h12_, h13_, h14_, h15_, List.filterMap_cons, List.filterMap_nil, List.setIfInBounds_toArray, List.set_cons_zero, List.set_cons_succ]
    clear hG h0_ h1_ h2_ h3_ h4_ h5_ h6_ h7_ h8_ h9_ h10_ h11_ h12_ h13_ h14_ h15_
    go_wp2_with fail
    go_ret
    exact ⟨rfl, G5.out⟩

set_option maxRecDepth 100000 in
set_option maxHeartbeats 4000000 in
theorem specStmtOk_a (o d a b c n o' d' a' b' c' n' : Int) (w : World) (hp : plainV o d a b c n = stV o' d' a' b' c' n') (hq : o = o' ∧ d = d' ∧ a = a' ∧ b = b' ∧ c = c' ∧ n = n') (hrd : regB d = true) (hra : regB a = false) :
    Calls Try.prog 54 #[stV o d a b c n] w fun e w' => e = .returned (.bool false) ∧ w.grownBy w' none := by
  have HPL := Lib.hid hp
  obtain ⟨rfl, rfl, rfl, rfl, rfl, rfl⟩ := hq
  have HRd := Lib.hid hrd
  have HRa := Lib.hid hra
  have B1 := Lib.hid (Blk.new w 25 #[.int .i64 o, .int .i64 d, .int .i64 a, .int .i64 b, .int .i64 c, .int .i64 n])
  have GA := Lib.hid (gbA (gbR w none) (.cells #[.int .i64 o, .int .i64 d, .int .i64 a, .int .i64 b, .int .i64 c, .int .i64 n] 25))
  clear hp hrd hra
  go_enter Try.func54, Try.ntmps54
  go_wp2_with fail
  refine region_grow [isV (stV o d a b c n), isV (stV o d a b c n), isV (stV o d a b c n), isV (.bool false), isV (.bool false), isV (.pointer (some ⟨w.heap.size, 1, none⟩)), isV (.int .i64 d), isV (.bool true), isV (.bool false), isV (.bool false), isV (.bool false), isV (.pointer (some ⟨w.heap.size, 2, none⟩)), isV (.int .i64 a), isV (.bool false), isV (.bool true), isV (.bool true), isV (.bool true), anyV, anyV, anyV, anyV, isV (.bool true), isV (.bool true), anyV, anyV, anyV, anyV, isV (.bool true)] (by kernel_rfl) (by kernel_rfl) (by kernel_rfl) (by simp [stables, isV_st, anyV_st]) ?_ ?_
  · simp only [hops, and_true]
    refine ⟨?_, ?_, ?_, ?_, ?_, ?_, ?_, ?_, ?_, ?_, ?_, ?_, ?_, ?_, ?_, ?_, ?_, ?_, ?_, ?_, ?_, ?_, ?_, ?_, ?_, ?_, ?_, ?_⟩
    all_goals
      intro f w1 hG hd
      have k0 := gbk hG (kD (B1.out.cell 0))
      have k1 := gbk hG (kD (B1.out.cell 1))
      have k2 := gbk hG (kD (B1.out.cell 2))
      have k3 := gbk hG (kD (B1.out.cell 3))
      have k4 := gbk hG (kD (B1.out.cell 4))
      have k5 := gbk hG (kD (B1.out.cell 5))
      simp at k0 k1 k2 k3 k4 k5
      simp [deps, tAt, isV, anyV] at hd
      first | simp [puts, dsts, Act.put, hd] | simp [puts, dsts, Act.put]
      clear hd
      go_wp2_with (first | (go_at_call 100; refine (specl08Plain_c o d a b c n _).mono ?_; rintro e w5 ⟨rfl, hw⟩; rw [HPL.out]) | (go_at_call 101; refine (specl08Reg_c _ _).mono ?_; rintro e w5 ⟨rfl, rfl⟩; first | rw [HRd.out] | rw [HRa.out]))
    all_goals first
      | exact ⟨_, rfl, by first | with_reducible exact gbR _ _ | exact hw, by first | (simp [tAt, isV, anyV]; done) | trivial⟩
      | exact ⟨f _, rfl, gbR _ _, trivial⟩
  · intro f w5 hG hd
    have G5 := Lib.hid (gbT GA.out (gbT (gbD (gbR _ none)) hG))
    have k0 := gbk hG (kD (B1.out.cell 0))
    have k1 := gbk hG (kD (B1.out.cell 1))
    have k2 := gbk hG (kD (B1.out.cell 2))
    have k3 := gbk hG (kD (B1.out.cell 3))
    have k4 := gbk hG (kD (B1.out.cell 4))
    have k5 := gbk hG (kD (B1.out.cell 5))
    simp at k0 k1 k2 k3 k4 k5
    simp [knows, tAt, isV, anyV] at hd
    obtain ⟨h0_, h1_, h2_, h3_, h4_, h5_, h6_, h7_, h8_, h9_, h10_, h11_, h12_, h13_, h14_, h15_, h16_, h17_, h18_, h19_⟩ := hd
    simp only [puts, dsts, Act.put, h0_, h1_, h2_, h3_, h4_, h5_, h6_, h7_, h8_, h9_, h10_, h11_, h12_, h13_, h14_, h15_, h16_, h17_, h18_, h19_, List.filterMap_cons, List.filterMap_nil, List.setIfInBounds_toArray, List.set_cons_zero, List.set_cons_succ]
    clear hG h0_ h1_ h2_ h3_ h4_ h5_ h6_ h7_ h8_ h9_ h10_ h11_ h12_ h13_ h14_ h15_ h16_ h17_ h18_ h19_
    go_wp2_with fail
    go_ret
    exact ⟨rfl, G5.out⟩

set_option maxRecDepth 100000 in
set_option maxHeartbeats 4000000 in
theorem specStmtOk_b (o d a b c n o' d' a' b' c' n' : Int) (w : World) (hp : plainV o d a b c n = stV o' d' a' b' c' n') (hq : o = o' ∧ d = d' ∧ a = a' ∧ b = b' ∧ c = c' ∧ n = n') (hrd : regB d = true) (hra : regB a = true) (hrb : regB b = false) :
    Calls Try.prog 54 #[stV o d a b c n] w fun e w' => e = .returned (.bool false) ∧ w.grownBy w' none := by
  have HPL := Lib.hid hp
  obtain ⟨rfl, rfl, rfl, rfl, rfl, rfl⟩ := hq
  have HRd := Lib.hid hrd
  have HRa := Lib.hid hra
  have HRb := Lib.hid hrb
  have B1 := Lib.hid (Blk.new w 25 #[.int .i64 o, .int .i64 d, .int .i64 a, .int .i64 b, .int .i64 c, .int .i64 n])
  have GA := Lib.hid (gbA (gbR w none) (.cells #[.int .i64 o, .int .i64 d, .int .i64 a, .int .i64 b, .int .i64 c, .int .i64 n] 25))
  clear hp hrd hra hrb
  go_enter Try.func54, Try.ntmps54
  go_wp2_with fail
  refine region_grow [isV (stV o d a b c n), isV (stV o d a b c n), isV (stV o d a b c n), isV (.bool false), isV (.bool false), isV (.pointer (some ⟨w.heap.size, 1, none⟩)), isV (.int .i64 d), isV (.bool true), isV (.bool false), isV (.bool false), isV (.bool false), isV (.pointer (some ⟨w.heap.size, 2, none⟩)), isV (.int .i64 a), isV (.bool true), isV (.bool false), isV (.bool false), isV (.bool false), isV (.pointer (some ⟨w.heap.size, 3, none⟩)), isV (.int .i64 b), isV (.bool false), isV (.bool true), isV (.bool true), isV (.bool true), anyV, anyV, anyV, anyV, isV (.bool true)] (by kernel_rfl) (by kernel_rfl) (by kernel_rfl) (by simp [stables, isV_st, anyV_st]) ?_ ?_
  · simp only [hops, and_true]
    refine ⟨?_, ?_, ?_, ?_, ?_, ?_, ?_, ?_, ?_, ?_, ?_, ?_, ?_, ?_, ?_, ?_, ?_, ?_, ?_, ?_, ?_, ?_, ?_, ?_, ?_, ?_, ?_, ?_⟩
    all_goals
      intro f w1 hG hd
      have k0 := gbk hG (kD (B1.out.cell 0))
      have k1 := gbk hG (kD (B1.out.cell 1))
      have k2 := gbk hG (kD (B1.out.cell 2))
      have k3 := gbk hG (kD (B1.out.cell 3))
      have k4 := gbk hG (kD (B1.out.cell 4))
      have k5 := gbk hG (kD (B1.out.cell 5))
      simp at k0 k1 k2 k3 k4 k5
      simp [deps, tAt, isV, anyV] at hd
      first | simp [puts, dsts, Act.put, hd] | simp [puts, dsts, Act.put]
      clear hd
      go_wp2_with (first | (go_at_call 100; refine (specl08Plain_c o d a b c n _).mono ?_; rintro e w5 ⟨rfl, hw⟩; rw [HPL.out]) | (go_at_call 101; refine (specl08Reg_c _ _).mono ?_; rintro e w5 ⟨rfl, rfl⟩; first | rw [HRd.out] | rw [HRa.out] | rw [HRb.out]))
    all_goals first
      | exact ⟨_, rfl, by first | with_reducible exact gbR _ _ | exact hw, by first | (simp [tAt, isV, anyV]; done) | trivial⟩
      | exact ⟨f _, rfl, gbR _ _, trivial⟩
  · intro f w5 hG hd
    have G5 := Lib.hid (gbT GA.out (gbT (gbD (gbR _ none)) hG))
    have k0 := gbk hG (kD (B1.out.cell 0))
    have k1 := gbk hG (kD (B1.out.cell 1))
    have k2 := gbk hG (kD (B1.out.cell 2))
    have k3 := gbk hG (kD (B1.out.cell 3))
    have k4 := gbk hG (kD (B1.out.cell 4))
    have k5 := gbk hG (kD (B1.out.cell 5))
    simp at k0 k1 k2 k3 k4 k5
    simp [knows, tAt, isV, anyV] at hd
    obtain ⟨h0_, h1_, h2_, h3_, h4_, h5_, h6_, h7_, h8_, h9_, h10_, h11_, h12_, h13_, h14_, h15_, h16_, h17_, h18_, h19_, h20_, h21_, h22_, h23_⟩ := hd
    simp only [puts, dsts, Act.put, h0_, h1_, h2_, h3_, h4_, h5_, h6_, h7_, h8_, h9_, h10_, h11_, h12_, h13_, h14_, h15_, h16_, h17_, h18_, h19_, h20_, h21_, h22_, h23_, List.filterMap_cons, List.filterMap_nil, List.setIfInBounds_toArray, List.set_cons_zero, List.set_cons_succ]
    clear hG h0_ h1_ h2_ h3_ h4_ h5_ h6_ h7_ h8_ h9_ h10_ h11_ h12_ h13_ h14_ h15_ h16_ h17_ h18_ h19_ h20_ h21_ h22_ h23_
    go_wp2_with fail
    go_ret
    exact ⟨rfl, G5.out⟩

set_option maxRecDepth 100000 in
set_option maxHeartbeats 4000000 in
theorem specStmtOk_c' (o d a b c n o' d' a' b' c' n' : Int) (w : World) (hp : plainV o d a b c n = stV o' d' a' b' c' n') (hq : o = o' ∧ d = d' ∧ a = a' ∧ b = b' ∧ c = c' ∧ n = n') (hrd : regB d = true) (hra : regB a = true) (hrb : regB b = true) (hrc : regB c = false) :
    Calls Try.prog 54 #[stV o d a b c n] w fun e w' => e = .returned (.bool false) ∧ w.grownBy w' none := by
  have HPL := Lib.hid hp
  obtain ⟨rfl, rfl, rfl, rfl, rfl, rfl⟩ := hq
  have HRd := Lib.hid hrd
  have HRa := Lib.hid hra
  have HRb := Lib.hid hrb
  have HRc := Lib.hid hrc
  have B1 := Lib.hid (Blk.new w 25 #[.int .i64 o, .int .i64 d, .int .i64 a, .int .i64 b, .int .i64 c, .int .i64 n])
  have GA := Lib.hid (gbA (gbR w none) (.cells #[.int .i64 o, .int .i64 d, .int .i64 a, .int .i64 b, .int .i64 c, .int .i64 n] 25))
  clear hp hrd hra hrb hrc
  go_enter Try.func54, Try.ntmps54
  go_wp2_with fail
  refine region_grow [isV (stV o d a b c n), isV (stV o d a b c n), isV (stV o d a b c n), isV (.bool false), isV (.bool false), isV (.pointer (some ⟨w.heap.size, 1, none⟩)), isV (.int .i64 d), isV (.bool true), isV (.bool false), isV (.bool false), isV (.bool false), isV (.pointer (some ⟨w.heap.size, 2, none⟩)), isV (.int .i64 a), isV (.bool true), isV (.bool false), isV (.bool false), isV (.bool false), isV (.pointer (some ⟨w.heap.size, 3, none⟩)), isV (.int .i64 b), isV (.bool true), isV (.bool false), isV (.bool false), isV (.bool false), isV (.pointer (some ⟨w.heap.size, 4, none⟩)), isV (.int .i64 c), isV (.bool false), isV (.bool true), isV (.bool true)] (by kernel_rfl) (by kernel_rfl) (by kernel_rfl) (by simp [stables, isV_st, anyV_st]) ?_ ?_
  · simp only [hops, and_true]
    refine ⟨?_, ?_, ?_, ?_, ?_, ?_, ?_, ?_, ?_, ?_, ?_, ?_, ?_, ?_, ?_, ?_, ?_, ?_, ?_, ?_, ?_, ?_, ?_, ?_, ?_, ?_, ?_, ?_⟩
    all_goals
      intro f w1 hG hd
      have k0 := gbk hG (kD (B1.out.cell 0))
      have k1 := gbk hG (kD (B1.out.cell 1))
      have k2 := gbk hG (kD (B1.out.cell 2))
      have k3 := gbk hG (kD (B1.out.cell 3))
      have k4 := gbk hG (kD (B1.out.cell 4))
      have k5 := gbk hG (kD (B1.out.cell 5))
      simp at k0 k1 k2 k3 k4 k5
      simp [deps, tAt, isV, anyV] at hd
      first | simp [puts, dsts, Act.put, hd] | simp [puts, dsts, Act.put]
      clear hd
      go_wp2_with (first | (go_at_call 100; refine (specl08Plain_c o d a b c n _).mono ?_; rintro e w5 ⟨rfl, hw⟩; rw [HPL.out]) | (go_at_call 101; refine (specl08Reg_c _ _).mono ?_; rintro e w5 ⟨rfl, rfl⟩; first | rw [HRd.out] | rw [HRa.out] | rw [HRb.out] | rw [HRc.out]))
    all_goals first
      | exact ⟨_, rfl, by first | with_reducible exact gbR _ _ | exact hw, by first | (simp [tAt, isV, anyV]; done) | trivial⟩
      | exact ⟨f _, rfl, gbR _ _, trivial⟩
  · intro f w5 hG hd
    have G5 := Lib.hid (gbT GA.out (gbT (gbD (gbR _ none)) hG))
    have k0 := gbk hG (kD (B1.out.cell 0))
    have k1 := gbk hG (kD (B1.out.cell 1))
    have k2 := gbk hG (kD (B1.out.cell 2))
    have k3 := gbk hG (kD (B1.out.cell 3))
    have k4 := gbk hG (kD (B1.out.cell 4))
    have k5 := gbk hG (kD (B1.out.cell 5))
    simp at k0 k1 k2 k3 k4 k5
    simp [knows, tAt, isV, anyV] at hd
    obtain ⟨h0_, h1_, h2_, h3_, h4_, h5_, h6_, h7_, h8_, h9_, h10_, h11_, h12_, h13_, h14_, h15_, h16_, h17_, h18_, h19_, h20_, h21_, h22_, h23_, h24_, h25_, h26_, h27_⟩ := hd
    simp only [puts, dsts, Act.put, h0_, h1_, h2_, h3_, h4_, h5_, h6_, h7_, h8_, h9_, h10_, h11_, h12_, h13_, h14_, h15_, h16_, h17_, h18_, h19_, h20_, h21_, h22_, h23_, h24_, h25_, h26_, h27_, List.filterMap_cons, List.filterMap_nil, List.setIfInBounds_toArray, List.set_cons_zero, List.set_cons_succ]
    clear hG h0_ h1_ h2_ h3_ h4_ h5_ h6_ h7_ h8_ h9_ h10_ h11_ h12_ h13_ h14_ h15_ h16_ h17_ h18_ h19_ h20_ h21_ h22_ h23_ h24_ h25_ h26_ h27_
    go_wp2_with fail
    go_ret
    exact ⟨rfl, G5.out⟩

set_option maxRecDepth 100000 in
set_option maxHeartbeats 4000000 in
theorem specStmtOk_ok (o d a b c n o' d' a' b' c' n' : Int) (w : World) (hp : plainV o d a b c n = stV o' d' a' b' c' n') (hq : o = o' ∧ d = d' ∧ a = a' ∧ b = b' ∧ c = c' ∧ n = n') (hrd : regB d = true) (hra : regB a = true) (hrb : regB b = true) (hrc : regB c = true) :
    Calls Try.prog 54 #[stV o d a b c n] w fun e w' => e = .returned (.bool (stmtK o a n)) ∧ w.grownBy w' none := by
  have HPL := Lib.hid hp
  obtain ⟨rfl, rfl, rfl, rfl, rfl, rfl⟩ := hq
  have HRd := Lib.hid hrd
  have HRa := Lib.hid hra
  have HRb := Lib.hid hrb
  have HRc := Lib.hid hrc
  have B1 := Lib.hid (Blk.new w 25 #[.int .i64 o, .int .i64 d, .int .i64 a, .int .i64 b, .int .i64 c, .int .i64 n])
  have GA := Lib.hid (gbA (gbR w none) (.cells #[.int .i64 o, .int .i64 d, .int .i64 a, .int .i64 b, .int .i64 c, .int .i64 n] 25))
  clear hp hrd hra hrb hrc
  go_enter Try.func54, Try.ntmps54
  go_wp2_with fail
  refine region_grow [isV (stV o d a b c n), isV (stV o d a b c n), isV (stV o d a b c n), isV (.bool false), isV (.bool false), isV (.pointer (some ⟨w.heap.size, 1, none⟩)), isV (.int .i64 d), isV (.bool true), isV (.bool false), isV (.bool false), isV (.bool false), isV (.pointer (some ⟨w.heap.size, 2, none⟩)), isV (.int .i64 a), isV (.bool true), isV (.bool false), isV (.bool false), isV (.bool false), isV (.pointer (some ⟨w.heap.size, 3, none⟩)), isV (.int .i64 b), isV (.bool true), isV (.bool false), isV (.bool false), isV (.bool false), isV (.pointer (some ⟨w.heap.size, 4, none⟩)), isV (.int .i64 c), isV (.bool true), isV (.bool false), isV (.bool false)] (by kernel_rfl) (by kernel_rfl) (by kernel_rfl) (by simp [stables, isV_st, anyV_st]) ?_ ?_
  · simp only [hops, and_true]
    refine ⟨?_, ?_, ?_, ?_, ?_, ?_, ?_, ?_, ?_, ?_, ?_, ?_, ?_, ?_, ?_, ?_, ?_, ?_, ?_, ?_, ?_, ?_, ?_, ?_, ?_, ?_, ?_, ?_⟩
    all_goals
      intro f w1 hG hd
      have k0 := gbk hG (kD (B1.out.cell 0))
      have k1 := gbk hG (kD (B1.out.cell 1))
      have k2 := gbk hG (kD (B1.out.cell 2))
      have k3 := gbk hG (kD (B1.out.cell 3))
      have k4 := gbk hG (kD (B1.out.cell 4))
      have k5 := gbk hG (kD (B1.out.cell 5))
      simp at k0 k1 k2 k3 k4 k5
      simp [deps, tAt, isV, anyV] at hd
      first | simp [puts, dsts, Act.put, hd] | simp [puts, dsts, Act.put]
      clear hd
      go_wp2_with (first | (go_at_call 100; refine (specl08Plain_c o d a b c n _).mono ?_; rintro e w5 ⟨rfl, hw⟩; rw [HPL.out]) | (go_at_call 101; refine (specl08Reg_c _ _).mono ?_; rintro e w5 ⟨rfl, rfl⟩; first | rw [HRd.out] | rw [HRa.out] | rw [HRb.out] | rw [HRc.out]))
    all_goals first
      | exact ⟨_, rfl, by first | with_reducible exact gbR _ _ | exact hw, by first | (simp [tAt, isV, anyV]; done) | trivial⟩
      | exact ⟨f _, rfl, gbR _ _, trivial⟩
  · intro f w5 hG hd
    have G5 := Lib.hid (gbT GA.out (gbT (gbD (gbR _ none)) hG))
    have k0 := gbk hG (kD (B1.out.cell 0))
    have k1 := gbk hG (kD (B1.out.cell 1))
    have k2 := gbk hG (kD (B1.out.cell 2))
    have k3 := gbk hG (kD (B1.out.cell 3))
    have k4 := gbk hG (kD (B1.out.cell 4))
    have k5 := gbk hG (kD (B1.out.cell 5))
    simp at k0 k1 k2 k3 k4 k5
    simp [knows, tAt, isV, anyV] at hd
    obtain ⟨h0_, h1_, h2_, h3_, h4_, h5_, h6_, h7_, h8_, h9_, h10_, h11_, h12_, h13_, h14_, h15_, h16_, h17_, h18_, h19_, h20_, h21_, h22_, h23_, h24_, h25_, h26_, h27_⟩ := hd
    simp only [puts, dsts, Act.put, h0_, h1_, h2_, h3_, h4_, h5_, h6_, h7_, h8_, h9_, h10_, h11_, h12_, h13_, h14_, h15_, h16_, h17_, h18_, h19_, h20_, h21_, h22_, h23_, h24_, h25_, h26_, h27_, List.filterMap_cons, List.filterMap_nil, List.setIfInBounds_toArray, List.set_cons_zero, List.set_cons_succ]
    clear hG h0_ h1_ h2_ h3_ h4_ h5_ h6_ h7_ h8_ h9_ h10_ h11_ h12_ h13_ h14_ h15_ h16_ h17_ h18_ h19_ h20_ h21_ h22_ h23_ h24_ h25_ h26_ h27_
    go_wp2_with (go_at_call 77; refine (spec.l01In_q _ _ _ _).mono ?_; rintro e w6 ⟨rfl, rfl⟩)
    all_goals
      go_ret
      exact ⟨retB (by first | (simp_all [stmtK]; done) | (simp_all [stmtK]; intros; omega)), G5.out⟩

end Go.Proofs.Ytaokichfakolmaa
