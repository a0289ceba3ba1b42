/-
  sameInts: the laws' own comparison of lists of numbers.
-/
import Derived.Test.YtapljpcpmdlppaaMgFnArithmetics38
namespace Go.Proofs.Ytapljpcpmdlppaa
open Go.RowKit
set_option linter.unusedVariables false
set_option linter.unusedSimpArgs false
set_option maxHeartbeats 400000 in
theorem sameInts_c (A B : Option Addr) (n m c d : Nat) (xs ys : List Int) (w : World) (hx : Ints w A n xs) (hy : Ints w B m ys) (hn : n ≤ 4611686018427387903) (hm : m ≤ 4611686018427387903) :
    Calls Try.prog 50 #[.slice A n c, .slice B m d] w fun e w' => e = .returned (.bool (xs == ys)) ∧ ∃ q, w' = w.drewN q := by
  have lx := hx.len
  have ly := hy.len
  by_cases hnm : n = m
  · subst hnm
    have hd : ((n : Int) != (n : Int)) = false := by simp
    have LX := Lib.hid lx
    have LY := Lib.hid ly
    clear lx ly
    go_enter Try.func50, Try.ntmps50
    go_wp2_with fail
    go_loopw [5] (fun i w1 => ∃ k q : Nat, k ≤ n ∧ i = .int .i64 k ∧ w1 = w.drewN q ∧ Hid (xs.take k = ys.take k)) (fun i _ => n - (intOf i).toNat)
    case atStart => exact ⟨0, 0, Nat.zero_le _, rfl, rfl, by simp [Hid]⟩
    case round =>
      obtain ⟨k, q, hk, rfl, rfl, heq⟩ := hrel
      by_cases hlt : k < n
      · obtain ⟨b, o, rfl, hb, hc⟩ := hx.at_ (by omega)
        obtain ⟨b', o', rfl, hb', hc'⟩ := hy.at_ (by omega)
        have c1 := hc k hlt
        have c2 := hc' k hlt
        clear hc hc'
        have i1 : (k : Int) < (n : Int) := by omega
        go_wp2_with fail
        go_quiet (fail)
        go_wp2_with fail
        · have hne : (xs[k]?.getD 0 != ys[k]?.getD 0) = true := by assumption
          go_ret
          have h1 := LX.out; have h2 := LY.out
          have := ne_of_at xs ys 0 k (by simpa using hne)
          exact ⟨by simp [this], _, dN ..⟩
        · have hne : (xs[k]?.getD 0 != ys[k]?.getD 0) = false := by assumption
          go_roundw
          case rel =>
            have h1 := LX.out; have h2 := LY.out
            exact ⟨k + 1, _, by omega, by go_num, rfl, take_eq_succ xs ys 0 k (by omega) (by omega) heq.out (by simpa using hne)⟩
          case measure => simp [intOf]; omega
      · have hkn : k = n := by omega
        subst hkn
        go_wp2_with fail
        go_ret
        have h1 := LX.out; have h2 := LY.out
        exact ⟨by simp [eq_of_take xs ys k h1 h2 heq.out], _, rfl⟩
  · have hd : ((n : Int) != (m : Int)) = true := by simp; omega
    go_enter Try.func50, Try.ntmps50
    go_wp2_with fail
    go_ret
    have : ¬ xs = ys := by rintro rfl; omega
    exact ⟨by simp [this], 0, rfl⟩

end Go.Proofs.Ytapljpcpmdlppaa
