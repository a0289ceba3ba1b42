/-
  The laws' helpers on slices of structs of numbers (printed by wip/gen_tab.py).
-/
import Derived.Test.YthdfkiaoahpjpaaMgFnExactCopiesNew9
import Derived.StillTailTactics
namespace Go.Proofs.Ythdfkiaoahpjpaa
open Go.RowKit
set_option linter.unusedVariables false
set_option linter.unusedSimpArgs false
theorem c3_one (x : Int × Int × Int) : ∀ u ∈ c3 x, u.oneCell' = true := by simp [c3, Value.oneCell']
def mk3 (k : Int) (n : Nat) : List (Int × Int × Int) := (List.range n).map fun i : Nat => (k + 3 * i, k + 3 * i + 1, k + 3 * i + 1 + 1)
def mkd3 (k : Int) (xs : List (Int × Int × Int)) (j : Nat) : List (Int × Int × Int) := (List.range j).map (fun i : Nat => (k + 3 * i, k + 3 * i + 1, k + 3 * i + 1 + 1)) ++ xs.drop j
theorem mkd3_step (k : Int) (xs : List (Int × Int × Int)) (j : Nat) (h : j < xs.length) : (mkd3 k xs j).set j (k + 3 * j, k + 3 * j + 1, k + 3 * j + 1 + 1) = mkd3 k xs (j + 1) := fill_step (fun i : Nat => (k + 3 * i, k + 3 * i + 1, k + 3 * i + 1 + 1)) xs j h
theorem mkd3_len (k : Int) (xs : List (Int × Int × Int)) (j : Nat) (h : j ≤ xs.length) : (mkd3 k xs j).length = xs.length := by simp [mkd3]; omega
theorem mkd3_all (k : Int) (xs : List (Int × Int × Int)) (n : Nat) (h : xs.length = n) : mkd3 k xs n = mk3 k n := by simp [mkd3, mk3, ← h]
theorem elGate : El Try.prog 26 41 (.agg #[.int .i64 0, .int .i64 0, .int .i64 0]) 3 24 := ⟨Try.underlying26, by kernel_rfl, rfl, by decide⟩
set_option maxHeartbeats 400000 in
theorem toGate_c (a b c : Int) (w : World) :
    Calls Try.prog 102 #[.agg #[.int .i64 a, .int .i64 b, .int .i64 c]] w fun e w' => e = .returned (.agg #[.int .i64 a, .int .i64 b, .int .i64 c]) ∧ w.grownBy w' none := by
  go_enter Try.func102, Try.ntmps102
  go_wp2_with fail
  exact bodyPost_ret (by simp [results, Try.results102, go_sem]) rfl ⟨rfl, by repeat (first | with_reducible exact gbR _ _ | with_reducible refine gbA ?_ _)⟩
theorem eqGate_c (a b c : Int) (w : World) :
    Calls Try.prog 109 #[.agg #[.int .i64 a, .int .i64 b, .int .i64 c], .agg #[.int .i64 a, .int .i64 b, .int .i64 c]] w fun e w' => e = .returned (.bool true) ∧ w.grownBy w' none := by
  go_enter Try.func109, Try.ntmps109
  go_wp2_with fail
  all_goals
    go_ret
    exact ⟨rfl, by repeat (first | with_reducible exact gbR _ _ | with_reducible refine gbA ?_ _)⟩
set_option maxHeartbeats 400000 in
theorem toGateS_c (A : Option Addr) (n c : Nat) (xs : List (Int × Int × Int)) (w : World) (hx : FL c3 3 w A n xs) (hn : n ≤ 1099511627776) :
    Calls Try.prog 74 #[.slice A n c] w fun e w' => ∃ g, e = .returned (.slice (some ⟨g, 0, none⟩) n n) ∧ w'.ownsRow w.heap.size 41 3 (.slice (some ⟨g, 0, none⟩) n n) n (xs.flatMap c3) ∧ w.grownBy w' none := by
  have lx := Lib.hid hx.len
  go_enter Try.func74, Try.ntmps74
  go_wp2_with (at_make; refine wp_makeN _ elGate rfl _ _ rfl n rfl rfl (by omega) (by unfold maxLen; omega) ?_; intro w1 hown1 hg1; rw [made_flat c3_len (by omega) (0, 0, 0) _ (by rfl)] at hown1)
  have O1 := Lib.hid hown1
  have G1 := Lib.hid hg1
  clear hown1 hg1
  go_loopw [4] (fun i wr => ∃ k : Nat, k ≤ n ∧ i = .int .i64 k ∧ Hid (wr.ownsRow w.heap.size 41 3 (.slice (some ⟨w.heap.size, 0, none⟩) n n) n ((xs.take k ++ List.replicate (xs.length - k) (0, 0, 0)).flatMap c3)) ∧ Hid (w.grownBy wr none)) (fun i _ => n - (intOf i).toNat)
  case atStart => exact ⟨0, Nat.zero_le _, rfl, by simpa [Hid, lx.out] using O1.out, G1.out⟩
  case round =>
    obtain ⟨k, hk, rfl, hown, hg⟩ := hrel
    by_cases hlt : k < n
    · obtain ⟨b, o, x, rfl, hb, hxk, hc⟩ := (FL.grow hx hg.out).cell c3_len hlt (by omega)
      obtain ⟨a, b, c⟩ := x
      have q0 := hc 0 (by omega)
      have q1 := hc 1 (by omega)
      have q2 := hc 2 (by omega)
      simp only [c3, Nat.add_zero, ← Nat.add_assoc, List.getElem?_cons_zero, List.getElem?_cons_succ] at q0 q1 q2
      have HX := Lib.hid hxk
      have i1 : (k : Int) < (n : Int) := by omega
      clear hxk hc
      go_wp2_with fail
      refine (toGate_c a b c _).mono ?_
      rintro e w2 ⟨rfl, h2⟩
      have hown2 := own_grow hown.out h2
      have hl2 : ((xs.take k ++ List.replicate (xs.length - k) (0, 0, 0)).flatMap c3).length = n * 3 := hown2.1
      have hcell := fun j (hj : j < n * 3) => hown2.cellAt j hj
      obtain ⟨u0, t0⟩ : ∃ u, w2.cell? ⟨w.heap.size, k * 3 + 0, none⟩ = some u := ⟨_, (hcell (k * 3 + 0) (by omega)).trans (List.getElem?_eq_getElem (by rw [hl2]; omega))⟩
      have f0 := hown2.frozenAt (k * 3 + 0)
      obtain ⟨u1, t1⟩ : ∃ u, w2.cell? ⟨w.heap.size, k * 3 + 1, none⟩ = some u := ⟨_, (hcell (k * 3 + 1) (by omega)).trans (List.getElem?_eq_getElem (by rw [hl2]; omega))⟩
      have f1 := hown2.frozenAt (k * 3 + 1)
      obtain ⟨u2, t2⟩ : ∃ u, w2.cell? ⟨w.heap.size, k * 3 + 2, none⟩ = some u := ⟨_, (hcell (k * 3 + 2) (by omega)).trans (List.getElem?_eq_getElem (by rw [hl2]; omega))⟩
      have f2 := hown2.frozenAt (k * 3 + 2)
      simp only [Nat.add_zero] at t0 f0
      have s0 := hown2.stored (k * 3 + 0) (.int .i64 a)
      have s1 := s0.1.stored (k * 3 + 1) (.int .i64 b)
      have s2 := s1.1.stored (k * 3 + 2) (.int .i64 c)
      have g3 : wr.grownBy _ (some w.heap.size) := gbT (gbW h2) (gbT (gbT s0.2 s1.2) s2.2)
      have hlk : k < xs.length := by have := lx.out; omega
      have hxk' : xs[k] = (a, b, c) := by have := HX.out; rw [List.getElem?_eq_getElem hlk] at this; injection this
      have sN := s2.1
      simp only [Nat.add_zero] at sN g3
      rw [flat_set3 c3_len _ k (by simp; omega) (a, b, c) (.int .i64 a) (.int .i64 b) (.int .i64 c) rfl, ← hxk', fillD_step (0, 0, 0) xs k hlk] at sN
      have HN := Lib.hid sN
      have G3 := Lib.hid (gbN hg.out g3 (fun g e => by injection e with e; omega))
      clear s0 s1 s2 sN g3 hown2 hcell hl2 hown
      go_wp2_with fail
      go_roundw
      case rel => exact ⟨k + 1, by omega, by go_num, HN.out, G3.out⟩
      case measure => simp [intOf]; omega
    · have hkn : k = n := by omega
      subst hkn
      go_wp2_with fail
      go_ret
      have hl := lx.out
      have ho := hown.out
      rw [hl, Nat.sub_self, List.replicate_zero, List.append_nil, List.take_of_length_le (by omega)] at ho
      exact ⟨_, rfl, ho, hg.out⟩
set_option maxRecDepth 100000 in
set_option maxHeartbeats 400000 in
theorem eqGateS_c (A B : Option Addr) (n c d : Nat) (xs : List (Int × Int × Int)) (w : World) (hx : FL c3 3 w A n xs) (hy : FL c3 3 w B n xs) (hn : n ≤ 4611686018427387903) :
    Calls Try.prog 79 #[.slice A n c, .slice B n d] w fun e w' => e = .returned (.bool true) ∧ w.grownBy w' none := by
  have hd : ((n : Int) != (n : Int)) = false := by simp
  go_enter Try.func79, Try.ntmps79
  go_wp2_with fail
  go_loopw [5] (fun i wr => ∃ k : Nat, k ≤ n ∧ i = .int .i64 k ∧ Hid (w.grownBy wr none)) (fun i _ => n - (intOf i).toNat)
  case atStart => exact ⟨0, Nat.zero_le _, rfl, gbR _ _⟩
  case round =>
    obtain ⟨k, hk, rfl, hg⟩ := hrel
    by_cases hlt : k < n
    · obtain ⟨b, o, x, rfl, hb, hxk, hc⟩ := (FL.grow hx hg.out).cell c3_len hlt (by omega)
      obtain ⟨b', o', x', rfl, hb', hxk', hc'⟩ := (FL.grow hy hg.out).cell c3_len hlt (by omega)
      obtain rfl : x = x' := by rw [hxk] at hxk'; injection hxk'
      obtain ⟨a, b, c⟩ := x
      have q0 := hc 0 (by omega)
      have r0 := hc' 0 (by omega)
      have q1 := hc 1 (by omega)
      have r1 := hc' 1 (by omega)
      have q2 := hc 2 (by omega)
      have r2 := hc' 2 (by omega)
      simp only [c3, Nat.add_zero, ← Nat.add_assoc, List.getElem?_cons_zero, List.getElem?_cons_succ] at q0 r0 q1 r1 q2 r2
      have i1 : (k : Int) < (n : Int) := by omega
      clear hxk hxk' hc hc'
      go_wp2_with fail
      go_still_tail 8, (by kernel_rfl)
      go_wp2_with fail
      refine (eqGate_c a b c _).mono ?_
      rintro e w2 ⟨rfl, h2⟩
      have G2 := Lib.hid (gbT (gbD hg.out) h2)
      clear h2
      go_wp2_with fail
      go_roundw
      case rel => exact ⟨k + 1, by omega, by go_num, G2.out⟩
      case measure => simp [intOf]; omega
    · have hkn : k = n := by omega
      subst hkn
      go_wp2_with fail
      go_ret
      exact ⟨rfl, hg.out⟩
set_option maxHeartbeats 800000 in
theorem markGateS_c (base : Nat) (A : Option Addr) (n c : Nat) (xs : List (Int × Int × Int)) (k0 : Int) (w : World) (hx : w.ownsRow base 41 3 (.slice A n c) n (xs.flatMap c3)) (hn : n ≤ 1099511627776) (h0 : 0 ≤ k0) (h1 : k0 ≤ 1099511627776) :
    Calls Try.prog 80 #[.slice A n c, .int .i64 k0] w fun e w' => e = .returned (.int .i64 (k0 + 3 * n)) ∧ w'.ownsRow base 41 3 (.slice A n c) n ((mk3 k0 n).flatMap c3) ∧ w.grownBy w' (A.map (·.block)) := by
  have lx : Hid (xs.length = n) := by have := hx.1; rw [flat_len c3_len] at this; exact div_of (by omega) this
  go_enter Try.func80, Try.ntmps80
  go_wp2_with fail
  go_loopw [5, 1] (fun i s wr => ∃ j : Nat, j ≤ n ∧ i = .int .i64 j ∧ s = .int .i64 (k0 + 3 * j) ∧ wr.ownsRow base 41 3 (.slice A n c) n ((mkd3 k0 xs j).flatMap c3) ∧ Hid (w.grownBy wr (A.map (·.block)))) (fun i _ _ => n - (intOf i).toNat)
  case atStart => exact ⟨0, Nat.zero_le _, rfl, by go_num, by simpa [mkd3] using hx, gbR _ _⟩
  case round =>
    clear hx
    obtain ⟨j, hk, rfl, rfl, hown, hg⟩ := hrel
    by_cases hlt : j < n
    · obtain ⟨g, he⟩ : ∃ g, A = some ⟨g, 0, none⟩ := by
        rcases hown.2 with ⟨h, h'⟩ | ⟨g, cap, cur, hv, _⟩
        · omega
        · injection hv with hv; exact ⟨g, hv⟩
      subst he
      have hl2 : ((mkd3 k0 xs j).flatMap c3).length = n * 3 := hown.1
      have hcell := fun i (hi : i < n * 3) => hown.cellAt i hi
      obtain ⟨u0, t0⟩ : ∃ u, wr.cell? ⟨g, j * 3 + 0, none⟩ = some u := ⟨_, (hcell (j * 3 + 0) (by omega)).trans (List.getElem?_eq_getElem (by rw [hl2]; omega))⟩
      have f0 := hown.frozenAt (j * 3 + 0)
      obtain ⟨u1, t1⟩ : ∃ u, wr.cell? ⟨g, j * 3 + 1, none⟩ = some u := ⟨_, (hcell (j * 3 + 1) (by omega)).trans (List.getElem?_eq_getElem (by rw [hl2]; omega))⟩
      have f1 := hown.frozenAt (j * 3 + 1)
      obtain ⟨u2, t2⟩ : ∃ u, wr.cell? ⟨g, j * 3 + 2, none⟩ = some u := ⟨_, (hcell (j * 3 + 2) (by omega)).trans (List.getElem?_eq_getElem (by rw [hl2]; omega))⟩
      have f2 := hown.frozenAt (j * 3 + 2)
      simp only [Nat.add_zero] at t0 f0
      have s0 := hown.stored (j * 3 + 0) (.int .i64 (k0 + 3 * j))
      have s1 := s0.1.stored (j * 3 + 1) (.int .i64 (k0 + 3 * j + 1))
      have s2 := s1.1.stored (j * 3 + 2) (.int .i64 (k0 + 3 * j + 1 + 1))
      have g3 : wr.grownBy _ (some g) := (gbT (gbT s0.2 s1.2) s2.2)
      have hlk : j < (mkd3 k0 xs j).length := by have := lx.out; rw [mkd3_len _ _ _ (by omega)]; omega
      have sN := s2.1
      simp only [Nat.add_zero] at sN g3
      rw [flat_set3 c3_len _ j hlk (k0 + 3 * j, k0 + 3 * j + 1, k0 + 3 * j + 1 + 1) (.int .i64 (k0 + 3 * j)) (.int .i64 (k0 + 3 * j + 1)) (.int .i64 (k0 + 3 * j + 1 + 1)) rfl, mkd3_step k0 xs j (by have := lx.out; omega)] at sN
      have HN := Lib.hid sN
      have G3 := Lib.hid (gbT hg.out g3)
      have i1 : (j : Int) < (n : Int) := by omega
      clear s0 s1 s2 sN g3 hcell hl2 hown hlk
      go_wp2_with fail
      go_roundw
      case rel => exact ⟨j + 1, by omega, by go_num, by go_num, HN.out, G3.out⟩
      case measure => simp [intOf]; omega
    · have hkn : j = n := by omega
      subst hkn
      rw [mkd3_all k0 xs j lx.out] at hown
      go_wp2_with fail
      go_ret
      exact ⟨rfl, hown, hg.out⟩
end Go.Proofs.Ythdfkiaoahpjpaa
